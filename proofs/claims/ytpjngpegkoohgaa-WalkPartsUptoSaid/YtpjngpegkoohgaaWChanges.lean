/-
  Changes that are drawn.
-/
import Derived.Test.YtpjngpegkoohgaaChange
import Derived.Test.YtpjngpegkoohgaaPick
import Derived.Test.YtpjngpegkoohgaaCopy
import Derived.Test.YtpjngpegkoohgaaUndo
import Derived.Test.YtpjngpegkoohgaaBase
import Derived.Test.YtpjngpegkoohgaaWPlayC
import Derived.Test.YtpjngpegkoohgaaWCopied
import Derived.Test.YtpjngpegkoohgaaWPaths
import Derived.Test.YtpjngpegkoohgaaWCount
import Derived.Test.YtpjngpegkoohgaaWNodes
import Derived.Test.YtpjngpegkoohgaaPick
set_option linter.unusedVariables false
set_option linter.unusedSimpArgs false
set_option maxRecDepth 100000
namespace Go.Proofs.Ytpjngpegkoohgaa
open Go.Vl

namespace WChanges
theorem ty3 : Ty Try.prog 3 1 8 (.int .i64 0) := Ty.of (by kernel_rfl)
theorem ty9 : Ty Try.prog 9 1 16 (.string ⟨#[]⟩) := Ty.of (by kernel_rfl)
theorem ty22 : Ty Try.prog 22 1 24 (.slice none 0 0) := Ty.of (by kernel_rfl)
theorem ty24 : Ty Try.prog 24 1 24 (.slice none 0 0) := Ty.of (by kernel_rfl)
theorem ty40 : Ty Try.prog 40 1 24 (.slice none 0 0) := Ty.of (by kernel_rfl)
theorem ty42 : Ty Try.prog 42 4 80 (.agg #[.string ⟨#[]⟩, .slice none 0 0, .string ⟨#[]⟩, .slice none 0 0]) := Ty.of (by kernel_rfl)
theorem ty51 : Ty Try.prog 51 6 112 (.agg #[.int .i64 0, .slice none 0 0, .string ⟨#[]⟩, .slice none 0 0, .string ⟨#[]⟩, .slice none 0 0]) := Ty.of (by kernel_rfl)
theorem ty53 : Ty Try.prog 53 3 40 (.agg #[.int .i64 0, .int .i64 0, .slice none 0 0]) := Ty.of (by kernel_rfl)
theorem ag3 : IsAgg Try.prog 3 false := ⟨_, Try.underlying3, rfl⟩
theorem ag9 : IsAgg Try.prog 9 false := ⟨_, Try.underlying9, rfl⟩
theorem ag22 : IsAgg Try.prog 22 false := ⟨_, Try.underlying22, rfl⟩
theorem ag24 : IsAgg Try.prog 24 false := ⟨_, Try.underlying24, rfl⟩
theorem ag42 : IsAgg Try.prog 42 true := ⟨_, Try.underlying42, rfl⟩
theorem ag51 : IsAgg Try.prog 51 true := ⟨_, Try.underlying51, rfl⟩
theorem fa42_0 : FieldAt Try.prog 42 0 0 1 false := ⟨_, _, Try.underlying42, rfl, rfl, ty9.size, ag9, by decide⟩
theorem fa42_3 : FieldAt Try.prog 42 3 3 1 false := ⟨_, _, Try.underlying42, rfl, rfl, ty24.size, ag24, by decide⟩
theorem fa51_0 : FieldAt Try.prog 51 0 0 1 false := ⟨_, _, Try.underlying51, rfl, rfl, ty3.size, ag3, by decide⟩
theorem fa51_2 : FieldAt Try.prog 51 2 2 4 true := ⟨_, _, Try.underlying51, rfl, rfl, ty42.size, ag42, by decide⟩
theorem fa53_0 : FieldAt Try.prog 53 0 0 1 false := ⟨_, _, Try.underlying53, rfl, rfl, ty3.size, ag3, by decide⟩
theorem fa53_1 : FieldAt Try.prog 53 1 1 1 false := ⟨_, _, Try.underlying53, rfl, rfl, ty3.size, ag3, by decide⟩
theorem fa53_2 : FieldAt Try.prog 53 2 2 1 false := ⟨_, _, Try.underlying53, rfl, rfl, ty22.size, ag22, by decide⟩
theorem st42 : StructAt Try.prog 42 [(0, 1), (1, 1), (2, 1), (3, 1)] := ⟨_, Try.underlying42, rfl, ty9.size, rfl, ty40.size, rfl, ty9.size, rfl, ty24.size, trivial⟩
theorem st51 : StructAt Try.prog 51 [(0, 1), (1, 1), (2, 4)] := ⟨_, Try.underlying51, rfl, ty3.size, rfl, ty22.size, rfl, ty42.size, trivial⟩
theorem ni22 : NotInt Try.prog 22 := .inl ⟨_, Try.underlying22⟩
theorem ni27 : NotInt Try.prog 27 := .inl ⟨_, Try.underlying27⟩
theorem c_Changes (l : List Nd) (ts : List Tn) (hl : Nd.szs l ≤ 2097152) (hw : Nd.wfs l) (hts : (ts.map fun t => t.node.length).sum ≤ 1048576) (htn : ts.length ≤ 1048576) : FnC Try.prog 6 [.sl 4 (l.map Nd.av), .sl 3 (ts.map tnv), .int 10] [] (fun r M => ∃ (cs : List Ch) (v : Value), r = .tup [.lit v, .sl 4 ((Ch.run l cs).map Nd.av), .bool true] ∧ M = [.arr v 51 6 (cs.map cav)] ∧ cs.length ≤ 10 ∧ Ch.oks 16777216 l cs) :=  by
  refine FnC.mk Try.func6 (by kernel_rfl) rfl Try.ntmps6 rfl (fun w0 F => ?_)
  have htl : (ts.map tnv).length = ts.length := List.length_map ..
  refine W.seq ?_
  refine W.region ?_
  refine W.q (Ev.assign .k) rfl ?_
  refine W.q (Ev.assign .k) rfl ?_
  refine W.q (Ev.assign .k) rfl ?_
  refine W.nil ?_
  refine W.then ?_
  refine W.seq ?_
  refine W.region ?_
  refine W.q (Ev.assign .k) rfl ?_
  refine W.nil ?_
  refine W.then ?_
  refine W.seq ?_
  refine W.region ?_
  refine W.q (Ev.move (.t rfl)) rfl ?_
  refine W.q (Ev.assign (.t rfl)) rfl ?_
  refine W.nil ?_
  refine W.then ?_
  refine W.seq ?_
  refine W.seq ?_
  refine W.region ?_
  refine W.q (Ev.assign .k) rfl ?_
  refine W.nil ?_
  refine W.then ?_
  refine W.block ?_
  refine W.own_nil 51 6 ?_
  refine W.loop (D := []) (ι := Nat × Value × List Ch) (fun z => [(11, true, .int (z.1 : Int)), (10, true, .sl 4 ((Ch.run l z.2.2).map Nd.av)), (9, true, .lit z.2.1), (1, true, .sl 3 (ts.map tnv)), (2, true, .int 10)]) (fun z => [.arr z.2.1 51 6 (z.2.2.map cav)]) (fun z => z.1 ≤ ts.length ∧ z.1 ≤ 10 ∧ z.2.2.length = z.1 ∧ Ch.oks 16777216 l z.2.2 ∧ Nd.szs (Ch.run l z.2.2) ≤ 2097152 + 2 * (((ts.take z.1).map fun t => t.node.length).sum) + z.1) (fun z => ts.length - z.1) (0, .slice none 0 0, []) ⟨rfl, rfl, rfl, rfl, rfl, trivial⟩ (.refl _) ⟨Nat.zero_le _, Nat.zero_le _, rfl, ⟨by omega, hw⟩, by show Nd.szs l ≤ _; omega⟩ ?_
  rintro ⟨i, v, cs⟩ ⟨hi, hi10, hcl, hok, hsz⟩
  dsimp only at hi hi10 hcl hok hsz ⊢
  rcases (show ((i < ts.length ∧ i < 10) ∧ Nd.cnts (Ch.run l cs) = 0) ∨ ((i < ts.length ∧ i < 10) ∧ 0 < Nd.cnts (Ch.run l cs) ∧ (ts.getD i ⟨0, 0, []⟩).kind % 3 ≠ 1) ∨ ((i < ts.length ∧ i < 10) ∧ 0 < Nd.cnts (Ch.run l cs) ∧ (ts.getD i ⟨0, 0, []⟩).kind % 3 = 1) ∨ (i = ts.length ∨ i = 10) from by omega) with ⟨⟨hlt1, hlt2⟩, hc0⟩ | ⟨⟨hlt1, hlt2⟩, hc0, hkd⟩ | ⟨⟨hlt1, hlt2⟩, hc0, hkd⟩ | hend
  · have hgt : (ts.map tnv)[i]? = some (tnv (ts.getD i ⟨0, 0, []⟩)) := getD_mapG tnv ⟨0, 0, []⟩ ts i hlt1
    have hsum := sum_take (fun t : Tn => t.node.length) ts i ⟨0, 0, []⟩ hlt1
    have hsle := sum_le (fun t : Tn => t.node.length) ts (i + 1)
    generalize ts.getD i ⟨0, 0, []⟩ = t at *
    obtain ⟨hXb, hXw⟩ : Nd.szs (Ch.run l cs) ≤ 16777216 ∧ Nd.wfs (Ch.run l cs) := ((Ch.oks_append cs [] l).1 (by rw [List.append_nil]; exact hok)).2
    generalize hXe : Ch.run l cs = X at hXb hXw hsz
    have hP1 := Nd.pthsFrom_len X 0
    have hP3 := Nd.pthsFrom_deep X 0
    have hP2 := Nd.at_paths
    have cP := WPaths.c_Paths X (by omega)
    have hcn := Nd.cnts_le X
    generalize hPS : Nd.pthsFrom 0 X = PS at *
    have hPm : (PS.map pav).length = PS.length := List.length_map ..
    have hcn0 : Nd.cnts X = 0 := by rw [← hXe]; exact hc0
    refine W.seq ?_
    refine W.seq ?_
    refine W.region ?_
    refine W.q (Ev.move (.t rfl)) rfl ?_
    refine W.q (Ev.move (.t rfl)) rfl ?_
    first | refine W.q (Ev.lensl (.t rfl) Try.underlying23) rfl ?_ | refine W.q (Ev.lenar (i := 0) (.t rfl) rfl Try.underlying23) rfl ?_ | refine W.q (Ev.lenar (i := 1) (.t rfl) rfl Try.underlying23) rfl ?_ | refine W.q (Ev.lenar (i := 2) (.t rfl) rfl Try.underlying23) rfl ?_ | refine W.q (Ev.lenar (i := 3) (.t rfl) rfl Try.underlying23) rfl ?_
    refine W.q (Ev.lti (.t rfl) (.t rfl)) rfl ?_
    refine W.q (Ev.move (.t rfl)) rfl ?_
    refine W.qgT rfl rfl (Ev.move (.t rfl)) rfl ?_
    refine W.qgT rfl rfl (Ev.move (.t rfl)) rfl ?_
    refine W.qgT rfl rfl (Ev.lti (.c rfl) (.c rfl)) rfl ?_
    refine W.q (Ev.and (.t rfl) ⟨_, _, rfl, rfl, by first | (simp; done) | (intro hg_ hp_; simp [hp_]; done) | (simp <;> omega; done) | (simp_all; done) | grind⟩) rfl ?_
    refine W.nil ?_
    refine W.then ?_
    refine W.is (t := 29) (g := true) (av' := .lit (.bool true)) rfl (congrArg (fun b => AV.lit (.bool b)) (by simp; omega)) ?_
    refine W.condT (.t rfl) ?_
    refine W.skip ?_
    refine W.then ?_
    refine W.seq ?_
    refine W.block ?_
    refine W.seq ?_
    refine W.region ?_
    refine W.q (Ev.move (.t rfl)) rfl ?_
    refine W.callp (WCopied.c_copied X (by omega)) ⟨(.t rfl), trivial⟩ rfl ?_
    refine W.callp (cP) ⟨(.t rfl), trivial⟩ rfl ?_
    refine W.q (Ev.assign (.t rfl)) rfl ?_
    refine W.nil ?_
    refine W.then ?_
    refine W.seq ?_
    refine W.region ?_
    refine W.q (Ev.move (.t rfl)) rfl ?_
    refine W.call (WCount.c_Count X (by omega)) ⟨(.t rfl), trivial⟩ (.refl _) rfl ?_
    rintro _ _ ⟨rfl, k37, rfl, hk1, hk2⟩
    refine W.q (Ev.move (.t rfl)) rfl ?_
    refine W.q (Ev.extract (.t rfl) rfl) rfl ?_
    refine W.q (Ev.extract (.t rfl) rfl) rfl ?_
    refine W.q (Ev.assign (.t rfl)) rfl ?_
    refine W.q (Ev.assign (.t rfl)) rfl ?_
    refine W.nil ?_
    refine W.then ?_
    refine W.seq ?_
    refine W.seq ?_
    refine W.region ?_
    refine W.q (Ev.move (.t rfl)) rfl ?_
    first | refine W.q (Ev.lensl (.t rfl) Try.underlying46) rfl ?_ | refine W.q (Ev.lenar (i := 0) (.t rfl) rfl Try.underlying46) rfl ?_ | refine W.q (Ev.lenar (i := 1) (.t rfl) rfl Try.underlying46) rfl ?_ | refine W.q (Ev.lenar (i := 2) (.t rfl) rfl Try.underlying46) rfl ?_ | refine W.q (Ev.lenar (i := 3) (.t rfl) rfl Try.underlying46) rfl ?_
    refine W.q (Ev.move (.t rfl)) rfl ?_
    refine W.q (Ev.nei (.t rfl) (.t rfl)) rfl ?_
    refine W.nil ?_
    refine W.then ?_
    refine W.is (t := 43) (g := true) (av' := .lit (.bool false)) rfl (congrArg (fun b => AV.lit (.bool b)) (by simp; omega)) ?_
    refine W.condF (.t rfl) ?_
    refine W.skip ?_
    refine W.then ?_
    refine W.seq ?_
    refine W.region ?_
    refine W.bs (es := [_]) Try.underlying22 ty3 ⟨rfl, .k, rfl, rfl, trivial⟩ rfl (by decide) rfl rfl ?_
    refine W.q (Ev.build ty51 st51 rfl (fun hg => ⟨_, _, _, rfl, .k, rfl, rfl, rfl, _, _, _, rfl, (.t rfl), rfl, rfl, rfl, rfl⟩)) rfl ?_
    refine W.alloc ty51 rfl rfl ?_
    intro b15
    first | refine W.stb 0 (.t rfl) (.t rfl) rfl ty51 rfl rfl rfl ?_ | refine W.stb 1 (.t rfl) (.t rfl) rfl ty51 rfl rfl rfl ?_ | refine W.stb 2 (.t rfl) (.t rfl) rfl ty51 rfl rfl rfl ?_ | refine W.stb 3 (.t rfl) (.t rfl) rfl ty51 rfl rfl rfl ?_
    refine W.nil ?_
    refine W.then ?_
    refine W.seq ?_
    refine W.seq ?_
    refine W.region ?_
    refine W.q (Ev.move (.t rfl)) rfl ?_
    refine W.q (Ev.gti (.t rfl) .k) rfl ?_
    refine W.nil ?_
    refine W.then ?_
    refine W.is (t := 47) (g := true) (av' := .lit (.bool false)) rfl (congrArg (fun b => AV.lit (.bool b)) (by simp; omega)) ?_
    refine W.condF (.t rfl) ?_
    refine W.skip ?_
    refine W.then ?_
    refine W.seq ?_
    refine W.seq ?_
    refine W.region ?_
    first | refine W.q (Ev.fae (.t rfl) fa51_0 rfl) rfl ?_ | refine W.q (Ev.fab (.t rfl) fa51_0) rfl ?_ | refine W.q (Ev.faa (.t rfl) fa51_0) rfl ?_
    first | refine W.q (Ev.lde1 (.t rfl) ag3) rfl ?_ | refine W.q (Ev.ldb1 0 (.t rfl) rfl ag3 rfl) rfl ?_ | refine W.q (Ev.ldb1 1 (.t rfl) rfl ag3 rfl) rfl ?_ | refine W.q (Ev.ldb1 2 (.t rfl) rfl ag3 rfl) rfl ?_ | refine W.q (Ev.ldb1 3 (.t rfl) rfl ag3 rfl) rfl ?_
    refine W.q (Ev.nei (.t rfl) .k) rfl ?_
    refine W.nil ?_
    refine W.then ?_
    refine W.is (t := 69) (g := true) (av' := .lit (.bool true)) rfl (congrArg (fun b => AV.lit (.bool b)) (by rfl)) ?_
    refine W.condT (.t rfl) ?_
    refine W.seq ?_
    refine W.region ?_
    refine W.q (Ev.build ty42 st42 rfl (fun hg => ⟨_, _, _, rfl, .k, rfl, rfl, rfl, rfl⟩)) rfl ?_
    first | refine W.q (Ev.fae (.t rfl) fa51_2 rfl) rfl ?_ | refine W.q (Ev.fab (.t rfl) fa51_2) rfl ?_ | refine W.q (Ev.faa (.t rfl) fa51_2) rfl ?_
    first | refine W.stb 0 (.t rfl) (.t rfl) rfl ty42 rfl rfl rfl ?_ | refine W.stb 1 (.t rfl) (.t rfl) rfl ty42 rfl rfl rfl ?_ | refine W.stb 2 (.t rfl) (.t rfl) rfl ty42 rfl rfl rfl ?_ | refine W.stb 3 (.t rfl) (.t rfl) rfl ty42 rfl rfl rfl ?_
    refine W.nil ?_
    refine W.then ?_
    refine W.region ?_
    refine W.q (Ev.move (.t rfl)) rfl ?_
    refine W.q (Ev.move (.t rfl)) rfl ?_
    refine W.q (Ev.at (E := 53) (.t rfl) (.t rfl) Try.underlying23 ty53 (fun _ => ⟨by omega, hgt⟩) rfl rfl) rfl ?_
    first | refine W.q (Ev.fae (.t rfl) fa53_2 rfl) rfl ?_ | refine W.q (Ev.fab (.t rfl) fa53_2) rfl ?_ | refine W.q (Ev.faa (.t rfl) fa53_2) rfl ?_
    first | refine W.q (Ev.lde1 (.t rfl) ag22) rfl ?_ | refine W.q (Ev.ldb1 0 (.t rfl) rfl ag22 rfl) rfl ?_ | refine W.q (Ev.ldb1 1 (.t rfl) rfl ag22 rfl) rfl ?_ | refine W.q (Ev.ldb1 2 (.t rfl) rfl ag22 rfl) rfl ?_ | refine W.q (Ev.ldb1 3 (.t rfl) rfl ag22 rfl) rfl ?_
    refine W.call (WNodes.c_Nodes t.node (by omega) 3 3 (by decide) (by decide) (by decide)) ⟨(.t rfl), .k, .k, trivial⟩ (.refl _) rfl ?_
    rintro _ _ ⟨v78, ns, rest, rfl, rfl, hn1, hn2, hn3, hn4, hn5⟩
    have hns := Nd.szs_len ns
    refine W.q (Ev.move (.t rfl)) rfl ?_
    refine W.q (Ev.extract (.t rfl) rfl) rfl ?_
    refine W.q (Ev.extract (.t rfl) rfl) rfl ?_
    refine W.freezeA (M1 := [_, _]) (M2 := [_, _]) (D := []) (v := v78) (L' := [(79, true, .sl 4 (ns.map Nd.av))]) (.refl _) ⟨⟨_, rfl, .one .hit⟩, trivial⟩ (FrzMs.refl _) ?_
    first | refine W.q (Ev.fae (.t rfl) fa51_2 rfl) rfl ?_ | refine W.q (Ev.fab (.t rfl) fa51_2) rfl ?_ | refine W.q (Ev.faa (.t rfl) fa51_2) rfl ?_
    first | refine W.q (Ev.fae (.t rfl) fa42_3 rfl) rfl ?_ | refine W.q (Ev.fab (.t rfl) fa42_3) rfl ?_ | refine W.q (Ev.faa (.t rfl) fa42_3) rfl ?_
    first | refine W.stb 0 (.t rfl) (.t rfl) rfl ty24 rfl rfl rfl ?_ | refine W.stb 1 (.t rfl) (.t rfl) rfl ty24 rfl rfl rfl ?_ | refine W.stb 2 (.t rfl) (.t rfl) rfl ty24 rfl rfl rfl ?_ | refine W.stb 3 (.t rfl) (.t rfl) rfl ty24 rfl rfl rfl ?_
    refine W.nil ?_
    refine W.nilBox (A := []) (cs' := [.int (Ch.mk 1 [0] (Nd.mk [98] [] [] ns)).kind, .sl 1 ((Ch.mk 1 [0] (Nd.mk [98] [] [] ns)).path.map AV.int), .str (Ch.mk 1 [0] (Nd.mk [98] [] [] ns)).node.name, .sl 2 ((Ch.mk 1 [0] (Nd.mk [98] [] [] ns)).node.attrs.map dav), .str (Ch.mk 1 [0] (Nd.mk [98] [] [] ns)).node.text, .sl 4 ((Ch.mk 1 [0] (Nd.mk [98] [] [] ns)).node.parts.map Nd.av)]) rfl ⟨.inl rfl, .inl rfl, .inl rfl, .inr ⟨rfl, 2, rfl⟩, .inl rfl, .inl rfl, trivial⟩ ?_
    refine W.then ?_
    refine W.seq ?_
    refine W.drawnE (ι := Unit) (fun _ _ => _) 10 () (by kernel_rfl) (by kernel_rfl) rfl ?_
    have hok1 : Ch.ok 16777216 X (Ch.mk 1 [0] (Nd.mk [98] [] [] ns)) := ⟨hXb, hXw, (by rw [Nd.sz_eq]; simp only [Nd.attrs_mk, Nd.parts_mk, List.length_nil]; omega), (Nd.wf_eq _).2 ⟨fun h => (List.cons_ne_nil 98 [] h).elim, hn3⟩, (by show 1 ≤ _; omega), .inl ⟨rfl, 0, rfl, .inl ⟨rfl, Nat.zero_le _⟩⟩⟩
    have happ := Ch.app_ok hok1
    have hszc : Nd.szs (Ch.run X [(Ch.mk 1 [0] (Nd.mk [98] [] [] ns))]) ≤ 2097152 + 2 * (((ts.take (i + 1)).map fun t => t.node.length).sum) + (i + 1) := by
      have h1 := happ.2
      have h2 : (Nd.mk [98] [] [] ns).sz = 1 + 0 + Nd.szs ns := by rw [Nd.sz_eq]; rfl
      show Nd.szs (Ch.app X (Ch.mk 1 [0] (Nd.mk [98] [] [] ns))) ≤ _
      simp only at h1
      omega
    have hoks1 : Ch.oks 16777216 X [(Ch.mk 1 [0] (Nd.mk [98] [] [] ns))] := ⟨hok1, by have h5 : Nd.szs (Ch.run X [(Ch.mk 1 [0] (Nd.mk [98] [] [] ns))]) = Nd.szs (Ch.app X (Ch.mk 1 [0] (Nd.mk [98] [] [] ns))) := rfl; omega, happ.1⟩
    have hPlay := WPlayC.c_PlayC X [(Ch.mk 1 [0] (Nd.mk [98] [] [] ns))] (by simp) hoks1
    refine DE.q (fun e c hk => (Ev.move (.t rfl))) rfl (fun _ _ => rfl) (by first | exact .inr (fun _ _ => rfl) | exact .inl (by kernel_rfl)) ?_
    refine DE.callp (fun c => WCopied.c_copied X (by omega)) (fun c => ⟨(.t rfl), trivial⟩) rfl (fun _ _ => rfl) (by first | exact .inr (fun _ _ => rfl) | exact .inl (by kernel_rfl)) ?_
    first | refine DE.q (fun e c hk => (Ev.lden (.t rfl) ag51 ty51 rfl rfl)) rfl (fun _ _ => rfl) (by first | exact .inr (fun _ _ => rfl) | exact .inl (by kernel_rfl)) ?_ | refine DE.q (fun e c hk => (Ev.ldbn 0 (.t rfl) rfl ag51 ty51 rfl)) rfl (fun _ _ => rfl) (by first | exact .inr (fun _ _ => rfl) | exact .inl (by kernel_rfl)) ?_ | refine DE.q (fun e c hk => (Ev.ldbn 1 (.t rfl) rfl ag51 ty51 rfl)) rfl (fun _ _ => rfl) (by first | exact .inr (fun _ _ => rfl) | exact .inl (by kernel_rfl)) ?_ | refine DE.q (fun e c hk => (Ev.ldbn 2 (.t rfl) rfl ag51 ty51 rfl)) rfl (fun _ _ => rfl) (by first | exact .inr (fun _ _ => rfl) | exact .inl (by kernel_rfl)) ?_ | refine DE.q (fun e c hk => (Ev.ldbn 3 (.t rfl) rfl ag51 ty51 rfl)) rfl (fun _ _ => rfl) (by first | exact .inr (fun _ _ => rfl) | exact .inl (by kernel_rfl)) ?_
    refine DE.bs (es := fun _ => [_]) Try.underlying27 ty51 (fun c => ⟨rfl, (.t rfl), rfl, rfl, trivial⟩) (fun _ => rfl) (by decide) rfl rfl (fun _ _ => rfl) (by first | exact .inr (fun _ _ => rfl) | exact .inl (by kernel_rfl)) ?_
    refine DE.callp (fun c => hPlay) (fun c => ⟨(.t rfl), (.t rfl), trivial⟩) rfl (fun _ _ => rfl) (by first | exact .inr (fun _ _ => rfl) | exact .inl (by kernel_rfl)) ?_
    refine DE.q (fun e c hk => (Ev.move (.t rfl))) rfl (fun _ _ => rfl) (by first | exact .inr (fun _ _ => rfl) | exact .inl (by kernel_rfl)) ?_
    refine DE.q (fun e c hk => (Ev.extract (.t rfl) rfl)) rfl (fun _ _ => rfl) (by first | exact .inr (fun _ _ => rfl) | exact .inl (by kernel_rfl)) ?_
    refine DE.q (fun e c hk => (Ev.extract (.t rfl) rfl)) rfl (fun _ _ => rfl) (by first | exact .inr (fun _ _ => rfl) | exact .inl (by kernel_rfl)) ?_
    refine DE.q (fun e c hk => (Ev.assign (.t rfl))) rfl (fun _ _ => rfl) (by first | exact .inr (fun _ _ => rfl) | exact .inl (by kernel_rfl)) ?_
    refine DE.q (fun e c hk => (Ev.assign (.t rfl))) rfl (fun _ _ => rfl) (by first | exact .inr (fun _ _ => rfl) | exact .inl (by kernel_rfl)) ?_
    refine DE.nil (fun c_ e_ he_ => ?_)
    dsimp only
    refine W.then ?_
    refine W.seq ?_
    refine W.seq ?_
    refine W.region ?_
    refine W.q (Ev.move (.t rfl)) rfl ?_
    refine W.q (Ev.nei (.t rfl) .k) rfl ?_
    refine W.nil ?_
    refine W.then ?_
    refine W.is (t := 92) (g := true) (av' := .lit (.bool false)) rfl (congrArg (fun b => AV.lit (.bool b)) (by rfl)) ?_
    refine W.condF (.t rfl) ?_
    refine W.skip ?_
    refine W.then ?_
    refine W.seq ?_
    refine W.region ?_
    refine W.q (Ev.move (.t rfl)) rfl ?_
    first | refine W.q (Ev.lden (.t rfl) ag51 ty51 rfl rfl) rfl ?_ | refine W.q (Ev.ldbn 0 (.t rfl) rfl ag51 ty51 rfl) rfl ?_ | refine W.q (Ev.ldbn 1 (.t rfl) rfl ag51 ty51 rfl) rfl ?_ | refine W.q (Ev.ldbn 2 (.t rfl) rfl ag51 ty51 rfl) rfl ?_ | refine W.q (Ev.ldbn 3 (.t rfl) rfl ag51 ty51 rfl) rfl ?_
    refine W.bs (es := [_]) Try.underlying27 ty51 ⟨rfl, (.t rfl), rfl, rfl, trivial⟩ rfl (by decide) rfl rfl ?_
    first | refine W.app 0 (.t rfl) rfl (.sl (.t rfl) (by intro e he; rw [List.mem_singleton.1 he]; rfl)) Try.underlying27 ni27 ty51 rfl rfl (by simp only [List.length_map, List.length_cons, List.length_nil]; omega) rfl ?_ | refine W.app 1 (.t rfl) rfl (.sl (.t rfl) (by intro e he; rw [List.mem_singleton.1 he]; rfl)) Try.underlying27 ni27 ty51 rfl rfl (by simp only [List.length_map, List.length_cons, List.length_nil]; omega) rfl ?_ | refine W.app 2 (.t rfl) rfl (.sl (.t rfl) (by intro e he; rw [List.mem_singleton.1 he]; rfl)) Try.underlying27 ni27 ty51 rfl rfl (by simp only [List.length_map, List.length_cons, List.length_nil]; omega) rfl ?_ | refine W.app 3 (.t rfl) rfl (.sl (.t rfl) (by intro e he; rw [List.mem_singleton.1 he]; rfl)) Try.underlying27 ni27 ty51 rfl rfl (by simp only [List.length_map, List.length_cons, List.length_nil]; omega) rfl ?_ | refine W.app 0 (.t rfl) rfl (.arr 0 (.t rfl) rfl (by intro e he; rw [List.mem_singleton.1 he]; rfl)) Try.underlying27 ni27 ty51 rfl rfl (by simp only [List.length_map, List.length_cons, List.length_nil]; omega) rfl ?_ | refine W.app 0 (.t rfl) rfl (.arr 1 (.t rfl) rfl (by intro e he; rw [List.mem_singleton.1 he]; rfl)) Try.underlying27 ni27 ty51 rfl rfl (by simp only [List.length_map, List.length_cons, List.length_nil]; omega) rfl ?_ | refine W.app 0 (.t rfl) rfl (.arr 2 (.t rfl) rfl (by intro e he; rw [List.mem_singleton.1 he]; rfl)) Try.underlying27 ni27 ty51 rfl rfl (by simp only [List.length_map, List.length_cons, List.length_nil]; omega) rfl ?_ | refine W.app 0 (.t rfl) rfl (.arr 3 (.t rfl) rfl (by intro e he; rw [List.mem_singleton.1 he]; rfl)) Try.underlying27 ni27 ty51 rfl rfl (by simp only [List.length_map, List.length_cons, List.length_nil]; omega) rfl ?_ | refine W.app 1 (.t rfl) rfl (.arr 0 (.t rfl) rfl (by intro e he; rw [List.mem_singleton.1 he]; rfl)) Try.underlying27 ni27 ty51 rfl rfl (by simp only [List.length_map, List.length_cons, List.length_nil]; omega) rfl ?_ | refine W.app 1 (.t rfl) rfl (.arr 1 (.t rfl) rfl (by intro e he; rw [List.mem_singleton.1 he]; rfl)) Try.underlying27 ni27 ty51 rfl rfl (by simp only [List.length_map, List.length_cons, List.length_nil]; omega) rfl ?_ | refine W.app 1 (.t rfl) rfl (.arr 2 (.t rfl) rfl (by intro e he; rw [List.mem_singleton.1 he]; rfl)) Try.underlying27 ni27 ty51 rfl rfl (by simp only [List.length_map, List.length_cons, List.length_nil]; omega) rfl ?_ | refine W.app 1 (.t rfl) rfl (.arr 3 (.t rfl) rfl (by intro e he; rw [List.mem_singleton.1 he]; rfl)) Try.underlying27 ni27 ty51 rfl rfl (by simp only [List.length_map, List.length_cons, List.length_nil]; omega) rfl ?_ | refine W.app 2 (.t rfl) rfl (.arr 0 (.t rfl) rfl (by intro e he; rw [List.mem_singleton.1 he]; rfl)) Try.underlying27 ni27 ty51 rfl rfl (by simp only [List.length_map, List.length_cons, List.length_nil]; omega) rfl ?_ | refine W.app 2 (.t rfl) rfl (.arr 1 (.t rfl) rfl (by intro e he; rw [List.mem_singleton.1 he]; rfl)) Try.underlying27 ni27 ty51 rfl rfl (by simp only [List.length_map, List.length_cons, List.length_nil]; omega) rfl ?_ | refine W.app 2 (.t rfl) rfl (.arr 2 (.t rfl) rfl (by intro e he; rw [List.mem_singleton.1 he]; rfl)) Try.underlying27 ni27 ty51 rfl rfl (by simp only [List.length_map, List.length_cons, List.length_nil]; omega) rfl ?_ | refine W.app 2 (.t rfl) rfl (.arr 3 (.t rfl) rfl (by intro e he; rw [List.mem_singleton.1 he]; rfl)) Try.underlying27 ni27 ty51 rfl rfl (by simp only [List.length_map, List.length_cons, List.length_nil]; omega) rfl ?_ | refine W.app 3 (.t rfl) rfl (.arr 0 (.t rfl) rfl (by intro e he; rw [List.mem_singleton.1 he]; rfl)) Try.underlying27 ni27 ty51 rfl rfl (by simp only [List.length_map, List.length_cons, List.length_nil]; omega) rfl ?_ | refine W.app 3 (.t rfl) rfl (.arr 1 (.t rfl) rfl (by intro e he; rw [List.mem_singleton.1 he]; rfl)) Try.underlying27 ni27 ty51 rfl rfl (by simp only [List.length_map, List.length_cons, List.length_nil]; omega) rfl ?_ | refine W.app 3 (.t rfl) rfl (.arr 2 (.t rfl) rfl (by intro e he; rw [List.mem_singleton.1 he]; rfl)) Try.underlying27 ni27 ty51 rfl rfl (by simp only [List.length_map, List.length_cons, List.length_nil]; omega) rfl ?_ | refine W.app 3 (.t rfl) rfl (.arr 3 (.t rfl) rfl (by intro e he; rw [List.mem_singleton.1 he]; rfl)) Try.underlying27 ni27 ty51 rfl rfl (by simp only [List.length_map, List.length_cons, List.length_nil]; omega) rfl ?_
    intro v96
    refine W.q (Ev.assign (.t rfl)) rfl ?_
    refine W.nil ?_
    refine W.then ?_
    refine W.region ?_
    refine W.q (Ev.move (.t rfl)) rfl ?_
    refine W.q (Ev.assign (.t rfl)) rfl ?_
    refine W.nil ?_
    refine W.blk_normal ?_
    refine W.then ?_
    refine W.region ?_
    refine W.q (Ev.move (.t rfl)) rfl ?_
    first | refine W.q (Ev.add (.t rfl) .k (fun _ => by omega)) rfl ?_ | refine W.q (Ev.addw (.t rfl) .k) rfl ?_
    refine W.q (Ev.assign (.t rfl)) rfl ?_
    refine W.nil ?_
    refine W.then ?_
    refine W.is (t := 10) (g := true) (av' := .sl 4 ((Ch.run l (cs ++ [(Ch.mk 1 [0] (Nd.mk [98] [] [] ns))])).map Nd.av)) rfl (congrArg (fun q => AV.sl 4 (q.map Nd.av)) (show Ch.run X [(Ch.mk 1 [0] (Nd.mk [98] [] [] ns))] = Ch.run l (cs ++ [(Ch.mk 1 [0] (Nd.mk [98] [] [] ns))]) from by rw [Ch.run_append, hXe])) ?_
    refine W.reach (D := [_]) (i + 1, v96, cs ++ [(Ch.mk 1 [0] (Nd.mk [98] [] [] ns))]) ⟨rfl, rfl, rfl, rfl, rfl, trivial⟩ (by rw [List.map_append]; exact List.Perm.swap _ _ []) ⟨⟨by show i + 1 ≤ _; omega, by show i + 1 ≤ 10; omega, by show (cs ++ [_]).length = i + 1; rw [List.length_append, hcl]; rfl, (Ch.oks_append cs _ l).2 ⟨hok, by rw [hXe]; exact hoks1⟩, ?_⟩, by show _ - (i + 1) < _; omega⟩
    show Nd.szs (Ch.run l (cs ++ [_])) ≤ _
    rw [Ch.run_append, hXe]
    exact hszc
  · have hgt : (ts.map tnv)[i]? = some (tnv (ts.getD i ⟨0, 0, []⟩)) := getD_mapG tnv ⟨0, 0, []⟩ ts i hlt1
    have hsum := sum_take (fun t : Tn => t.node.length) ts i ⟨0, 0, []⟩ hlt1
    have hsle := sum_le (fun t : Tn => t.node.length) ts (i + 1)
    generalize ts.getD i ⟨0, 0, []⟩ = t at *
    obtain ⟨hXb, hXw⟩ : Nd.szs (Ch.run l cs) ≤ 16777216 ∧ Nd.wfs (Ch.run l cs) := ((Ch.oks_append cs [] l).1 (by rw [List.append_nil]; exact hok)).2
    generalize hXe : Ch.run l cs = X at hXb hXw hsz
    have hP1 := Nd.pthsFrom_len X 0
    have hP3 := Nd.pthsFrom_deep X 0
    have hP2 := Nd.at_paths
    have cP := WPaths.c_Paths X (by omega)
    have hcn := Nd.cnts_le X
    generalize hPS : Nd.pthsFrom 0 X = PS at *
    have hPm : (PS.map pav).length = PS.length := List.length_map ..
    have hcn0 : 0 < Nd.cnts X := by rw [← hXe]; exact hc0
    have hkd2 : t.kind % 3 ≠ 1 := hkd
    have hm0 : 0 ≤ t.path % (Nd.cnts X : Int) := Int.emod_nonneg _ (by omega)
    have hm1x : t.path % (Nd.cnts X : Int) < (Nd.cnts X : Int) := Int.emod_lt_of_pos _ (by omega)
    have hgp : (PS.map pav)[(t.path % (Nd.cnts X : Int)).toNat]? = some (pav (PS.getD (t.path % (Nd.cnts X : Int)).toNat [])) := getD_mapG pav [] PS _ (by omega)
    have hpm := getD_memG [] PS (t.path % (Nd.cnts X : Int)).toNat (by omega)
    generalize PS.getD (t.path % (Nd.cnts X : Int)).toNat [] = p at hgp hpm
    have hpl := hP3 p hpm
    obtain ⟨d0, hat0⟩ := hP2 p X (by rw [hPS]; exact hpm)
    have hpll := Nd.pl_of_at p X d0 hat0 hXw
    refine W.seq ?_
    refine W.seq ?_
    refine W.region ?_
    refine W.q (Ev.move (.t rfl)) rfl ?_
    refine W.q (Ev.move (.t rfl)) rfl ?_
    first | refine W.q (Ev.lensl (.t rfl) Try.underlying23) rfl ?_ | refine W.q (Ev.lenar (i := 0) (.t rfl) rfl Try.underlying23) rfl ?_ | refine W.q (Ev.lenar (i := 1) (.t rfl) rfl Try.underlying23) rfl ?_ | refine W.q (Ev.lenar (i := 2) (.t rfl) rfl Try.underlying23) rfl ?_ | refine W.q (Ev.lenar (i := 3) (.t rfl) rfl Try.underlying23) rfl ?_
    refine W.q (Ev.lti (.t rfl) (.t rfl)) rfl ?_
    refine W.q (Ev.move (.t rfl)) rfl ?_
    refine W.qgT rfl rfl (Ev.move (.t rfl)) rfl ?_
    refine W.qgT rfl rfl (Ev.move (.t rfl)) rfl ?_
    refine W.qgT rfl rfl (Ev.lti (.c rfl) (.c rfl)) rfl ?_
    refine W.q (Ev.and (.t rfl) ⟨_, _, rfl, rfl, by first | (simp; done) | (intro hg_ hp_; simp [hp_]; done) | (simp <;> omega; done) | (simp_all; done) | grind⟩) rfl ?_
    refine W.nil ?_
    refine W.then ?_
    refine W.is (t := 29) (g := true) (av' := .lit (.bool true)) rfl (congrArg (fun b => AV.lit (.bool b)) (by simp; omega)) ?_
    refine W.condT (.t rfl) ?_
    refine W.skip ?_
    refine W.then ?_
    refine W.seq ?_
    refine W.block ?_
    refine W.seq ?_
    refine W.region ?_
    refine W.q (Ev.move (.t rfl)) rfl ?_
    refine W.callp (WCopied.c_copied X (by omega)) ⟨(.t rfl), trivial⟩ rfl ?_
    refine W.callp (cP) ⟨(.t rfl), trivial⟩ rfl ?_
    refine W.q (Ev.assign (.t rfl)) rfl ?_
    refine W.nil ?_
    refine W.then ?_
    refine W.seq ?_
    refine W.region ?_
    refine W.q (Ev.move (.t rfl)) rfl ?_
    refine W.call (WCount.c_Count X (by omega)) ⟨(.t rfl), trivial⟩ (.refl _) rfl ?_
    rintro _ _ ⟨rfl, k37, rfl, hk1, hk2⟩
    refine W.q (Ev.move (.t rfl)) rfl ?_
    refine W.q (Ev.extract (.t rfl) rfl) rfl ?_
    refine W.q (Ev.extract (.t rfl) rfl) rfl ?_
    refine W.q (Ev.assign (.t rfl)) rfl ?_
    refine W.q (Ev.assign (.t rfl)) rfl ?_
    refine W.nil ?_
    refine W.then ?_
    refine W.seq ?_
    refine W.seq ?_
    refine W.region ?_
    refine W.q (Ev.move (.t rfl)) rfl ?_
    first | refine W.q (Ev.lensl (.t rfl) Try.underlying46) rfl ?_ | refine W.q (Ev.lenar (i := 0) (.t rfl) rfl Try.underlying46) rfl ?_ | refine W.q (Ev.lenar (i := 1) (.t rfl) rfl Try.underlying46) rfl ?_ | refine W.q (Ev.lenar (i := 2) (.t rfl) rfl Try.underlying46) rfl ?_ | refine W.q (Ev.lenar (i := 3) (.t rfl) rfl Try.underlying46) rfl ?_
    refine W.q (Ev.move (.t rfl)) rfl ?_
    refine W.q (Ev.nei (.t rfl) (.t rfl)) rfl ?_
    refine W.nil ?_
    refine W.then ?_
    refine W.is (t := 43) (g := true) (av' := .lit (.bool false)) rfl (congrArg (fun b => AV.lit (.bool b)) (by simp; omega)) ?_
    refine W.condF (.t rfl) ?_
    refine W.skip ?_
    refine W.then ?_
    refine W.seq ?_
    refine W.region ?_
    refine W.bs (es := [_]) Try.underlying22 ty3 ⟨rfl, .k, rfl, rfl, trivial⟩ rfl (by decide) rfl rfl ?_
    refine W.q (Ev.build ty51 st51 rfl (fun hg => ⟨_, _, _, rfl, .k, rfl, rfl, rfl, _, _, _, rfl, (.t rfl), rfl, rfl, rfl, rfl⟩)) rfl ?_
    refine W.alloc ty51 rfl rfl ?_
    intro b15
    first | refine W.stb 0 (.t rfl) (.t rfl) rfl ty51 rfl rfl rfl ?_ | refine W.stb 1 (.t rfl) (.t rfl) rfl ty51 rfl rfl rfl ?_ | refine W.stb 2 (.t rfl) (.t rfl) rfl ty51 rfl rfl rfl ?_ | refine W.stb 3 (.t rfl) (.t rfl) rfl ty51 rfl rfl rfl ?_
    refine W.nil ?_
    refine W.then ?_
    refine W.seq ?_
    refine W.seq ?_
    refine W.region ?_
    refine W.q (Ev.move (.t rfl)) rfl ?_
    refine W.q (Ev.gti (.t rfl) .k) rfl ?_
    refine W.nil ?_
    refine W.then ?_
    refine W.is (t := 47) (g := true) (av' := .lit (.bool true)) rfl (congrArg (fun b => AV.lit (.bool b)) (by simp; omega)) ?_
    refine W.condT (.t rfl) ?_
    refine W.drawnE (ι := Unit) (fun ee _ => [.box b15 51 (bif ee 19 then [.int (1 + t.kind % 3), .sl 1 (p.map AV.int), .lit (.string ⟨#[]⟩), .lit (.slice none 0 0), .lit (.string ⟨#[]⟩), .lit (.slice none 0 0)] else [.int 1, .sl 1 [.int 0], .lit (.string ⟨#[]⟩), .lit (.slice none 0 0), .lit (.string ⟨#[]⟩), .lit (.slice none 0 0)]), .arr v 51 6 (cs.map cav)]) 20 () (by kernel_rfl) (by kernel_rfl) rfl ?_
    refine DE.q (fun e c hk => (Ev.move (.t rfl))) rfl (fun _ _ => rfl) (by first | exact .inr (fun _ _ => rfl) | exact .inl (by kernel_rfl)) ?_
    refine DE.q (fun e c hk => (Ev.move (.t rfl))) rfl (fun _ _ => rfl) (by first | exact .inr (fun _ _ => rfl) | exact .inl (by kernel_rfl)) ?_
    refine DE.q (fun e c hk => Ev.at (E := 53) (.t rfl) (.t rfl) Try.underlying23 ty53 (fun _ => ⟨by omega, hgt⟩) rfl rfl) rfl (fun _ _ => rfl) (by first | exact .inr (fun _ _ => rfl) | exact .inl (by kernel_rfl)) ?_
    first | refine DE.q (fun e c hk => (Ev.fae (.t rfl) fa53_0 rfl)) rfl (fun _ _ => rfl) (by first | exact .inr (fun _ _ => rfl) | exact .inl (by kernel_rfl)) ?_ | refine DE.q (fun e c hk => (Ev.fab (.t rfl) fa53_0)) rfl (fun _ _ => rfl) (by first | exact .inr (fun _ _ => rfl) | exact .inl (by kernel_rfl)) ?_ | refine DE.q (fun e c hk => (Ev.faa (.t rfl) fa53_0)) rfl (fun _ _ => rfl) (by first | exact .inr (fun _ _ => rfl) | exact .inl (by kernel_rfl)) ?_
    first | refine DE.q (fun e c hk => (Ev.lde1 (.t rfl) ag3)) rfl (fun _ _ => rfl) (by first | exact .inr (fun _ _ => rfl) | exact .inl (by kernel_rfl)) ?_ | refine DE.q (fun e c hk => (Ev.ldb1 0 (.t rfl) rfl ag3 rfl)) rfl (fun _ _ => rfl) (by first | exact .inr (fun _ _ => rfl) | exact .inl (by kernel_rfl)) ?_ | refine DE.q (fun e c hk => (Ev.ldb1 1 (.t rfl) rfl ag3 rfl)) rfl (fun _ _ => rfl) (by first | exact .inr (fun _ _ => rfl) | exact .inl (by kernel_rfl)) ?_ | refine DE.q (fun e c hk => (Ev.ldb1 2 (.t rfl) rfl ag3 rfl)) rfl (fun _ _ => rfl) (by first | exact .inr (fun _ _ => rfl) | exact .inl (by kernel_rfl)) ?_ | refine DE.q (fun e c hk => (Ev.ldb1 3 (.t rfl) rfl ag3 rfl)) rfl (fun _ _ => rfl) (by first | exact .inr (fun _ _ => rfl) | exact .inl (by kernel_rfl)) ?_
    refine DE.callp (fun c => Base.c_Picked t.kind 3 (by decide) (by decide)) (fun c => ⟨(.t rfl), .k, trivial⟩) rfl (fun _ _ => rfl) (by first | exact .inr (fun _ _ => rfl) | exact .inl (by kernel_rfl)) ?_
    first | refine DE.q (fun e c hk => (Ev.add .k (.t rfl) (fun _ => by omega))) rfl (fun _ _ => rfl) (by first | exact .inr (fun _ _ => rfl) | exact .inl (by kernel_rfl)) ?_ | refine DE.q (fun e c hk => (Ev.addw .k (.t rfl))) rfl (fun _ _ => rfl) (by first | exact .inr (fun _ _ => rfl) | exact .inl (by kernel_rfl)) ?_
    refine DE.q (fun e c hk => (Ev.move (.t rfl))) rfl (fun _ _ => rfl) (by first | exact .inr (fun _ _ => rfl) | exact .inl (by kernel_rfl)) ?_
    refine DE.q (fun e c hk => (Ev.move (.t rfl))) rfl (fun _ _ => rfl) (by first | exact .inr (fun _ _ => rfl) | exact .inl (by kernel_rfl)) ?_
    refine DE.q (fun e c hk => (Ev.move (.t rfl))) rfl (fun _ _ => rfl) (by first | exact .inr (fun _ _ => rfl) | exact .inl (by kernel_rfl)) ?_
    refine DE.q (fun e c hk => Ev.at (E := 53) (.t rfl) (.t rfl) Try.underlying23 ty53 (fun _ => ⟨by omega, hgt⟩) rfl rfl) rfl (fun _ _ => rfl) (by first | exact .inr (fun _ _ => rfl) | exact .inl (by kernel_rfl)) ?_
    first | refine DE.q (fun e c hk => (Ev.fae (.t rfl) fa53_1 rfl)) rfl (fun _ _ => rfl) (by first | exact .inr (fun _ _ => rfl) | exact .inl (by kernel_rfl)) ?_ | refine DE.q (fun e c hk => (Ev.fab (.t rfl) fa53_1)) rfl (fun _ _ => rfl) (by first | exact .inr (fun _ _ => rfl) | exact .inl (by kernel_rfl)) ?_ | refine DE.q (fun e c hk => (Ev.faa (.t rfl) fa53_1)) rfl (fun _ _ => rfl) (by first | exact .inr (fun _ _ => rfl) | exact .inl (by kernel_rfl)) ?_
    first | refine DE.q (fun e c hk => (Ev.lde1 (.t rfl) ag3)) rfl (fun _ _ => rfl) (by first | exact .inr (fun _ _ => rfl) | exact .inl (by kernel_rfl)) ?_ | refine DE.q (fun e c hk => (Ev.ldb1 0 (.t rfl) rfl ag3 rfl)) rfl (fun _ _ => rfl) (by first | exact .inr (fun _ _ => rfl) | exact .inl (by kernel_rfl)) ?_ | refine DE.q (fun e c hk => (Ev.ldb1 1 (.t rfl) rfl ag3 rfl)) rfl (fun _ _ => rfl) (by first | exact .inr (fun _ _ => rfl) | exact .inl (by kernel_rfl)) ?_ | refine DE.q (fun e c hk => (Ev.ldb1 2 (.t rfl) rfl ag3 rfl)) rfl (fun _ _ => rfl) (by first | exact .inr (fun _ _ => rfl) | exact .inl (by kernel_rfl)) ?_ | refine DE.q (fun e c hk => (Ev.ldb1 3 (.t rfl) rfl ag3 rfl)) rfl (fun _ _ => rfl) (by first | exact .inr (fun _ _ => rfl) | exact .inl (by kernel_rfl)) ?_
    refine DE.q (fun e c hk => (Ev.move (.t rfl))) rfl (fun _ _ => rfl) (by first | exact .inr (fun _ _ => rfl) | exact .inl (by kernel_rfl)) ?_
    refine DE.callp (fun c => Base.c_Picked t.path (Nd.cnts X : Int) (by omega) (by omega)) (fun c => ⟨(.t rfl), (.t rfl), trivial⟩) rfl (fun _ _ => rfl) (by first | exact .inr (fun _ _ => rfl) | exact .inl (by kernel_rfl)) ?_
    refine DE.q (fun e c hk => Ev.at (E := 22) (.t rfl) (.t rfl) Try.underlying46 ty22 (fun _ => ⟨hm0, hgp⟩) rfl rfl) rfl (fun _ _ => rfl) (by first | exact .inr (fun _ _ => rfl) | exact .inl (by kernel_rfl)) ?_
    first | refine DE.q (fun e c hk => (Ev.lde1 (.t rfl) ag22)) rfl (fun _ _ => rfl) (by first | exact .inr (fun _ _ => rfl) | exact .inl (by kernel_rfl)) ?_ | refine DE.q (fun e c hk => (Ev.ldb1 0 (.t rfl) rfl ag22 rfl)) rfl (fun _ _ => rfl) (by first | exact .inr (fun _ _ => rfl) | exact .inl (by kernel_rfl)) ?_ | refine DE.q (fun e c hk => (Ev.ldb1 1 (.t rfl) rfl ag22 rfl)) rfl (fun _ _ => rfl) (by first | exact .inr (fun _ _ => rfl) | exact .inl (by kernel_rfl)) ?_ | refine DE.q (fun e c hk => (Ev.ldb1 2 (.t rfl) rfl ag22 rfl)) rfl (fun _ _ => rfl) (by first | exact .inr (fun _ _ => rfl) | exact .inl (by kernel_rfl)) ?_ | refine DE.q (fun e c hk => (Ev.ldb1 3 (.t rfl) rfl ag22 rfl)) rfl (fun _ _ => rfl) (by first | exact .inr (fun _ _ => rfl) | exact .inl (by kernel_rfl)) ?_
    first | refine DE.app0 (fun c => (by first | exact .k | exact .kn)) (fun e c => .sl (.t rfl) (okc_ints p)) Try.underlying22 ni22 ty3 rfl rfl (by simp; omega) rfl (fun _ _ => rfl) ?_ | refine DE.app0 (fun c => .k) (fun e c => .sl (.t rfl) (okc_ints p)) Try.underlying22 ni22 ty3 rfl rfl (by simp; omega) rfl (fun _ _ => rfl) ?_
    refine DE.q (fun e c hk => (Ev.build ty51 st51 rfl (fun hg => ⟨_, _, _, rfl, (.t rfl), rfl, rfl, rfl, _, _, _, rfl, (.t rfl), rfl, rfl, rfl, rfl⟩))) rfl (fun _ _ => rfl) (by first | exact .inr (fun _ _ => rfl) | exact .inl (by kernel_rfl)) ?_
    refine DE.eff0 (fun e c hk L_ hs Q h => ?_) ?_
    · have hk_19 := hk.not
      simp only [addE, hk_19, Nat.reduceAdd, Nat.reduceEqDiff, ↓reduceIte, cond_true, cond_false] at h ⊢
      first | (refine W.stb 0 (.t (hs _ _ rfl)) (.t (hs _ _ rfl)) rfl ty51 rfl rfl rfl ?_; exact h) | (refine W.stb 1 (.t (hs _ _ rfl)) (.t (hs _ _ rfl)) rfl ty51 rfl rfl rfl ?_; exact h) | (refine W.stb 2 (.t (hs _ _ rfl)) (.t (hs _ _ rfl)) rfl ty51 rfl rfl rfl ?_; exact h) | (refine W.stb 3 (.t (hs _ _ rfl)) (.t (hs _ _ rfl)) rfl ty51 rfl rfl rfl ?_; exact h)
    refine DE.nil (fun c_ e_ he_ => ?_)
    simp only [he_ 19 (by decide), cond_true, cond_false]
    refine W.then ?_
    refine W.seq ?_
    refine W.seq ?_
    refine W.region ?_
    first | refine W.q (Ev.fae (.t rfl) fa51_0 rfl) rfl ?_ | refine W.q (Ev.fab (.t rfl) fa51_0) rfl ?_ | refine W.q (Ev.faa (.t rfl) fa51_0) rfl ?_
    first | refine W.q (Ev.lde1 (.t rfl) ag3) rfl ?_ | refine W.q (Ev.ldb1 0 (.t rfl) rfl ag3 rfl) rfl ?_ | refine W.q (Ev.ldb1 1 (.t rfl) rfl ag3 rfl) rfl ?_ | refine W.q (Ev.ldb1 2 (.t rfl) rfl ag3 rfl) rfl ?_ | refine W.q (Ev.ldb1 3 (.t rfl) rfl ag3 rfl) rfl ?_
    refine W.q (Ev.nei (.t rfl) .k) rfl ?_
    refine W.nil ?_
    refine W.then ?_
    refine W.is (t := 69) (g := true) (av' := .lit (.bool true)) rfl (congrArg (fun b => AV.lit (.bool b)) (by simp; omega)) ?_
    refine W.condT (.t rfl) ?_
    refine W.seq ?_
    refine W.region ?_
    refine W.q (Ev.build ty42 st42 rfl (fun hg => ⟨_, _, _, rfl, .k, rfl, rfl, rfl, rfl⟩)) rfl ?_
    first | refine W.q (Ev.fae (.t rfl) fa51_2 rfl) rfl ?_ | refine W.q (Ev.fab (.t rfl) fa51_2) rfl ?_ | refine W.q (Ev.faa (.t rfl) fa51_2) rfl ?_
    first | refine W.stb 0 (.t rfl) (.t rfl) rfl ty42 rfl rfl rfl ?_ | refine W.stb 1 (.t rfl) (.t rfl) rfl ty42 rfl rfl rfl ?_ | refine W.stb 2 (.t rfl) (.t rfl) rfl ty42 rfl rfl rfl ?_ | refine W.stb 3 (.t rfl) (.t rfl) rfl ty42 rfl rfl rfl ?_
    refine W.nil ?_
    refine W.then ?_
    refine W.region ?_
    refine W.q (Ev.move (.t rfl)) rfl ?_
    refine W.q (Ev.move (.t rfl)) rfl ?_
    refine W.q (Ev.at (E := 53) (.t rfl) (.t rfl) Try.underlying23 ty53 (fun _ => ⟨by omega, hgt⟩) rfl rfl) rfl ?_
    first | refine W.q (Ev.fae (.t rfl) fa53_2 rfl) rfl ?_ | refine W.q (Ev.fab (.t rfl) fa53_2) rfl ?_ | refine W.q (Ev.faa (.t rfl) fa53_2) rfl ?_
    first | refine W.q (Ev.lde1 (.t rfl) ag22) rfl ?_ | refine W.q (Ev.ldb1 0 (.t rfl) rfl ag22 rfl) rfl ?_ | refine W.q (Ev.ldb1 1 (.t rfl) rfl ag22 rfl) rfl ?_ | refine W.q (Ev.ldb1 2 (.t rfl) rfl ag22 rfl) rfl ?_ | refine W.q (Ev.ldb1 3 (.t rfl) rfl ag22 rfl) rfl ?_
    refine W.call (WNodes.c_Nodes t.node (by omega) 3 3 (by decide) (by decide) (by decide)) ⟨(.t rfl), .k, .k, trivial⟩ (.refl _) rfl ?_
    rintro _ _ ⟨v78, ns, rest, rfl, rfl, hn1, hn2, hn3, hn4, hn5⟩
    have hns := Nd.szs_len ns
    refine W.q (Ev.move (.t rfl)) rfl ?_
    refine W.q (Ev.extract (.t rfl) rfl) rfl ?_
    refine W.q (Ev.extract (.t rfl) rfl) rfl ?_
    refine W.freezeA (M1 := [_, _]) (M2 := [_, _]) (D := []) (v := v78) (L' := [(79, true, .sl 4 (ns.map Nd.av))]) (.refl _) ⟨⟨_, rfl, .one .hit⟩, trivial⟩ (FrzMs.refl _) ?_
    first | refine W.q (Ev.fae (.t rfl) fa51_2 rfl) rfl ?_ | refine W.q (Ev.fab (.t rfl) fa51_2) rfl ?_ | refine W.q (Ev.faa (.t rfl) fa51_2) rfl ?_
    first | refine W.q (Ev.fae (.t rfl) fa42_3 rfl) rfl ?_ | refine W.q (Ev.fab (.t rfl) fa42_3) rfl ?_ | refine W.q (Ev.faa (.t rfl) fa42_3) rfl ?_
    first | refine W.stb 0 (.t rfl) (.t rfl) rfl ty24 rfl rfl rfl ?_ | refine W.stb 1 (.t rfl) (.t rfl) rfl ty24 rfl rfl rfl ?_ | refine W.stb 2 (.t rfl) (.t rfl) rfl ty24 rfl rfl rfl ?_ | refine W.stb 3 (.t rfl) (.t rfl) rfl ty24 rfl rfl rfl ?_
    refine W.nil ?_
    refine W.nilBox (A := []) (cs' := [.int (Ch.mk (1 + t.kind % 3) p (Nd.mk [98] [] [] ns)).kind, .sl 1 ((Ch.mk (1 + t.kind % 3) p (Nd.mk [98] [] [] ns)).path.map AV.int), .str (Ch.mk (1 + t.kind % 3) p (Nd.mk [98] [] [] ns)).node.name, .sl 2 ((Ch.mk (1 + t.kind % 3) p (Nd.mk [98] [] [] ns)).node.attrs.map dav), .str (Ch.mk (1 + t.kind % 3) p (Nd.mk [98] [] [] ns)).node.text, .sl 4 ((Ch.mk (1 + t.kind % 3) p (Nd.mk [98] [] [] ns)).node.parts.map Nd.av)]) rfl ⟨.inl rfl, .inl rfl, .inl rfl, .inr ⟨rfl, 2, rfl⟩, .inl rfl, .inl rfl, trivial⟩ ?_
    refine W.then ?_
    refine W.seq ?_
    refine W.drawnE (ι := Unit) (fun _ _ => _) 10 () (by kernel_rfl) (by kernel_rfl) rfl ?_
    have hok1 : Ch.ok 16777216 X (Ch.mk (1 + t.kind % 3) p (Nd.mk [98] [] [] ns)) := ⟨hXb, hXw, (by rw [Nd.sz_eq]; simp only [Nd.attrs_mk, Nd.parts_mk, List.length_nil]; omega), (Nd.wf_eq _).2 ⟨fun h => (List.cons_ne_nil 98 [] h).elim, hn3⟩, (by show p.length ≤ _; omega), (by rcases (show t.kind % 3 = 0 ∨ t.kind % 3 = 2 from by omega) with h | h; exact .inl ⟨by show 1 + t.kind % 3 = 1; omega, hpll⟩; exact .inr (.inr ⟨by show 1 + t.kind % 3 = 3; omega, d0, hat0⟩))⟩
    have happ := Ch.app_ok hok1
    have hszc : Nd.szs (Ch.run X [(Ch.mk (1 + t.kind % 3) p (Nd.mk [98] [] [] ns))]) ≤ 2097152 + 2 * (((ts.take (i + 1)).map fun t => t.node.length).sum) + (i + 1) := by
      have h1 := happ.2
      have h2 : (Nd.mk [98] [] [] ns).sz = 1 + 0 + Nd.szs ns := by rw [Nd.sz_eq]; rfl
      show Nd.szs (Ch.app X (Ch.mk (1 + t.kind % 3) p (Nd.mk [98] [] [] ns))) ≤ _
      simp only at h1
      omega
    have hoks1 : Ch.oks 16777216 X [(Ch.mk (1 + t.kind % 3) p (Nd.mk [98] [] [] ns))] := ⟨hok1, by have h5 : Nd.szs (Ch.run X [(Ch.mk (1 + t.kind % 3) p (Nd.mk [98] [] [] ns))]) = Nd.szs (Ch.app X (Ch.mk (1 + t.kind % 3) p (Nd.mk [98] [] [] ns))) := rfl; omega, happ.1⟩
    have hPlay := WPlayC.c_PlayC X [(Ch.mk (1 + t.kind % 3) p (Nd.mk [98] [] [] ns))] (by simp) hoks1
    refine DE.q (fun e c hk => (Ev.move (.t rfl))) rfl (fun _ _ => rfl) (by first | exact .inr (fun _ _ => rfl) | exact .inl (by kernel_rfl)) ?_
    refine DE.callp (fun c => WCopied.c_copied X (by omega)) (fun c => ⟨(.t rfl), trivial⟩) rfl (fun _ _ => rfl) (by first | exact .inr (fun _ _ => rfl) | exact .inl (by kernel_rfl)) ?_
    first | refine DE.q (fun e c hk => (Ev.lden (.t rfl) ag51 ty51 rfl rfl)) rfl (fun _ _ => rfl) (by first | exact .inr (fun _ _ => rfl) | exact .inl (by kernel_rfl)) ?_ | refine DE.q (fun e c hk => (Ev.ldbn 0 (.t rfl) rfl ag51 ty51 rfl)) rfl (fun _ _ => rfl) (by first | exact .inr (fun _ _ => rfl) | exact .inl (by kernel_rfl)) ?_ | refine DE.q (fun e c hk => (Ev.ldbn 1 (.t rfl) rfl ag51 ty51 rfl)) rfl (fun _ _ => rfl) (by first | exact .inr (fun _ _ => rfl) | exact .inl (by kernel_rfl)) ?_ | refine DE.q (fun e c hk => (Ev.ldbn 2 (.t rfl) rfl ag51 ty51 rfl)) rfl (fun _ _ => rfl) (by first | exact .inr (fun _ _ => rfl) | exact .inl (by kernel_rfl)) ?_ | refine DE.q (fun e c hk => (Ev.ldbn 3 (.t rfl) rfl ag51 ty51 rfl)) rfl (fun _ _ => rfl) (by first | exact .inr (fun _ _ => rfl) | exact .inl (by kernel_rfl)) ?_
    refine DE.bs (es := fun _ => [_]) Try.underlying27 ty51 (fun c => ⟨rfl, (.t rfl), rfl, rfl, trivial⟩) (fun _ => rfl) (by decide) rfl rfl (fun _ _ => rfl) (by first | exact .inr (fun _ _ => rfl) | exact .inl (by kernel_rfl)) ?_
    refine DE.callp (fun c => hPlay) (fun c => ⟨(.t rfl), (.t rfl), trivial⟩) rfl (fun _ _ => rfl) (by first | exact .inr (fun _ _ => rfl) | exact .inl (by kernel_rfl)) ?_
    refine DE.q (fun e c hk => (Ev.move (.t rfl))) rfl (fun _ _ => rfl) (by first | exact .inr (fun _ _ => rfl) | exact .inl (by kernel_rfl)) ?_
    refine DE.q (fun e c hk => (Ev.extract (.t rfl) rfl)) rfl (fun _ _ => rfl) (by first | exact .inr (fun _ _ => rfl) | exact .inl (by kernel_rfl)) ?_
    refine DE.q (fun e c hk => (Ev.extract (.t rfl) rfl)) rfl (fun _ _ => rfl) (by first | exact .inr (fun _ _ => rfl) | exact .inl (by kernel_rfl)) ?_
    refine DE.q (fun e c hk => (Ev.assign (.t rfl))) rfl (fun _ _ => rfl) (by first | exact .inr (fun _ _ => rfl) | exact .inl (by kernel_rfl)) ?_
    refine DE.q (fun e c hk => (Ev.assign (.t rfl))) rfl (fun _ _ => rfl) (by first | exact .inr (fun _ _ => rfl) | exact .inl (by kernel_rfl)) ?_
    refine DE.nil (fun c_ e_ he_ => ?_)
    dsimp only
    refine W.then ?_
    refine W.seq ?_
    refine W.seq ?_
    refine W.region ?_
    refine W.q (Ev.move (.t rfl)) rfl ?_
    refine W.q (Ev.nei (.t rfl) .k) rfl ?_
    refine W.nil ?_
    refine W.then ?_
    refine W.is (t := 92) (g := true) (av' := .lit (.bool false)) rfl (congrArg (fun b => AV.lit (.bool b)) (by rfl)) ?_
    refine W.condF (.t rfl) ?_
    refine W.skip ?_
    refine W.then ?_
    refine W.seq ?_
    refine W.region ?_
    refine W.q (Ev.move (.t rfl)) rfl ?_
    first | refine W.q (Ev.lden (.t rfl) ag51 ty51 rfl rfl) rfl ?_ | refine W.q (Ev.ldbn 0 (.t rfl) rfl ag51 ty51 rfl) rfl ?_ | refine W.q (Ev.ldbn 1 (.t rfl) rfl ag51 ty51 rfl) rfl ?_ | refine W.q (Ev.ldbn 2 (.t rfl) rfl ag51 ty51 rfl) rfl ?_ | refine W.q (Ev.ldbn 3 (.t rfl) rfl ag51 ty51 rfl) rfl ?_
    refine W.bs (es := [_]) Try.underlying27 ty51 ⟨rfl, (.t rfl), rfl, rfl, trivial⟩ rfl (by decide) rfl rfl ?_
    first | refine W.app 0 (.t rfl) rfl (.sl (.t rfl) (by intro e he; rw [List.mem_singleton.1 he]; rfl)) Try.underlying27 ni27 ty51 rfl rfl (by simp only [List.length_map, List.length_cons, List.length_nil]; omega) rfl ?_ | refine W.app 1 (.t rfl) rfl (.sl (.t rfl) (by intro e he; rw [List.mem_singleton.1 he]; rfl)) Try.underlying27 ni27 ty51 rfl rfl (by simp only [List.length_map, List.length_cons, List.length_nil]; omega) rfl ?_ | refine W.app 2 (.t rfl) rfl (.sl (.t rfl) (by intro e he; rw [List.mem_singleton.1 he]; rfl)) Try.underlying27 ni27 ty51 rfl rfl (by simp only [List.length_map, List.length_cons, List.length_nil]; omega) rfl ?_ | refine W.app 3 (.t rfl) rfl (.sl (.t rfl) (by intro e he; rw [List.mem_singleton.1 he]; rfl)) Try.underlying27 ni27 ty51 rfl rfl (by simp only [List.length_map, List.length_cons, List.length_nil]; omega) rfl ?_ | refine W.app 0 (.t rfl) rfl (.arr 0 (.t rfl) rfl (by intro e he; rw [List.mem_singleton.1 he]; rfl)) Try.underlying27 ni27 ty51 rfl rfl (by simp only [List.length_map, List.length_cons, List.length_nil]; omega) rfl ?_ | refine W.app 0 (.t rfl) rfl (.arr 1 (.t rfl) rfl (by intro e he; rw [List.mem_singleton.1 he]; rfl)) Try.underlying27 ni27 ty51 rfl rfl (by simp only [List.length_map, List.length_cons, List.length_nil]; omega) rfl ?_ | refine W.app 0 (.t rfl) rfl (.arr 2 (.t rfl) rfl (by intro e he; rw [List.mem_singleton.1 he]; rfl)) Try.underlying27 ni27 ty51 rfl rfl (by simp only [List.length_map, List.length_cons, List.length_nil]; omega) rfl ?_ | refine W.app 0 (.t rfl) rfl (.arr 3 (.t rfl) rfl (by intro e he; rw [List.mem_singleton.1 he]; rfl)) Try.underlying27 ni27 ty51 rfl rfl (by simp only [List.length_map, List.length_cons, List.length_nil]; omega) rfl ?_ | refine W.app 1 (.t rfl) rfl (.arr 0 (.t rfl) rfl (by intro e he; rw [List.mem_singleton.1 he]; rfl)) Try.underlying27 ni27 ty51 rfl rfl (by simp only [List.length_map, List.length_cons, List.length_nil]; omega) rfl ?_ | refine W.app 1 (.t rfl) rfl (.arr 1 (.t rfl) rfl (by intro e he; rw [List.mem_singleton.1 he]; rfl)) Try.underlying27 ni27 ty51 rfl rfl (by simp only [List.length_map, List.length_cons, List.length_nil]; omega) rfl ?_ | refine W.app 1 (.t rfl) rfl (.arr 2 (.t rfl) rfl (by intro e he; rw [List.mem_singleton.1 he]; rfl)) Try.underlying27 ni27 ty51 rfl rfl (by simp only [List.length_map, List.length_cons, List.length_nil]; omega) rfl ?_ | refine W.app 1 (.t rfl) rfl (.arr 3 (.t rfl) rfl (by intro e he; rw [List.mem_singleton.1 he]; rfl)) Try.underlying27 ni27 ty51 rfl rfl (by simp only [List.length_map, List.length_cons, List.length_nil]; omega) rfl ?_ | refine W.app 2 (.t rfl) rfl (.arr 0 (.t rfl) rfl (by intro e he; rw [List.mem_singleton.1 he]; rfl)) Try.underlying27 ni27 ty51 rfl rfl (by simp only [List.length_map, List.length_cons, List.length_nil]; omega) rfl ?_ | refine W.app 2 (.t rfl) rfl (.arr 1 (.t rfl) rfl (by intro e he; rw [List.mem_singleton.1 he]; rfl)) Try.underlying27 ni27 ty51 rfl rfl (by simp only [List.length_map, List.length_cons, List.length_nil]; omega) rfl ?_ | refine W.app 2 (.t rfl) rfl (.arr 2 (.t rfl) rfl (by intro e he; rw [List.mem_singleton.1 he]; rfl)) Try.underlying27 ni27 ty51 rfl rfl (by simp only [List.length_map, List.length_cons, List.length_nil]; omega) rfl ?_ | refine W.app 2 (.t rfl) rfl (.arr 3 (.t rfl) rfl (by intro e he; rw [List.mem_singleton.1 he]; rfl)) Try.underlying27 ni27 ty51 rfl rfl (by simp only [List.length_map, List.length_cons, List.length_nil]; omega) rfl ?_ | refine W.app 3 (.t rfl) rfl (.arr 0 (.t rfl) rfl (by intro e he; rw [List.mem_singleton.1 he]; rfl)) Try.underlying27 ni27 ty51 rfl rfl (by simp only [List.length_map, List.length_cons, List.length_nil]; omega) rfl ?_ | refine W.app 3 (.t rfl) rfl (.arr 1 (.t rfl) rfl (by intro e he; rw [List.mem_singleton.1 he]; rfl)) Try.underlying27 ni27 ty51 rfl rfl (by simp only [List.length_map, List.length_cons, List.length_nil]; omega) rfl ?_ | refine W.app 3 (.t rfl) rfl (.arr 2 (.t rfl) rfl (by intro e he; rw [List.mem_singleton.1 he]; rfl)) Try.underlying27 ni27 ty51 rfl rfl (by simp only [List.length_map, List.length_cons, List.length_nil]; omega) rfl ?_ | refine W.app 3 (.t rfl) rfl (.arr 3 (.t rfl) rfl (by intro e he; rw [List.mem_singleton.1 he]; rfl)) Try.underlying27 ni27 ty51 rfl rfl (by simp only [List.length_map, List.length_cons, List.length_nil]; omega) rfl ?_
    intro v96
    refine W.q (Ev.assign (.t rfl)) rfl ?_
    refine W.nil ?_
    refine W.then ?_
    refine W.region ?_
    refine W.q (Ev.move (.t rfl)) rfl ?_
    refine W.q (Ev.assign (.t rfl)) rfl ?_
    refine W.nil ?_
    refine W.blk_normal ?_
    refine W.then ?_
    refine W.region ?_
    refine W.q (Ev.move (.t rfl)) rfl ?_
    first | refine W.q (Ev.add (.t rfl) .k (fun _ => by omega)) rfl ?_ | refine W.q (Ev.addw (.t rfl) .k) rfl ?_
    refine W.q (Ev.assign (.t rfl)) rfl ?_
    refine W.nil ?_
    refine W.then ?_
    refine W.is (t := 10) (g := true) (av' := .sl 4 ((Ch.run l (cs ++ [(Ch.mk (1 + t.kind % 3) p (Nd.mk [98] [] [] ns))])).map Nd.av)) rfl (congrArg (fun q => AV.sl 4 (q.map Nd.av)) (show Ch.run X [(Ch.mk (1 + t.kind % 3) p (Nd.mk [98] [] [] ns))] = Ch.run l (cs ++ [(Ch.mk (1 + t.kind % 3) p (Nd.mk [98] [] [] ns))]) from by rw [Ch.run_append, hXe])) ?_
    refine W.reach (D := [_]) (i + 1, v96, cs ++ [(Ch.mk (1 + t.kind % 3) p (Nd.mk [98] [] [] ns))]) ⟨rfl, rfl, rfl, rfl, rfl, trivial⟩ (by rw [List.map_append]; exact List.Perm.swap _ _ []) ⟨⟨by show i + 1 ≤ _; omega, by show i + 1 ≤ 10; omega, by show (cs ++ [_]).length = i + 1; rw [List.length_append, hcl]; rfl, (Ch.oks_append cs _ l).2 ⟨hok, by rw [hXe]; exact hoks1⟩, ?_⟩, by show _ - (i + 1) < _; omega⟩
    show Nd.szs (Ch.run l (cs ++ [_])) ≤ _
    rw [Ch.run_append, hXe]
    exact hszc
  · have hgt : (ts.map tnv)[i]? = some (tnv (ts.getD i ⟨0, 0, []⟩)) := getD_mapG tnv ⟨0, 0, []⟩ ts i hlt1
    have hsum := sum_take (fun t : Tn => t.node.length) ts i ⟨0, 0, []⟩ hlt1
    have hsle := sum_le (fun t : Tn => t.node.length) ts (i + 1)
    generalize ts.getD i ⟨0, 0, []⟩ = t at *
    obtain ⟨hXb, hXw⟩ : Nd.szs (Ch.run l cs) ≤ 16777216 ∧ Nd.wfs (Ch.run l cs) := ((Ch.oks_append cs [] l).1 (by rw [List.append_nil]; exact hok)).2
    generalize hXe : Ch.run l cs = X at hXb hXw hsz
    have hP1 := Nd.pthsFrom_len X 0
    have hP3 := Nd.pthsFrom_deep X 0
    have hP2 := Nd.at_paths
    have cP := WPaths.c_Paths X (by omega)
    have hcn := Nd.cnts_le X
    generalize hPS : Nd.pthsFrom 0 X = PS at *
    have hPm : (PS.map pav).length = PS.length := List.length_map ..
    have hcn0 : 0 < Nd.cnts X := by rw [← hXe]; exact hc0
    have hkd2 : t.kind % 3 = 1 := hkd
    have hm0 : 0 ≤ t.path % (Nd.cnts X : Int) := Int.emod_nonneg _ (by omega)
    have hm1x : t.path % (Nd.cnts X : Int) < (Nd.cnts X : Int) := Int.emod_lt_of_pos _ (by omega)
    have hgp : (PS.map pav)[(t.path % (Nd.cnts X : Int)).toNat]? = some (pav (PS.getD (t.path % (Nd.cnts X : Int)).toNat [])) := getD_mapG pav [] PS _ (by omega)
    have hpm := getD_memG [] PS (t.path % (Nd.cnts X : Int)).toNat (by omega)
    generalize PS.getD (t.path % (Nd.cnts X : Int)).toNat [] = p at hgp hpm
    have hpl := hP3 p hpm
    obtain ⟨d0, hat0⟩ := hP2 p X (by rw [hPS]; exact hpm)
    have hpll := Nd.pl_of_at p X d0 hat0 hXw
    refine W.seq ?_
    refine W.seq ?_
    refine W.region ?_
    refine W.q (Ev.move (.t rfl)) rfl ?_
    refine W.q (Ev.move (.t rfl)) rfl ?_
    first | refine W.q (Ev.lensl (.t rfl) Try.underlying23) rfl ?_ | refine W.q (Ev.lenar (i := 0) (.t rfl) rfl Try.underlying23) rfl ?_ | refine W.q (Ev.lenar (i := 1) (.t rfl) rfl Try.underlying23) rfl ?_ | refine W.q (Ev.lenar (i := 2) (.t rfl) rfl Try.underlying23) rfl ?_ | refine W.q (Ev.lenar (i := 3) (.t rfl) rfl Try.underlying23) rfl ?_
    refine W.q (Ev.lti (.t rfl) (.t rfl)) rfl ?_
    refine W.q (Ev.move (.t rfl)) rfl ?_
    refine W.qgT rfl rfl (Ev.move (.t rfl)) rfl ?_
    refine W.qgT rfl rfl (Ev.move (.t rfl)) rfl ?_
    refine W.qgT rfl rfl (Ev.lti (.c rfl) (.c rfl)) rfl ?_
    refine W.q (Ev.and (.t rfl) ⟨_, _, rfl, rfl, by first | (simp; done) | (intro hg_ hp_; simp [hp_]; done) | (simp <;> omega; done) | (simp_all; done) | grind⟩) rfl ?_
    refine W.nil ?_
    refine W.then ?_
    refine W.is (t := 29) (g := true) (av' := .lit (.bool true)) rfl (congrArg (fun b => AV.lit (.bool b)) (by simp; omega)) ?_
    refine W.condT (.t rfl) ?_
    refine W.skip ?_
    refine W.then ?_
    refine W.seq ?_
    refine W.block ?_
    refine W.seq ?_
    refine W.region ?_
    refine W.q (Ev.move (.t rfl)) rfl ?_
    refine W.callp (WCopied.c_copied X (by omega)) ⟨(.t rfl), trivial⟩ rfl ?_
    refine W.callp (cP) ⟨(.t rfl), trivial⟩ rfl ?_
    refine W.q (Ev.assign (.t rfl)) rfl ?_
    refine W.nil ?_
    refine W.then ?_
    refine W.seq ?_
    refine W.region ?_
    refine W.q (Ev.move (.t rfl)) rfl ?_
    refine W.call (WCount.c_Count X (by omega)) ⟨(.t rfl), trivial⟩ (.refl _) rfl ?_
    rintro _ _ ⟨rfl, k37, rfl, hk1, hk2⟩
    refine W.q (Ev.move (.t rfl)) rfl ?_
    refine W.q (Ev.extract (.t rfl) rfl) rfl ?_
    refine W.q (Ev.extract (.t rfl) rfl) rfl ?_
    refine W.q (Ev.assign (.t rfl)) rfl ?_
    refine W.q (Ev.assign (.t rfl)) rfl ?_
    refine W.nil ?_
    refine W.then ?_
    refine W.seq ?_
    refine W.seq ?_
    refine W.region ?_
    refine W.q (Ev.move (.t rfl)) rfl ?_
    first | refine W.q (Ev.lensl (.t rfl) Try.underlying46) rfl ?_ | refine W.q (Ev.lenar (i := 0) (.t rfl) rfl Try.underlying46) rfl ?_ | refine W.q (Ev.lenar (i := 1) (.t rfl) rfl Try.underlying46) rfl ?_ | refine W.q (Ev.lenar (i := 2) (.t rfl) rfl Try.underlying46) rfl ?_ | refine W.q (Ev.lenar (i := 3) (.t rfl) rfl Try.underlying46) rfl ?_
    refine W.q (Ev.move (.t rfl)) rfl ?_
    refine W.q (Ev.nei (.t rfl) (.t rfl)) rfl ?_
    refine W.nil ?_
    refine W.then ?_
    refine W.is (t := 43) (g := true) (av' := .lit (.bool false)) rfl (congrArg (fun b => AV.lit (.bool b)) (by simp; omega)) ?_
    refine W.condF (.t rfl) ?_
    refine W.skip ?_
    refine W.then ?_
    refine W.seq ?_
    refine W.region ?_
    refine W.bs (es := [_]) Try.underlying22 ty3 ⟨rfl, .k, rfl, rfl, trivial⟩ rfl (by decide) rfl rfl ?_
    refine W.q (Ev.build ty51 st51 rfl (fun hg => ⟨_, _, _, rfl, .k, rfl, rfl, rfl, _, _, _, rfl, (.t rfl), rfl, rfl, rfl, rfl⟩)) rfl ?_
    refine W.alloc ty51 rfl rfl ?_
    intro b15
    first | refine W.stb 0 (.t rfl) (.t rfl) rfl ty51 rfl rfl rfl ?_ | refine W.stb 1 (.t rfl) (.t rfl) rfl ty51 rfl rfl rfl ?_ | refine W.stb 2 (.t rfl) (.t rfl) rfl ty51 rfl rfl rfl ?_ | refine W.stb 3 (.t rfl) (.t rfl) rfl ty51 rfl rfl rfl ?_
    refine W.nil ?_
    refine W.then ?_
    refine W.seq ?_
    refine W.seq ?_
    refine W.region ?_
    refine W.q (Ev.move (.t rfl)) rfl ?_
    refine W.q (Ev.gti (.t rfl) .k) rfl ?_
    refine W.nil ?_
    refine W.then ?_
    refine W.is (t := 47) (g := true) (av' := .lit (.bool true)) rfl (congrArg (fun b => AV.lit (.bool b)) (by simp; omega)) ?_
    refine W.condT (.t rfl) ?_
    refine W.drawnE (ι := Unit) (fun ee _ => [.box b15 51 (bif ee 19 then [.int (1 + t.kind % 3), .sl 1 (p.map AV.int), .lit (.string ⟨#[]⟩), .lit (.slice none 0 0), .lit (.string ⟨#[]⟩), .lit (.slice none 0 0)] else [.int 1, .sl 1 [.int 0], .lit (.string ⟨#[]⟩), .lit (.slice none 0 0), .lit (.string ⟨#[]⟩), .lit (.slice none 0 0)]), .arr v 51 6 (cs.map cav)]) 20 () (by kernel_rfl) (by kernel_rfl) rfl ?_
    refine DE.q (fun e c hk => (Ev.move (.t rfl))) rfl (fun _ _ => rfl) (by first | exact .inr (fun _ _ => rfl) | exact .inl (by kernel_rfl)) ?_
    refine DE.q (fun e c hk => (Ev.move (.t rfl))) rfl (fun _ _ => rfl) (by first | exact .inr (fun _ _ => rfl) | exact .inl (by kernel_rfl)) ?_
    refine DE.q (fun e c hk => Ev.at (E := 53) (.t rfl) (.t rfl) Try.underlying23 ty53 (fun _ => ⟨by omega, hgt⟩) rfl rfl) rfl (fun _ _ => rfl) (by first | exact .inr (fun _ _ => rfl) | exact .inl (by kernel_rfl)) ?_
    first | refine DE.q (fun e c hk => (Ev.fae (.t rfl) fa53_0 rfl)) rfl (fun _ _ => rfl) (by first | exact .inr (fun _ _ => rfl) | exact .inl (by kernel_rfl)) ?_ | refine DE.q (fun e c hk => (Ev.fab (.t rfl) fa53_0)) rfl (fun _ _ => rfl) (by first | exact .inr (fun _ _ => rfl) | exact .inl (by kernel_rfl)) ?_ | refine DE.q (fun e c hk => (Ev.faa (.t rfl) fa53_0)) rfl (fun _ _ => rfl) (by first | exact .inr (fun _ _ => rfl) | exact .inl (by kernel_rfl)) ?_
    first | refine DE.q (fun e c hk => (Ev.lde1 (.t rfl) ag3)) rfl (fun _ _ => rfl) (by first | exact .inr (fun _ _ => rfl) | exact .inl (by kernel_rfl)) ?_ | refine DE.q (fun e c hk => (Ev.ldb1 0 (.t rfl) rfl ag3 rfl)) rfl (fun _ _ => rfl) (by first | exact .inr (fun _ _ => rfl) | exact .inl (by kernel_rfl)) ?_ | refine DE.q (fun e c hk => (Ev.ldb1 1 (.t rfl) rfl ag3 rfl)) rfl (fun _ _ => rfl) (by first | exact .inr (fun _ _ => rfl) | exact .inl (by kernel_rfl)) ?_ | refine DE.q (fun e c hk => (Ev.ldb1 2 (.t rfl) rfl ag3 rfl)) rfl (fun _ _ => rfl) (by first | exact .inr (fun _ _ => rfl) | exact .inl (by kernel_rfl)) ?_ | refine DE.q (fun e c hk => (Ev.ldb1 3 (.t rfl) rfl ag3 rfl)) rfl (fun _ _ => rfl) (by first | exact .inr (fun _ _ => rfl) | exact .inl (by kernel_rfl)) ?_
    refine DE.callp (fun c => Base.c_Picked t.kind 3 (by decide) (by decide)) (fun c => ⟨(.t rfl), .k, trivial⟩) rfl (fun _ _ => rfl) (by first | exact .inr (fun _ _ => rfl) | exact .inl (by kernel_rfl)) ?_
    first | refine DE.q (fun e c hk => (Ev.add .k (.t rfl) (fun _ => by omega))) rfl (fun _ _ => rfl) (by first | exact .inr (fun _ _ => rfl) | exact .inl (by kernel_rfl)) ?_ | refine DE.q (fun e c hk => (Ev.addw .k (.t rfl))) rfl (fun _ _ => rfl) (by first | exact .inr (fun _ _ => rfl) | exact .inl (by kernel_rfl)) ?_
    refine DE.q (fun e c hk => (Ev.move (.t rfl))) rfl (fun _ _ => rfl) (by first | exact .inr (fun _ _ => rfl) | exact .inl (by kernel_rfl)) ?_
    refine DE.q (fun e c hk => (Ev.move (.t rfl))) rfl (fun _ _ => rfl) (by first | exact .inr (fun _ _ => rfl) | exact .inl (by kernel_rfl)) ?_
    refine DE.q (fun e c hk => (Ev.move (.t rfl))) rfl (fun _ _ => rfl) (by first | exact .inr (fun _ _ => rfl) | exact .inl (by kernel_rfl)) ?_
    refine DE.q (fun e c hk => Ev.at (E := 53) (.t rfl) (.t rfl) Try.underlying23 ty53 (fun _ => ⟨by omega, hgt⟩) rfl rfl) rfl (fun _ _ => rfl) (by first | exact .inr (fun _ _ => rfl) | exact .inl (by kernel_rfl)) ?_
    first | refine DE.q (fun e c hk => (Ev.fae (.t rfl) fa53_1 rfl)) rfl (fun _ _ => rfl) (by first | exact .inr (fun _ _ => rfl) | exact .inl (by kernel_rfl)) ?_ | refine DE.q (fun e c hk => (Ev.fab (.t rfl) fa53_1)) rfl (fun _ _ => rfl) (by first | exact .inr (fun _ _ => rfl) | exact .inl (by kernel_rfl)) ?_ | refine DE.q (fun e c hk => (Ev.faa (.t rfl) fa53_1)) rfl (fun _ _ => rfl) (by first | exact .inr (fun _ _ => rfl) | exact .inl (by kernel_rfl)) ?_
    first | refine DE.q (fun e c hk => (Ev.lde1 (.t rfl) ag3)) rfl (fun _ _ => rfl) (by first | exact .inr (fun _ _ => rfl) | exact .inl (by kernel_rfl)) ?_ | refine DE.q (fun e c hk => (Ev.ldb1 0 (.t rfl) rfl ag3 rfl)) rfl (fun _ _ => rfl) (by first | exact .inr (fun _ _ => rfl) | exact .inl (by kernel_rfl)) ?_ | refine DE.q (fun e c hk => (Ev.ldb1 1 (.t rfl) rfl ag3 rfl)) rfl (fun _ _ => rfl) (by first | exact .inr (fun _ _ => rfl) | exact .inl (by kernel_rfl)) ?_ | refine DE.q (fun e c hk => (Ev.ldb1 2 (.t rfl) rfl ag3 rfl)) rfl (fun _ _ => rfl) (by first | exact .inr (fun _ _ => rfl) | exact .inl (by kernel_rfl)) ?_ | refine DE.q (fun e c hk => (Ev.ldb1 3 (.t rfl) rfl ag3 rfl)) rfl (fun _ _ => rfl) (by first | exact .inr (fun _ _ => rfl) | exact .inl (by kernel_rfl)) ?_
    refine DE.q (fun e c hk => (Ev.move (.t rfl))) rfl (fun _ _ => rfl) (by first | exact .inr (fun _ _ => rfl) | exact .inl (by kernel_rfl)) ?_
    refine DE.callp (fun c => Base.c_Picked t.path (Nd.cnts X : Int) (by omega) (by omega)) (fun c => ⟨(.t rfl), (.t rfl), trivial⟩) rfl (fun _ _ => rfl) (by first | exact .inr (fun _ _ => rfl) | exact .inl (by kernel_rfl)) ?_
    refine DE.q (fun e c hk => Ev.at (E := 22) (.t rfl) (.t rfl) Try.underlying46 ty22 (fun _ => ⟨hm0, hgp⟩) rfl rfl) rfl (fun _ _ => rfl) (by first | exact .inr (fun _ _ => rfl) | exact .inl (by kernel_rfl)) ?_
    first | refine DE.q (fun e c hk => (Ev.lde1 (.t rfl) ag22)) rfl (fun _ _ => rfl) (by first | exact .inr (fun _ _ => rfl) | exact .inl (by kernel_rfl)) ?_ | refine DE.q (fun e c hk => (Ev.ldb1 0 (.t rfl) rfl ag22 rfl)) rfl (fun _ _ => rfl) (by first | exact .inr (fun _ _ => rfl) | exact .inl (by kernel_rfl)) ?_ | refine DE.q (fun e c hk => (Ev.ldb1 1 (.t rfl) rfl ag22 rfl)) rfl (fun _ _ => rfl) (by first | exact .inr (fun _ _ => rfl) | exact .inl (by kernel_rfl)) ?_ | refine DE.q (fun e c hk => (Ev.ldb1 2 (.t rfl) rfl ag22 rfl)) rfl (fun _ _ => rfl) (by first | exact .inr (fun _ _ => rfl) | exact .inl (by kernel_rfl)) ?_ | refine DE.q (fun e c hk => (Ev.ldb1 3 (.t rfl) rfl ag22 rfl)) rfl (fun _ _ => rfl) (by first | exact .inr (fun _ _ => rfl) | exact .inl (by kernel_rfl)) ?_
    first | refine DE.app0 (fun c => (by first | exact .k | exact .kn)) (fun e c => .sl (.t rfl) (okc_ints p)) Try.underlying22 ni22 ty3 rfl rfl (by simp; omega) rfl (fun _ _ => rfl) ?_ | refine DE.app0 (fun c => .k) (fun e c => .sl (.t rfl) (okc_ints p)) Try.underlying22 ni22 ty3 rfl rfl (by simp; omega) rfl (fun _ _ => rfl) ?_
    refine DE.q (fun e c hk => (Ev.build ty51 st51 rfl (fun hg => ⟨_, _, _, rfl, (.t rfl), rfl, rfl, rfl, _, _, _, rfl, (.t rfl), rfl, rfl, rfl, rfl⟩))) rfl (fun _ _ => rfl) (by first | exact .inr (fun _ _ => rfl) | exact .inl (by kernel_rfl)) ?_
    refine DE.eff0 (fun e c hk L_ hs Q h => ?_) ?_
    · have hk_19 := hk.not
      simp only [addE, hk_19, Nat.reduceAdd, Nat.reduceEqDiff, ↓reduceIte, cond_true, cond_false] at h ⊢
      first | (refine W.stb 0 (.t (hs _ _ rfl)) (.t (hs _ _ rfl)) rfl ty51 rfl rfl rfl ?_; exact h) | (refine W.stb 1 (.t (hs _ _ rfl)) (.t (hs _ _ rfl)) rfl ty51 rfl rfl rfl ?_; exact h) | (refine W.stb 2 (.t (hs _ _ rfl)) (.t (hs _ _ rfl)) rfl ty51 rfl rfl rfl ?_; exact h) | (refine W.stb 3 (.t (hs _ _ rfl)) (.t (hs _ _ rfl)) rfl ty51 rfl rfl rfl ?_; exact h)
    refine DE.nil (fun c_ e_ he_ => ?_)
    simp only [he_ 19 (by decide), cond_true, cond_false]
    refine W.then ?_
    refine W.seq ?_
    refine W.seq ?_
    refine W.region ?_
    refine W.nilBox (A := []) (cs' := [.int (Ch.mk (1 + t.kind % 3) p Nd.dflt).kind, .sl 1 ((Ch.mk (1 + t.kind % 3) p Nd.dflt).path.map AV.int), .str (Ch.mk (1 + t.kind % 3) p Nd.dflt).node.name, .sl 2 ((Ch.mk (1 + t.kind % 3) p Nd.dflt).node.attrs.map dav), .str (Ch.mk (1 + t.kind % 3) p Nd.dflt).node.text, .sl 4 ((Ch.mk (1 + t.kind % 3) p Nd.dflt).node.parts.map Nd.av)]) rfl ⟨.inl rfl, .inl rfl, .inl rfl, .inr ⟨rfl, 2, rfl⟩, .inl rfl, .inr ⟨rfl, 4, rfl⟩, trivial⟩ ?_
    first | refine W.q (Ev.fae (.t rfl) fa51_0 rfl) rfl ?_ | refine W.q (Ev.fab (.t rfl) fa51_0) rfl ?_ | refine W.q (Ev.faa (.t rfl) fa51_0) rfl ?_
    first | refine W.q (Ev.lde1 (.t rfl) ag3) rfl ?_ | refine W.q (Ev.ldb1 0 (.t rfl) rfl ag3 rfl) rfl ?_ | refine W.q (Ev.ldb1 1 (.t rfl) rfl ag3 rfl) rfl ?_ | refine W.q (Ev.ldb1 2 (.t rfl) rfl ag3 rfl) rfl ?_ | refine W.q (Ev.ldb1 3 (.t rfl) rfl ag3 rfl) rfl ?_
    refine W.q (Ev.nei (.t rfl) .k) rfl ?_
    refine W.nil ?_
    refine W.then ?_
    refine W.is (t := 69) (g := true) (av' := .lit (.bool false)) rfl (congrArg (fun b => AV.lit (.bool b)) (by simp; omega)) ?_
    refine W.condF (.t rfl) ?_
    refine W.skip ?_
    refine W.then ?_
    refine W.seq ?_
    refine W.drawnE (ι := Unit) (fun _ _ => _) 10 () (by kernel_rfl) (by kernel_rfl) rfl ?_
    have hok1 : Ch.ok 16777216 X (Ch.mk (1 + t.kind % 3) p Nd.dflt) := ⟨hXb, hXw, (by show Nd.dflt.sz ≤ _; decide), (Nd.wf_eq _).2 ⟨fun _ => rfl, trivial⟩, (by show p.length ≤ _; omega), (.inr (.inl ⟨by show 1 + t.kind % 3 = 2; omega, rfl, d0, hat0⟩))⟩
    have happ := Ch.app_ok hok1
    have hszc : Nd.szs (Ch.run X [(Ch.mk (1 + t.kind % 3) p Nd.dflt)]) ≤ 2097152 + 2 * (((ts.take (i + 1)).map fun t => t.node.length).sum) + (i + 1) := by
      have h1 := happ.2
      have h2 : Nd.dflt.sz = 1 := rfl
      show Nd.szs (Ch.app X (Ch.mk (1 + t.kind % 3) p Nd.dflt)) ≤ _
      simp only at h1
      omega
    have hoks1 : Ch.oks 16777216 X [(Ch.mk (1 + t.kind % 3) p Nd.dflt)] := ⟨hok1, by have h5 : Nd.szs (Ch.run X [(Ch.mk (1 + t.kind % 3) p Nd.dflt)]) = Nd.szs (Ch.app X (Ch.mk (1 + t.kind % 3) p Nd.dflt)) := rfl; omega, happ.1⟩
    have hPlay := WPlayC.c_PlayC X [(Ch.mk (1 + t.kind % 3) p Nd.dflt)] (by simp) hoks1
    refine DE.q (fun e c hk => (Ev.move (.t rfl))) rfl (fun _ _ => rfl) (by first | exact .inr (fun _ _ => rfl) | exact .inl (by kernel_rfl)) ?_
    refine DE.callp (fun c => WCopied.c_copied X (by omega)) (fun c => ⟨(.t rfl), trivial⟩) rfl (fun _ _ => rfl) (by first | exact .inr (fun _ _ => rfl) | exact .inl (by kernel_rfl)) ?_
    first | refine DE.q (fun e c hk => (Ev.lden (.t rfl) ag51 ty51 rfl rfl)) rfl (fun _ _ => rfl) (by first | exact .inr (fun _ _ => rfl) | exact .inl (by kernel_rfl)) ?_ | refine DE.q (fun e c hk => (Ev.ldbn 0 (.t rfl) rfl ag51 ty51 rfl)) rfl (fun _ _ => rfl) (by first | exact .inr (fun _ _ => rfl) | exact .inl (by kernel_rfl)) ?_ | refine DE.q (fun e c hk => (Ev.ldbn 1 (.t rfl) rfl ag51 ty51 rfl)) rfl (fun _ _ => rfl) (by first | exact .inr (fun _ _ => rfl) | exact .inl (by kernel_rfl)) ?_ | refine DE.q (fun e c hk => (Ev.ldbn 2 (.t rfl) rfl ag51 ty51 rfl)) rfl (fun _ _ => rfl) (by first | exact .inr (fun _ _ => rfl) | exact .inl (by kernel_rfl)) ?_ | refine DE.q (fun e c hk => (Ev.ldbn 3 (.t rfl) rfl ag51 ty51 rfl)) rfl (fun _ _ => rfl) (by first | exact .inr (fun _ _ => rfl) | exact .inl (by kernel_rfl)) ?_
    refine DE.bs (es := fun _ => [_]) Try.underlying27 ty51 (fun c => ⟨rfl, (.t rfl), rfl, rfl, trivial⟩) (fun _ => rfl) (by decide) rfl rfl (fun _ _ => rfl) (by first | exact .inr (fun _ _ => rfl) | exact .inl (by kernel_rfl)) ?_
    refine DE.callp (fun c => hPlay) (fun c => ⟨(.t rfl), (.t rfl), trivial⟩) rfl (fun _ _ => rfl) (by first | exact .inr (fun _ _ => rfl) | exact .inl (by kernel_rfl)) ?_
    refine DE.q (fun e c hk => (Ev.move (.t rfl))) rfl (fun _ _ => rfl) (by first | exact .inr (fun _ _ => rfl) | exact .inl (by kernel_rfl)) ?_
    refine DE.q (fun e c hk => (Ev.extract (.t rfl) rfl)) rfl (fun _ _ => rfl) (by first | exact .inr (fun _ _ => rfl) | exact .inl (by kernel_rfl)) ?_
    refine DE.q (fun e c hk => (Ev.extract (.t rfl) rfl)) rfl (fun _ _ => rfl) (by first | exact .inr (fun _ _ => rfl) | exact .inl (by kernel_rfl)) ?_
    refine DE.q (fun e c hk => (Ev.assign (.t rfl))) rfl (fun _ _ => rfl) (by first | exact .inr (fun _ _ => rfl) | exact .inl (by kernel_rfl)) ?_
    refine DE.q (fun e c hk => (Ev.assign (.t rfl))) rfl (fun _ _ => rfl) (by first | exact .inr (fun _ _ => rfl) | exact .inl (by kernel_rfl)) ?_
    refine DE.nil (fun c_ e_ he_ => ?_)
    dsimp only
    refine W.then ?_
    refine W.seq ?_
    refine W.seq ?_
    refine W.region ?_
    refine W.q (Ev.move (.t rfl)) rfl ?_
    refine W.q (Ev.nei (.t rfl) .k) rfl ?_
    refine W.nil ?_
    refine W.then ?_
    refine W.is (t := 92) (g := true) (av' := .lit (.bool false)) rfl (congrArg (fun b => AV.lit (.bool b)) (by rfl)) ?_
    refine W.condF (.t rfl) ?_
    refine W.skip ?_
    refine W.then ?_
    refine W.seq ?_
    refine W.region ?_
    refine W.q (Ev.move (.t rfl)) rfl ?_
    first | refine W.q (Ev.lden (.t rfl) ag51 ty51 rfl rfl) rfl ?_ | refine W.q (Ev.ldbn 0 (.t rfl) rfl ag51 ty51 rfl) rfl ?_ | refine W.q (Ev.ldbn 1 (.t rfl) rfl ag51 ty51 rfl) rfl ?_ | refine W.q (Ev.ldbn 2 (.t rfl) rfl ag51 ty51 rfl) rfl ?_ | refine W.q (Ev.ldbn 3 (.t rfl) rfl ag51 ty51 rfl) rfl ?_
    refine W.bs (es := [_]) Try.underlying27 ty51 ⟨rfl, (.t rfl), rfl, rfl, trivial⟩ rfl (by decide) rfl rfl ?_
    first | refine W.app 0 (.t rfl) rfl (.sl (.t rfl) (by intro e he; rw [List.mem_singleton.1 he]; rfl)) Try.underlying27 ni27 ty51 rfl rfl (by simp only [List.length_map, List.length_cons, List.length_nil]; omega) rfl ?_ | refine W.app 1 (.t rfl) rfl (.sl (.t rfl) (by intro e he; rw [List.mem_singleton.1 he]; rfl)) Try.underlying27 ni27 ty51 rfl rfl (by simp only [List.length_map, List.length_cons, List.length_nil]; omega) rfl ?_ | refine W.app 2 (.t rfl) rfl (.sl (.t rfl) (by intro e he; rw [List.mem_singleton.1 he]; rfl)) Try.underlying27 ni27 ty51 rfl rfl (by simp only [List.length_map, List.length_cons, List.length_nil]; omega) rfl ?_ | refine W.app 3 (.t rfl) rfl (.sl (.t rfl) (by intro e he; rw [List.mem_singleton.1 he]; rfl)) Try.underlying27 ni27 ty51 rfl rfl (by simp only [List.length_map, List.length_cons, List.length_nil]; omega) rfl ?_ | refine W.app 0 (.t rfl) rfl (.arr 0 (.t rfl) rfl (by intro e he; rw [List.mem_singleton.1 he]; rfl)) Try.underlying27 ni27 ty51 rfl rfl (by simp only [List.length_map, List.length_cons, List.length_nil]; omega) rfl ?_ | refine W.app 0 (.t rfl) rfl (.arr 1 (.t rfl) rfl (by intro e he; rw [List.mem_singleton.1 he]; rfl)) Try.underlying27 ni27 ty51 rfl rfl (by simp only [List.length_map, List.length_cons, List.length_nil]; omega) rfl ?_ | refine W.app 0 (.t rfl) rfl (.arr 2 (.t rfl) rfl (by intro e he; rw [List.mem_singleton.1 he]; rfl)) Try.underlying27 ni27 ty51 rfl rfl (by simp only [List.length_map, List.length_cons, List.length_nil]; omega) rfl ?_ | refine W.app 0 (.t rfl) rfl (.arr 3 (.t rfl) rfl (by intro e he; rw [List.mem_singleton.1 he]; rfl)) Try.underlying27 ni27 ty51 rfl rfl (by simp only [List.length_map, List.length_cons, List.length_nil]; omega) rfl ?_ | refine W.app 1 (.t rfl) rfl (.arr 0 (.t rfl) rfl (by intro e he; rw [List.mem_singleton.1 he]; rfl)) Try.underlying27 ni27 ty51 rfl rfl (by simp only [List.length_map, List.length_cons, List.length_nil]; omega) rfl ?_ | refine W.app 1 (.t rfl) rfl (.arr 1 (.t rfl) rfl (by intro e he; rw [List.mem_singleton.1 he]; rfl)) Try.underlying27 ni27 ty51 rfl rfl (by simp only [List.length_map, List.length_cons, List.length_nil]; omega) rfl ?_ | refine W.app 1 (.t rfl) rfl (.arr 2 (.t rfl) rfl (by intro e he; rw [List.mem_singleton.1 he]; rfl)) Try.underlying27 ni27 ty51 rfl rfl (by simp only [List.length_map, List.length_cons, List.length_nil]; omega) rfl ?_ | refine W.app 1 (.t rfl) rfl (.arr 3 (.t rfl) rfl (by intro e he; rw [List.mem_singleton.1 he]; rfl)) Try.underlying27 ni27 ty51 rfl rfl (by simp only [List.length_map, List.length_cons, List.length_nil]; omega) rfl ?_ | refine W.app 2 (.t rfl) rfl (.arr 0 (.t rfl) rfl (by intro e he; rw [List.mem_singleton.1 he]; rfl)) Try.underlying27 ni27 ty51 rfl rfl (by simp only [List.length_map, List.length_cons, List.length_nil]; omega) rfl ?_ | refine W.app 2 (.t rfl) rfl (.arr 1 (.t rfl) rfl (by intro e he; rw [List.mem_singleton.1 he]; rfl)) Try.underlying27 ni27 ty51 rfl rfl (by simp only [List.length_map, List.length_cons, List.length_nil]; omega) rfl ?_ | refine W.app 2 (.t rfl) rfl (.arr 2 (.t rfl) rfl (by intro e he; rw [List.mem_singleton.1 he]; rfl)) Try.underlying27 ni27 ty51 rfl rfl (by simp only [List.length_map, List.length_cons, List.length_nil]; omega) rfl ?_ | refine W.app 2 (.t rfl) rfl (.arr 3 (.t rfl) rfl (by intro e he; rw [List.mem_singleton.1 he]; rfl)) Try.underlying27 ni27 ty51 rfl rfl (by simp only [List.length_map, List.length_cons, List.length_nil]; omega) rfl ?_ | refine W.app 3 (.t rfl) rfl (.arr 0 (.t rfl) rfl (by intro e he; rw [List.mem_singleton.1 he]; rfl)) Try.underlying27 ni27 ty51 rfl rfl (by simp only [List.length_map, List.length_cons, List.length_nil]; omega) rfl ?_ | refine W.app 3 (.t rfl) rfl (.arr 1 (.t rfl) rfl (by intro e he; rw [List.mem_singleton.1 he]; rfl)) Try.underlying27 ni27 ty51 rfl rfl (by simp only [List.length_map, List.length_cons, List.length_nil]; omega) rfl ?_ | refine W.app 3 (.t rfl) rfl (.arr 2 (.t rfl) rfl (by intro e he; rw [List.mem_singleton.1 he]; rfl)) Try.underlying27 ni27 ty51 rfl rfl (by simp only [List.length_map, List.length_cons, List.length_nil]; omega) rfl ?_ | refine W.app 3 (.t rfl) rfl (.arr 3 (.t rfl) rfl (by intro e he; rw [List.mem_singleton.1 he]; rfl)) Try.underlying27 ni27 ty51 rfl rfl (by simp only [List.length_map, List.length_cons, List.length_nil]; omega) rfl ?_
    intro v96
    refine W.q (Ev.assign (.t rfl)) rfl ?_
    refine W.nil ?_
    refine W.then ?_
    refine W.region ?_
    refine W.q (Ev.move (.t rfl)) rfl ?_
    refine W.q (Ev.assign (.t rfl)) rfl ?_
    refine W.nil ?_
    refine W.blk_normal ?_
    refine W.then ?_
    refine W.region ?_
    refine W.q (Ev.move (.t rfl)) rfl ?_
    first | refine W.q (Ev.add (.t rfl) .k (fun _ => by omega)) rfl ?_ | refine W.q (Ev.addw (.t rfl) .k) rfl ?_
    refine W.q (Ev.assign (.t rfl)) rfl ?_
    refine W.nil ?_
    refine W.then ?_
    refine W.is (t := 10) (g := true) (av' := .sl 4 ((Ch.run l (cs ++ [(Ch.mk (1 + t.kind % 3) p Nd.dflt)])).map Nd.av)) rfl (congrArg (fun q => AV.sl 4 (q.map Nd.av)) (show Ch.run X [(Ch.mk (1 + t.kind % 3) p Nd.dflt)] = Ch.run l (cs ++ [(Ch.mk (1 + t.kind % 3) p Nd.dflt)]) from by rw [Ch.run_append, hXe])) ?_
    refine W.reach (D := [_]) (i + 1, v96, cs ++ [(Ch.mk (1 + t.kind % 3) p Nd.dflt)]) ⟨rfl, rfl, rfl, rfl, rfl, trivial⟩ (by rw [List.map_append]; exact List.Perm.swap _ _ []) ⟨⟨by show i + 1 ≤ _; omega, by show i + 1 ≤ 10; omega, by show (cs ++ [_]).length = i + 1; rw [List.length_append, hcl]; rfl, (Ch.oks_append cs _ l).2 ⟨hok, by rw [hXe]; exact hoks1⟩, ?_⟩, by show _ - (i + 1) < _; omega⟩
    show Nd.szs (Ch.run l (cs ++ [_])) ≤ _
    rw [Ch.run_append, hXe]
    exact hszc
  · skip
    refine W.seq ?_
    refine W.seq ?_
    refine W.region ?_
    refine W.q (Ev.move (.t rfl)) rfl ?_
    refine W.q (Ev.move (.t rfl)) rfl ?_
    first | refine W.q (Ev.lensl (.t rfl) Try.underlying23) rfl ?_ | refine W.q (Ev.lenar (i := 0) (.t rfl) rfl Try.underlying23) rfl ?_ | refine W.q (Ev.lenar (i := 1) (.t rfl) rfl Try.underlying23) rfl ?_ | refine W.q (Ev.lenar (i := 2) (.t rfl) rfl Try.underlying23) rfl ?_ | refine W.q (Ev.lenar (i := 3) (.t rfl) rfl Try.underlying23) rfl ?_
    refine W.q (Ev.lti (.t rfl) (.t rfl)) rfl ?_
    refine W.q (Ev.move (.t rfl)) rfl ?_
    refine W.qgT rfl rfl (Ev.move (.t rfl)) rfl ?_
    refine W.qgT rfl rfl (Ev.move (.t rfl)) rfl ?_
    refine W.qgT rfl rfl (Ev.lti (.c rfl) (.c rfl)) rfl ?_
    refine W.q (Ev.and (.t rfl) ⟨_, _, rfl, rfl, by first | (simp; done) | (intro hg_ hp_; simp [hp_]; done) | (simp <;> omega; done) | (simp_all; done) | grind⟩) rfl ?_
    refine W.nil ?_
    refine W.then ?_
    refine W.is (t := 29) (g := true) (av' := .lit (.bool false)) rfl (congrArg (fun b => AV.lit (.bool b)) (by simp; omega)) ?_
    refine W.condF (.t rfl) ?_
    refine W.exit ?_
    refine W.then_exit ?_
    refine W.then_exit ?_
    refine W.blk_hit ?_
    refine W.then ?_
    refine W.seq ?_
    refine W.region ?_
    have hPlay0 := WPlayC.c_PlayC [] [(Ch.mk 1 [0] (Nd.mk [98] [] [] []))] (by simp) ⟨⟨by simp [Nd.szs], trivial, by decide, (Nd.wf_eq _).2 ⟨fun _ => rfl, trivial⟩, by decide, .inl ⟨rfl, 0, rfl, .inl ⟨rfl, Nat.le_refl _⟩⟩⟩, by decide, (Nd.wf_eq _).2 ⟨fun _ => rfl, trivial⟩, trivial⟩
    rw [show Ch.run [] [(Ch.mk 1 [0] (Nd.mk [98] [] [] []))] = [Nd.mk [98] [] [] []] from rfl] at hPlay0
    have hg1 : ([Nd.mk [98] [] [] []].map Nd.av)[0]? = some (Nd.avx (Nd.mk [98] [] [] [])) := rfl
    refine W.bs (es := [_]) Try.underlying22 ty3 ⟨rfl, .k, rfl, rfl, trivial⟩ rfl (by decide) rfl rfl ?_
    refine W.q (Ev.build ty42 st42 rfl (fun hg => ⟨_, _, _, rfl, .k, rfl, rfl, rfl, rfl⟩)) rfl ?_
    refine W.q (Ev.build ty51 st51 rfl (fun hg => ⟨_, _, _, rfl, .k, rfl, rfl, rfl, _, _, _, rfl, (.t rfl), rfl, rfl, rfl, _, _, _, rfl, (.t rfl), rfl, rfl, rfl, rfl⟩)) rfl ?_
    refine W.nils (t := 101) (g := true) (cs' := [.int (Ch.mk 1 [0] (Nd.mk [98] [] [] [])).kind, .sl 1 ((Ch.mk 1 [0] (Nd.mk [98] [] [] [])).path.map AV.int), .str (Ch.mk 1 [0] (Nd.mk [98] [] [] [])).node.name, .sl 2 ((Ch.mk 1 [0] (Nd.mk [98] [] [] [])).node.attrs.map dav), .str (Ch.mk 1 [0] (Nd.mk [98] [] [] [])).node.text, .sl 4 ((Ch.mk 1 [0] (Nd.mk [98] [] [] [])).node.parts.map Nd.av)]) rfl ⟨.inl rfl, .inl rfl, .inl rfl, .inr ⟨rfl, 2, rfl⟩, .inl rfl, .inr ⟨rfl, 4, rfl⟩, trivial⟩ ?_
    refine W.bs (es := [_]) Try.underlying27 ty51 ⟨rfl, (.t rfl), rfl, rfl, trivial⟩ rfl (by decide) rfl rfl ?_
    refine W.callp (hPlay0) ⟨(by first | exact .k | exact .kn), (.t rfl), trivial⟩ rfl ?_
    refine W.q (Ev.move (.t rfl)) rfl ?_
    refine W.q (Ev.extract (.t rfl) rfl) rfl ?_
    refine W.q (Ev.extract (.t rfl) rfl) rfl ?_
    refine W.q (Ev.assign (.t rfl)) rfl ?_
    refine W.q (Ev.assign (.t rfl)) rfl ?_
    refine W.nil ?_
    refine W.then ?_
    refine W.seq ?_
    refine W.drawnE (ι := Unit) (fun _ _ => _) 19 () (by kernel_rfl) (by kernel_rfl) rfl ?_
    refine DE.q (fun e c hk => (Ev.move (.t rfl))) rfl (fun _ _ => rfl) (by first | exact .inr (fun _ _ => rfl) | exact .inl (by kernel_rfl)) ?_
    refine DE.q (fun e c hk => (Ev.move (.t rfl))) rfl (fun _ _ => rfl) (by first | exact .inr (fun _ _ => rfl) | exact .inl (by kernel_rfl)) ?_
    refine DE.q (fun e c hk => (Ev.move (.t rfl))) rfl (fun _ _ => rfl) (by first | exact .inr (fun _ _ => rfl) | exact .inl (by kernel_rfl)) ?_
    refine DE.q (fun e c hk => (Ev.eqi (.t rfl) .k)) rfl (fun _ _ => rfl) (by first | exact .inr (fun _ _ => rfl) | exact .inl (by kernel_rfl)) ?_
    refine DE.q (fun e c hk => (Ev.move (.t rfl))) rfl (fun _ _ => rfl) (by first | exact .inr (fun _ _ => rfl) | exact .inl (by kernel_rfl)) ?_
    refine DE.qg rfl (fun _ => rfl) (fun e c hk => (Ev.move (.t rfl))) rfl (fun _ _ => rfl) (by first | exact .inr (fun _ _ => rfl) | exact .inl (by kernel_rfl)) ?_
    first | refine DE.qg rfl (fun _ => rfl) (fun e c hk => (Ev.lensl (.c rfl) Try.underlying24)) rfl (fun _ _ => rfl) (by first | exact .inr (fun _ _ => rfl) | exact .inl (by kernel_rfl)) ?_ | refine DE.qg rfl (fun _ => rfl) (fun e c hk => (Ev.lenar (i := 0) (.c rfl) rfl Try.underlying24)) rfl (fun _ _ => rfl) (by first | exact .inr (fun _ _ => rfl) | exact .inl (by kernel_rfl)) ?_ | refine DE.qg rfl (fun _ => rfl) (fun e c hk => (Ev.lenar (i := 1) (.c rfl) rfl Try.underlying24)) rfl (fun _ _ => rfl) (by first | exact .inr (fun _ _ => rfl) | exact .inl (by kernel_rfl)) ?_ | refine DE.qg rfl (fun _ => rfl) (fun e c hk => (Ev.lenar (i := 2) (.c rfl) rfl Try.underlying24)) rfl (fun _ _ => rfl) (by first | exact .inr (fun _ _ => rfl) | exact .inl (by kernel_rfl)) ?_ | refine DE.qg rfl (fun _ => rfl) (fun e c hk => (Ev.lenar (i := 3) (.c rfl) rfl Try.underlying24)) rfl (fun _ _ => rfl) (by first | exact .inr (fun _ _ => rfl) | exact .inl (by kernel_rfl)) ?_
    refine DE.qg rfl (fun _ => rfl) (fun e c hk => (Ev.eqi (.c rfl) .k)) rfl (fun _ _ => rfl) (by first | exact .inr (fun _ _ => rfl) | exact .inl (by kernel_rfl)) ?_
    refine DE.q (fun e c hk => (Ev.and (.t rfl) ⟨_, _, rfl, rfl, by first | (simp; done) | (intro hg_ hp_; simp [hp_]; done) | (simp <;> omega; done) | (simp_all; done) | grind⟩)) rfl (fun _ _ => rfl) (by first | exact .inr (fun _ _ => rfl) | exact .inl (by kernel_rfl)) ?_
    refine DE.q (fun e c hk => (Ev.move (.t rfl))) rfl (fun _ _ => rfl) (by first | exact .inr (fun _ _ => rfl) | exact .inl (by kernel_rfl)) ?_
    refine DE.qg rfl (fun _ => rfl) (fun e c hk => (Ev.move (.t rfl))) rfl (fun _ _ => rfl) (by first | exact .inr (fun _ _ => rfl) | exact .inl (by kernel_rfl)) ?_
    refine DE.qg rfl (fun _ => rfl) (fun e c hk => Ev.at (E := 42) (.c rfl) .k Try.underlying24 ty42 (fun _ => ⟨by decide, hg1⟩) rfl rfl) rfl (fun _ _ => rfl) (by first | exact .inr (fun _ _ => rfl) | exact .inl (by kernel_rfl)) ?_
    first | refine DE.qg rfl (fun _ => rfl) (fun e c hk => (Ev.fae (.c rfl) fa42_0 rfl)) rfl (fun _ _ => rfl) (by first | exact .inr (fun _ _ => rfl) | exact .inl (by kernel_rfl)) ?_ | refine DE.qg rfl (fun _ => rfl) (fun e c hk => (Ev.fab (.c rfl) fa42_0)) rfl (fun _ _ => rfl) (by first | exact .inr (fun _ _ => rfl) | exact .inl (by kernel_rfl)) ?_ | refine DE.qg rfl (fun _ => rfl) (fun e c hk => (Ev.faa (.c rfl) fa42_0)) rfl (fun _ _ => rfl) (by first | exact .inr (fun _ _ => rfl) | exact .inl (by kernel_rfl)) ?_
    first | refine DE.qg rfl (fun _ => rfl) (fun e c hk => (Ev.lde1 (.c rfl) ag9)) rfl (fun _ _ => rfl) (by first | exact .inr (fun _ _ => rfl) | exact .inl (by kernel_rfl)) ?_ | refine DE.qg rfl (fun _ => rfl) (fun e c hk => (Ev.ldb1 0 (.c rfl) rfl ag9 rfl)) rfl (fun _ _ => rfl) (by first | exact .inr (fun _ _ => rfl) | exact .inl (by kernel_rfl)) ?_ | refine DE.qg rfl (fun _ => rfl) (fun e c hk => (Ev.ldb1 1 (.c rfl) rfl ag9 rfl)) rfl (fun _ _ => rfl) (by first | exact .inr (fun _ _ => rfl) | exact .inl (by kernel_rfl)) ?_ | refine DE.qg rfl (fun _ => rfl) (fun e c hk => (Ev.ldb1 2 (.c rfl) rfl ag9 rfl)) rfl (fun _ _ => rfl) (by first | exact .inr (fun _ _ => rfl) | exact .inl (by kernel_rfl)) ?_ | refine DE.qg rfl (fun _ => rfl) (fun e c hk => (Ev.ldb1 3 (.c rfl) rfl ag9 rfl)) rfl (fun _ _ => rfl) (by first | exact .inr (fun _ _ => rfl) | exact .inl (by kernel_rfl)) ?_
    refine DE.qg rfl (fun _ => rfl) (fun e c hk => (Ev.eqs (.c rfl) .k)) rfl (fun _ _ => rfl) (by first | exact .inr (fun _ _ => rfl) | exact .inl (by kernel_rfl)) ?_
    refine DE.q (fun e c hk => (Ev.and (.t rfl) ⟨_, _, rfl, rfl, by first | (simp; done) | (intro hg_ hp_; simp [hp_]; done) | (simp <;> omega; done) | (simp_all; done) | grind⟩)) rfl (fun _ _ => rfl) (by first | exact .inr (fun _ _ => rfl) | exact .inl (by kernel_rfl)) ?_
    refine DE.q (fun e c hk => (Ev.assign (.t rfl))) rfl (fun _ _ => rfl) (by first | exact .inr (fun _ _ => rfl) | exact .inl (by kernel_rfl)) ?_
    refine DE.q (fun e c hk => (Ev.assign (.t rfl))) rfl (fun _ _ => rfl) (by first | exact .inr (fun _ _ => rfl) | exact .inl (by kernel_rfl)) ?_
    refine DE.q (fun e c hk => (Ev.assign (.t rfl))) rfl (fun _ _ => rfl) (by first | exact .inr (fun _ _ => rfl) | exact .inl (by kernel_rfl)) ?_
    refine DE.nil (fun c_ e_ he_ => ?_)
    dsimp only
    refine W.then ?_
    refine W.ret ?_
    refine W.retn (M' := [.arr v 51 6 (cs.map cav)]) (D := []) (rs := [.tmp 6, .tmp 7, .tmp 8]) (avs := [_, _, _]) Try.results6 ⟨rfl, rfl, rfl, trivial⟩ rfl (.refl _) ?_
    exact ⟨cs, v, rfl, rfl, by omega, hok⟩

end WChanges

end Go.Proofs.Ytpjngpegkoohgaa
