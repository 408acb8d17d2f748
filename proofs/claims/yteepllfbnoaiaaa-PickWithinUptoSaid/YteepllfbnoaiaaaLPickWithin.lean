/-
  The law PickWithin, walked.
-/
import Derived.Test.YteepllfbnoaiaaaWNodes
import Derived.Test.YteepllfbnoaiaaaWPicks
import Derived.Test.YteepllfbnoaiaaaWCountN
set_option linter.unusedVariables false
set_option linter.unusedSimpArgs false
set_option maxRecDepth 100000
namespace Go.Proofs.Yteepllfbnoaiaaa
open Go.Vl

namespace LPickWithin
theorem ty3 : Ty Try.prog 3 1 8 (.int .i64 0) := Ty.of (by kernel_rfl)
theorem ty4 : Ty Try.prog 4 1 1 (.bool false) := Ty.of (by kernel_rfl)
theorem ty22 : Ty Try.prog 22 1 24 (.slice none 0 0) := Ty.of (by kernel_rfl)
theorem ty32 : Ty Try.prog 32 3 40 (.agg #[.string ⟨#[]⟩, .string ⟨#[]⟩, .bool false]) := Ty.of (by kernel_rfl)
theorem ag4 : IsAgg Try.prog 4 false := ⟨_, Try.underlying4, rfl⟩
theorem ag22 : IsAgg Try.prog 22 false := ⟨_, Try.underlying22, rfl⟩
theorem ag32 : IsAgg Try.prog 32 true := ⟨_, Try.underlying32, rfl⟩
theorem fa32_2 : FieldAt Try.prog 32 2 2 1 false := ⟨_, _, Try.underlying32, rfl, rfl, ty4.size, ag4, by decide⟩
theorem c_PickWithin (l : List Int) (x1 x2 : Int) (hl : l.length ≤ 1048576) : FnP Try.prog 6 [.sl 1 (l.map AV.int), .int x1, .int x2] (.bool true) :=  by
  refine FnC.mk Try.func6 (by kernel_rfl) rfl Try.ntmps6 rfl (fun w0 F => ?_)
  refine W.seq ?_
  refine W.region ?_
  refine W.q (Ev.assign .k) rfl ?_
  refine W.nil ?_
  refine W.then ?_
  refine W.seq ?_
  refine W.region ?_
  refine W.q (Ev.move (.t rfl)) rfl ?_
  refine W.call (WNodes.c_Nodes l hl 5 6 (by decide) (by decide) (by decide)) ⟨(.t rfl), .k, .k, trivial⟩ (.refl _) rfl ?_
  rintro _ _ ⟨v23, ns, rest, rfl, rfl, hn1, hn2, hn3⟩
  have hns := Nd.szs_len ns
  refine W.q (Ev.move (.t rfl)) rfl ?_
  refine W.q (Ev.extract (.t rfl) rfl) rfl ?_
  refine W.q (Ev.extract (.t rfl) rfl) rfl ?_
  refine W.q (Ev.assign (.t rfl)) rfl ?_
  refine W.q (Ev.assign (.t rfl)) rfl ?_
  refine W.nil ?_
  refine W.freezeA (M1 := []) (M2 := []) (D := []) (v := v23) (L' := [(7, true, .sl 4 (ns.map Nd.av))]) (.refl _) ⟨⟨_, rfl, .one .hit⟩, trivial⟩ (FrzMs.refl _) ?_
  refine W.then ?_
  refine W.seq ?_
  refine W.region ?_
  refine W.q (Ev.move (.t rfl)) rfl ?_
  refine W.bs (es := [_]) Try.underlying22 ty3 ⟨rfl, (.t rfl), rfl, rfl, trivial⟩ rfl (by decide) rfl rfl ?_
  refine W.call (WPicks.c_Picks [x1] (by simp) 1 (by decide) (by decide)) ⟨(.t rfl), .k, trivial⟩ (.refl _) rfl ?_
  rintro _ _ ⟨v28, psp, rfl, rfl, hp0p, hp1p, hpkp⟩
  have hplenp : (psp.map kav).length = psp.length := List.length_map ..
  have hgp := getD_mapG kav Pk.dfl psp 0 hp0p
  have hkp := hpkp _ (getD_memG Pk.dfl psp 0 hp0p)
  generalize psp.getD 0 Pk.dfl = p at hgp hkp
  refine W.q (Ev.ata 0 (.t rfl) rfl .k Try.underlying23 ty32 (fun _ => by omega)) rfl ?_
  refine W.q (Ev.ldan 0 0 (e := kav p) (.t rfl) rfl hgp (by decide) rfl ag32 ty32) rfl ?_
  refine W.alloc ty32 rfl rfl ?_
  intro b9
  first | refine W.stb 0 (.t rfl) (.t rfl) rfl ty32 rfl rfl rfl ?_ | refine W.stb 1 (.t rfl) (.t rfl) rfl ty32 rfl rfl rfl ?_ | refine W.stb 2 (.t rfl) (.t rfl) rfl ty32 rfl rfl rfl ?_ | refine W.stb 3 (.t rfl) (.t rfl) rfl ty32 rfl rfl rfl ?_
  refine W.nil ?_
  refine W.then ?_
  refine W.seq ?_
  refine W.region ?_
  refine W.q (Ev.move (.t rfl)) rfl ?_
  refine W.bs (es := [_]) Try.underlying22 ty3 ⟨rfl, (.t rfl), rfl, rfl, trivial⟩ rfl (by decide) rfl rfl ?_
  refine W.call (WPicks.c_Picks [x2] (by simp) 1 (by decide) (by decide)) ⟨(.t rfl), .k, trivial⟩ (.refl _) rfl ?_
  rintro _ _ ⟨v33, psq, rfl, rfl, hp0q, hp1q, hpkq⟩
  have hplenq : (psq.map kav).length = psq.length := List.length_map ..
  have hgq := getD_mapG kav Pk.dfl psq 0 hp0q
  have hkq := hpkq _ (getD_memG Pk.dfl psq 0 hp0q)
  generalize psq.getD 0 Pk.dfl = q at hgq hkq
  refine W.q (Ev.ata 0 (.t rfl) rfl .k Try.underlying23 ty32 (fun _ => by omega)) rfl ?_
  refine W.q (Ev.ldan 0 0 (e := kav q) (.t rfl) rfl hgq (by decide) rfl ag32 ty32) rfl ?_
  refine W.alloc ty32 rfl rfl ?_
  intro b10
  first | refine W.stb 0 (.t rfl) (.t rfl) rfl ty32 rfl rfl rfl ?_ | refine W.stb 1 (.t rfl) (.t rfl) rfl ty32 rfl rfl rfl ?_ | refine W.stb 2 (.t rfl) (.t rfl) rfl ty32 rfl rfl rfl ?_ | refine W.stb 3 (.t rfl) (.t rfl) rfl ty32 rfl rfl rfl ?_
  refine W.nil ?_
  refine W.then ?_
  refine W.seq ?_
  refine W.region ?_
  first | refine W.q (Ev.lden (.t rfl) ag32 ty32 rfl rfl) rfl ?_ | refine W.q (Ev.ldbn 0 (.t rfl) rfl ag32 ty32 rfl) rfl ?_ | refine W.q (Ev.ldbn 1 (.t rfl) rfl ag32 ty32 rfl) rfl ?_ | refine W.q (Ev.ldbn 2 (.t rfl) rfl ag32 ty32 rfl) rfl ?_ | refine W.q (Ev.ldbn 3 (.t rfl) rfl ag32 ty32 rfl) rfl ?_
  refine W.bs (es := [_]) Try.underlying23 ty32 ⟨rfl, (.t rfl), rfl, rfl, trivial⟩ rfl (by decide) rfl rfl ?_
  refine W.q (Ev.move (.t rfl)) rfl ?_
  refine W.callp (WPicks.c_paths [p] (by simp) (by simp) (fun r hr => by rw [List.mem_singleton.1 hr]; exact hkp) ns (by omega)) ⟨(.t rfl), (.t rfl), trivial⟩ rfl ?_
  refine W.q (Ev.move (.t rfl)) rfl ?_
  refine W.q (Ev.extract (.t rfl) rfl) rfl ?_
  refine W.q (Ev.extract (.t rfl) rfl) rfl ?_
  refine W.q (Ev.assign (.t rfl)) rfl ?_
  refine W.q (Ev.assign (.t rfl)) rfl ?_
  refine W.nil ?_
  refine W.then ?_
  refine W.seq ?_
  refine W.region ?_
  first | refine W.q (Ev.lden (.t rfl) ag32 ty32 rfl rfl) rfl ?_ | refine W.q (Ev.ldbn 0 (.t rfl) rfl ag32 ty32 rfl) rfl ?_ | refine W.q (Ev.ldbn 1 (.t rfl) rfl ag32 ty32 rfl) rfl ?_ | refine W.q (Ev.ldbn 2 (.t rfl) rfl ag32 ty32 rfl) rfl ?_ | refine W.q (Ev.ldbn 3 (.t rfl) rfl ag32 ty32 rfl) rfl ?_
  refine W.bs (es := [_]) Try.underlying23 ty32 ⟨rfl, (.t rfl), rfl, rfl, trivial⟩ rfl (by decide) rfl rfl ?_
  refine W.q (Ev.move (.t rfl)) rfl ?_
  refine W.callp (WPicks.c_paths [q] (by simp) (by simp) (fun r hr => by rw [List.mem_singleton.1 hr]; exact hkq) ns (by omega)) ⟨(.t rfl), (.t rfl), trivial⟩ rfl ?_
  refine W.q (Ev.move (.t rfl)) rfl ?_
  refine W.q (Ev.extract (.t rfl) rfl) rfl ?_
  refine W.q (Ev.extract (.t rfl) rfl) rfl ?_
  refine W.q (Ev.assign (.t rfl)) rfl ?_
  refine W.q (Ev.assign (.t rfl)) rfl ?_
  refine W.nil ?_
  refine W.then ?_
  refine W.seq ?_
  refine W.region ?_
  first | refine W.q (Ev.fae (.t rfl) fa32_2 rfl) rfl ?_ | refine W.q (Ev.fab (.t rfl) fa32_2) rfl ?_ | refine W.q (Ev.faa (.t rfl) fa32_2) rfl ?_
  first | refine W.stb 0 (.t rfl) .k rfl ty4 rfl rfl rfl ?_ | refine W.stb 1 (.t rfl) .k rfl ty4 rfl rfl rfl ?_ | refine W.stb 2 (.t rfl) .k rfl ty4 rfl rfl rfl ?_ | refine W.stb 3 (.t rfl) .k rfl ty4 rfl rfl rfl ?_
  refine W.nil ?_
  refine W.then ?_
  refine W.seq ?_
  refine W.region ?_
  first | refine W.q (Ev.lden (.t rfl) ag32 ty32 rfl rfl) rfl ?_ | refine W.q (Ev.ldbn 0 (.t rfl) rfl ag32 ty32 rfl) rfl ?_ | refine W.q (Ev.ldbn 1 (.t rfl) rfl ag32 ty32 rfl) rfl ?_ | refine W.q (Ev.ldbn 2 (.t rfl) rfl ag32 ty32 rfl) rfl ?_ | refine W.q (Ev.ldbn 3 (.t rfl) rfl ag32 ty32 rfl) rfl ?_
  first | refine W.q (Ev.lden (.t rfl) ag32 ty32 rfl rfl) rfl ?_ | refine W.q (Ev.ldbn 0 (.t rfl) rfl ag32 ty32 rfl) rfl ?_ | refine W.q (Ev.ldbn 1 (.t rfl) rfl ag32 ty32 rfl) rfl ?_ | refine W.q (Ev.ldbn 2 (.t rfl) rfl ag32 ty32 rfl) rfl ?_ | refine W.q (Ev.ldbn 3 (.t rfl) rfl ag32 ty32 rfl) rfl ?_
  refine W.bs (es := [_, _]) Try.underlying23 ty32 ⟨rfl, (.t rfl), rfl, rfl, rfl, (.t rfl), rfl, rfl, trivial⟩ rfl (by decide) rfl rfl ?_
  refine W.q (Ev.move (.t rfl)) rfl ?_
  refine W.callp (WPicks.c_paths [p, Pk.dp q] (by simp) (by simp) (fun r hr => by simp only [List.mem_cons, List.not_mem_nil, or_false] at hr; rcases hr with rfl | rfl; exact hkp; exact Pk.ok_dp _ hkq) ns (by omega)) ⟨(.t rfl), (.t rfl), trivial⟩ rfl ?_
  refine W.q (Ev.move (.t rfl)) rfl ?_
  refine W.q (Ev.extract (.t rfl) rfl) rfl ?_
  refine W.q (Ev.extract (.t rfl) rfl) rfl ?_
  refine W.q (Ev.assign (.t rfl)) rfl ?_
  refine W.q (Ev.assign (.t rfl)) rfl ?_
  refine W.nil ?_
  have hW := Pk.fnds_within p (Pk.dp q) rfl ns 0 [] (fun _ => false) (fun _ => false) (fun _ => false) (fun _ => false) (fun _ => false) (fun _ => false)
  skip
  have hXd := Pk.fnds_deepL [p] ns (fun _ => false) (fun _ => false)
  have hXl := Pk.fnds_len [p] ns 0 [] (fun _ => false) (fun _ => false)
  have hYd := Pk.fnds_deepL [q] ns (fun _ => false) (fun _ => false)
  have hYl := Pk.fnds_len [q] ns 0 [] (fun _ => false) (fun _ => false)
  have hZd := Pk.fnds_deepL [p, Pk.dp q] ns (fun _ => false) (fun _ => false)
  have hZl := Pk.fnds_len [p, Pk.dp q] ns 0 [] (fun _ => false) (fun _ => false)
  rw [Pk.fnds_same q ns] at hW
  generalize Pk.fnds [p, Pk.dp q] 0 ns [] (fun _ => false) (fun _ => false) = Z at *
  have hZm : (Z.map pav).length = Z.length := List.length_map ..
  generalize Pk.fnds [q] 0 ns [] (fun _ => false) (fun _ => false) = Y at *
  have hYm : (Y.map pav).length = Y.length := List.length_map ..
  generalize Pk.fnds [p] 0 ns [] (fun _ => false) (fun _ => false) = X at *
  have hXm : (X.map pav).length = X.length := List.length_map ..
  simp only [Bool.false_or] at hW
  have hWi : ∀ a : List Int, a ∈ Y → decide (a ∈ Z) = X.any (fun x => Pk.around x a) := by
    intro a ha
    rw [hW, Bool.eq_iff_iff, decide_eq_true_eq, List.mem_filter]
    exact ⟨fun h => h.2, fun h => ⟨ha, h⟩⟩
  refine W.then ?_
  refine W.seq ?_
  refine W.seq ?_
  refine W.region ?_
  refine W.q (Ev.move (.t rfl)) rfl ?_
  refine W.q (Ev.not (.t rfl)) rfl ?_
  refine W.q (Ev.move (.t rfl)) rfl ?_
  refine W.gyes rfl rfl ?_
  refine W.q (Ev.move (.t rfl)) rfl ?_
  refine W.gyes rfl rfl ?_
  refine W.q (Ev.not (.t rfl)) rfl ?_
  refine W.q (Ev.or (.t rfl) ⟨_, _, rfl, rfl, by first | (simp; done) | (intro hg_ hp_; simp [hp_]; done) | (simp <;> omega; done) | (simp_all; done) | grind⟩) rfl ?_
  refine W.q (Ev.move (.t rfl)) rfl ?_
  refine W.gyes rfl rfl ?_
  refine W.q (Ev.move (.t rfl)) rfl ?_
  refine W.gyes rfl rfl ?_
  refine W.q (Ev.not (.t rfl)) rfl ?_
  refine W.q (Ev.or (.t rfl) ⟨_, _, rfl, rfl, by first | (simp; done) | (intro hg_ hp_; simp [hp_]; done) | (simp <;> omega; done) | (simp_all; done) | grind⟩) rfl ?_
  refine W.nil ?_
  refine W.then ?_
  refine W.is (t := 68) (g := true) (av' := .lit (.bool false)) rfl (congrArg (fun b => AV.lit (.bool b)) (by rfl)) ?_
  refine W.condF (.t rfl) ?_
  refine W.skip ?_
  refine W.then ?_
  refine W.seq ?_
  refine W.region ?_
  refine W.q (Ev.assign .k) rfl ?_
  refine W.nil ?_
  refine W.then ?_
  refine W.seq ?_
  refine W.seq ?_
  refine W.region ?_
  refine W.q (Ev.assign .k) rfl ?_
  refine W.nil ?_
  refine W.then ?_
  refine W.block ?_
  refine W.loop (D := _) (ι := Nat) (fun i => [(18, true, .int (i : Int)), (17, true, .int ((Y.take i).countP (fun a => X.any fun x => Pk.around x a) : Int)), (13, true, .sl 1 (Y.map pav)), (11, true, .sl 1 (X.map pav)), (15, true, .sl 1 (Z.map pav))]) (fun _ => []) (fun i => i ≤ Y.length) (fun i => Y.length - i) 0 ⟨rfl, rfl, rfl, rfl, rfl, trivial⟩ (.refl _) (Nat.zero_le _) ?_
  intro i hi
  dsimp only at hi ⊢
  rcases (show i < Y.length ∨ i = Y.length from by omega) with hlt | hend
  · have hga := getD_mapG pav [] Y i hlt
    have ham := getD_memG [] Y i hlt
    have htk := take_getDG [] Y i hlt
    generalize Y.getD i [] = a at hga ham htk
    have hal := hYd a ham
    have hct : (Y.take (i + 1)).countP (fun a => X.any fun x => Pk.around x a) = (Y.take i).countP (fun a => X.any fun x => Pk.around x a) + (if (X.any fun x => Pk.around x a) = true then 1 else 0) := by rw [htk, List.countP_append, List.countP_singleton]
    have hcl : (Y.take i).countP (fun a => X.any fun x => Pk.around x a) ≤ Y.length := Nat.le_trans List.countP_le_length (by rw [List.length_take]; omega)
    refine W.seq ?_
    refine W.seq ?_
    refine W.region ?_
    refine W.q (Ev.move (.t rfl)) rfl ?_
    refine W.q (Ev.move (.t rfl)) rfl ?_
    first | refine W.q (Ev.lensl (.t rfl) Try.underlying28) rfl ?_ | refine W.q (Ev.lenar (i := 0) (.t rfl) rfl Try.underlying28) rfl ?_ | refine W.q (Ev.lenar (i := 1) (.t rfl) rfl Try.underlying28) rfl ?_ | refine W.q (Ev.lenar (i := 2) (.t rfl) rfl Try.underlying28) rfl ?_ | refine W.q (Ev.lenar (i := 3) (.t rfl) rfl Try.underlying28) rfl ?_
    refine W.q (Ev.lti (.t rfl) (.t rfl)) rfl ?_
    refine W.nil ?_
    refine W.then ?_
    refine W.is (t := 72) (g := true) (av' := .lit (.bool true)) rfl (congrArg (fun b => AV.lit (.bool b)) (by simp; omega)) ?_
    refine W.condT (.t rfl) ?_
    refine W.skip ?_
    refine W.then ?_
    refine W.seq ?_
    refine W.block ?_
    refine W.seq ?_
    refine W.region ?_
    refine W.q (Ev.assign .k) rfl ?_
    refine W.nil ?_
    refine W.then ?_
    refine W.seq ?_
    refine W.seq ?_
    refine W.region ?_
    refine W.q (Ev.assign .k) rfl ?_
    refine W.nil ?_
    refine W.then ?_
    refine W.block ?_
    refine W.loop (D := []) (ι := Nat) (fun k => [(20, true, .int (k : Int)), (19, true, .bool ((X.take k).any fun x => Pk.around x a)), (18, true, .int (i : Int)), (17, true, .int ((Y.take i).countP (fun a => X.any fun x => Pk.around x a) : Int)), (13, true, .sl 1 (Y.map pav)), (11, true, .sl 1 (X.map pav)), (15, true, .sl 1 (Z.map pav))]) (fun _ => []) (fun k => k ≤ X.length) (fun k => X.length - k) 0 ⟨rfl, rfl, rfl, rfl, rfl, rfl, rfl, trivial⟩ (.refl _) (Nat.zero_le _) ?_
    intro k hk
    dsimp only at hk ⊢
    rcases (show k < X.length ∨ k = X.length from by omega) with hltk | hendk
    · have hgx := getD_mapG pav [] X k hltk
      have hxm := getD_memG [] X k hltk
      have htx := take_getDG [] X k hltk
      generalize X.getD k [] = x at hgx hxm htx
      have hxl := hXd x hxm
      have hxx : (x.map AV.int).length = x.length := List.length_map ..
      have haa : (a.map AV.int).length = a.length := List.length_map ..
      refine W.seq ?_
      refine W.seq ?_
      refine W.region ?_
      refine W.q (Ev.move (.t rfl)) rfl ?_
      refine W.q (Ev.move (.t rfl)) rfl ?_
      first | refine W.q (Ev.lensl (.t rfl) Try.underlying28) rfl ?_ | refine W.q (Ev.lenar (i := 0) (.t rfl) rfl Try.underlying28) rfl ?_ | refine W.q (Ev.lenar (i := 1) (.t rfl) rfl Try.underlying28) rfl ?_ | refine W.q (Ev.lenar (i := 2) (.t rfl) rfl Try.underlying28) rfl ?_ | refine W.q (Ev.lenar (i := 3) (.t rfl) rfl Try.underlying28) rfl ?_
      refine W.q (Ev.lti (.t rfl) (.t rfl)) rfl ?_
      refine W.nil ?_
      refine W.then ?_
      refine W.is (t := 78) (g := true) (av' := .lit (.bool true)) rfl (congrArg (fun b => AV.lit (.bool b)) (by simp; omega)) ?_
      refine W.condT (.t rfl) ?_
      refine W.skip ?_
      refine W.then ?_
      refine W.seq ?_
      refine W.block ?_
      refine W.drawnE (ι := Unit) (fun _ _ => _) 32 () (by kernel_rfl) (by kernel_rfl) rfl ?_
      refine DE.q (fun e c hk => (Ev.move (.t rfl))) rfl (fun _ _ => rfl) (by first | exact .inr (fun _ _ => rfl) | exact .inl (by kernel_rfl)) ?_
      refine DE.q (fun e c hk => (Ev.move (.t rfl))) rfl (fun _ _ => rfl) (by first | exact .inr (fun _ _ => rfl) | exact .inl (by kernel_rfl)) ?_
      refine DE.qg rfl (fun _ => rfl) (fun e c hk => (Ev.move (.t rfl))) rfl (fun _ _ => rfl) (by first | exact .inr (fun _ _ => rfl) | exact .inl (by kernel_rfl)) ?_
      refine DE.qg rfl (fun _ => rfl) (fun e c hk => (Ev.move (.t rfl))) rfl (fun _ _ => rfl) (by first | exact .inr (fun _ _ => rfl) | exact .inl (by kernel_rfl)) ?_
      refine DE.qg rfl (fun _ => rfl) (fun e c hk => Ev.at (E := 22) (.c rfl) (.c rfl) Try.underlying28 ty22 (fun _ => ⟨by omega, hgx⟩) rfl rfl) rfl (fun _ _ => rfl) (by first | exact .inr (fun _ _ => rfl) | exact .inl (by kernel_rfl)) ?_
      first | refine DE.qg rfl (fun _ => rfl) (fun e c hk => (Ev.lde1 (.c rfl) ag22)) rfl (fun _ _ => rfl) (by first | exact .inr (fun _ _ => rfl) | exact .inl (by kernel_rfl)) ?_ | refine DE.qg rfl (fun _ => rfl) (fun e c hk => (Ev.ldb1 0 (.c rfl) rfl ag22 rfl)) rfl (fun _ _ => rfl) (by first | exact .inr (fun _ _ => rfl) | exact .inl (by kernel_rfl)) ?_ | refine DE.qg rfl (fun _ => rfl) (fun e c hk => (Ev.ldb1 1 (.c rfl) rfl ag22 rfl)) rfl (fun _ _ => rfl) (by first | exact .inr (fun _ _ => rfl) | exact .inl (by kernel_rfl)) ?_ | refine DE.qg rfl (fun _ => rfl) (fun e c hk => (Ev.ldb1 2 (.c rfl) rfl ag22 rfl)) rfl (fun _ _ => rfl) (by first | exact .inr (fun _ _ => rfl) | exact .inl (by kernel_rfl)) ?_ | refine DE.qg rfl (fun _ => rfl) (fun e c hk => (Ev.ldb1 3 (.c rfl) rfl ag22 rfl)) rfl (fun _ _ => rfl) (by first | exact .inr (fun _ _ => rfl) | exact .inl (by kernel_rfl)) ?_
      first | refine DE.qg rfl (fun _ => rfl) (fun e c hk => (Ev.lensl (.c rfl) Try.underlying22)) rfl (fun _ _ => rfl) (by first | exact .inr (fun _ _ => rfl) | exact .inl (by kernel_rfl)) ?_ | refine DE.qg rfl (fun _ => rfl) (fun e c hk => (Ev.lenar (i := 0) (.c rfl) rfl Try.underlying22)) rfl (fun _ _ => rfl) (by first | exact .inr (fun _ _ => rfl) | exact .inl (by kernel_rfl)) ?_ | refine DE.qg rfl (fun _ => rfl) (fun e c hk => (Ev.lenar (i := 1) (.c rfl) rfl Try.underlying22)) rfl (fun _ _ => rfl) (by first | exact .inr (fun _ _ => rfl) | exact .inl (by kernel_rfl)) ?_ | refine DE.qg rfl (fun _ => rfl) (fun e c hk => (Ev.lenar (i := 2) (.c rfl) rfl Try.underlying22)) rfl (fun _ _ => rfl) (by first | exact .inr (fun _ _ => rfl) | exact .inl (by kernel_rfl)) ?_ | refine DE.qg rfl (fun _ => rfl) (fun e c hk => (Ev.lenar (i := 3) (.c rfl) rfl Try.underlying22)) rfl (fun _ _ => rfl) (by first | exact .inr (fun _ _ => rfl) | exact .inl (by kernel_rfl)) ?_
      refine DE.qg rfl (fun _ => rfl) (fun e c hk => (Ev.move (.t rfl))) rfl (fun _ _ => rfl) (by first | exact .inr (fun _ _ => rfl) | exact .inl (by kernel_rfl)) ?_
      refine DE.qg rfl (fun _ => rfl) (fun e c hk => (Ev.move (.t rfl))) rfl (fun _ _ => rfl) (by first | exact .inr (fun _ _ => rfl) | exact .inl (by kernel_rfl)) ?_
      refine DE.qg rfl (fun _ => rfl) (fun e c hk => Ev.at (E := 22) (.c rfl) (.c rfl) Try.underlying28 ty22 (fun _ => ⟨by omega, hga⟩) rfl rfl) rfl (fun _ _ => rfl) (by first | exact .inr (fun _ _ => rfl) | exact .inl (by kernel_rfl)) ?_
      first | refine DE.qg rfl (fun _ => rfl) (fun e c hk => (Ev.lde1 (.c rfl) ag22)) rfl (fun _ _ => rfl) (by first | exact .inr (fun _ _ => rfl) | exact .inl (by kernel_rfl)) ?_ | refine DE.qg rfl (fun _ => rfl) (fun e c hk => (Ev.ldb1 0 (.c rfl) rfl ag22 rfl)) rfl (fun _ _ => rfl) (by first | exact .inr (fun _ _ => rfl) | exact .inl (by kernel_rfl)) ?_ | refine DE.qg rfl (fun _ => rfl) (fun e c hk => (Ev.ldb1 1 (.c rfl) rfl ag22 rfl)) rfl (fun _ _ => rfl) (by first | exact .inr (fun _ _ => rfl) | exact .inl (by kernel_rfl)) ?_ | refine DE.qg rfl (fun _ => rfl) (fun e c hk => (Ev.ldb1 2 (.c rfl) rfl ag22 rfl)) rfl (fun _ _ => rfl) (by first | exact .inr (fun _ _ => rfl) | exact .inl (by kernel_rfl)) ?_ | refine DE.qg rfl (fun _ => rfl) (fun e c hk => (Ev.ldb1 3 (.c rfl) rfl ag22 rfl)) rfl (fun _ _ => rfl) (by first | exact .inr (fun _ _ => rfl) | exact .inl (by kernel_rfl)) ?_
      first | refine DE.qg rfl (fun _ => rfl) (fun e c hk => (Ev.lensl (.c rfl) Try.underlying22)) rfl (fun _ _ => rfl) (by first | exact .inr (fun _ _ => rfl) | exact .inl (by kernel_rfl)) ?_ | refine DE.qg rfl (fun _ => rfl) (fun e c hk => (Ev.lenar (i := 0) (.c rfl) rfl Try.underlying22)) rfl (fun _ _ => rfl) (by first | exact .inr (fun _ _ => rfl) | exact .inl (by kernel_rfl)) ?_ | refine DE.qg rfl (fun _ => rfl) (fun e c hk => (Ev.lenar (i := 1) (.c rfl) rfl Try.underlying22)) rfl (fun _ _ => rfl) (by first | exact .inr (fun _ _ => rfl) | exact .inl (by kernel_rfl)) ?_ | refine DE.qg rfl (fun _ => rfl) (fun e c hk => (Ev.lenar (i := 2) (.c rfl) rfl Try.underlying22)) rfl (fun _ _ => rfl) (by first | exact .inr (fun _ _ => rfl) | exact .inl (by kernel_rfl)) ?_ | refine DE.qg rfl (fun _ => rfl) (fun e c hk => (Ev.lenar (i := 3) (.c rfl) rfl Try.underlying22)) rfl (fun _ _ => rfl) (by first | exact .inr (fun _ _ => rfl) | exact .inl (by kernel_rfl)) ?_
      refine DE.qg rfl (fun _ => rfl) (fun e c hk => (Ev.lti (.c rfl) (.c rfl))) rfl (fun _ _ => rfl) (by first | exact .inr (fun _ _ => rfl) | exact .inl (by kernel_rfl)) ?_
      refine DE.qg rfl (fun _ => rfl) (fun e c hk => (Ev.move (.c rfl))) rfl (fun _ _ => rfl) (by first | exact .inr (fun _ _ => rfl) | exact .inl (by kernel_rfl)) ?_
      refine DE.qg rfl (fun _ => rfl) (fun e c hk => (Ev.move (.t rfl))) rfl (fun _ _ => rfl) (by first | exact .inr (fun _ _ => rfl) | exact .inl (by kernel_rfl)) ?_
      refine DE.qg rfl (fun _ => rfl) (fun e c hk => (Ev.move (.t rfl))) rfl (fun _ _ => rfl) (by first | exact .inr (fun _ _ => rfl) | exact .inl (by kernel_rfl)) ?_
      refine DE.qg rfl (fun _ => rfl) (fun e c hk => Ev.at (E := 22) (.c rfl) (.c rfl) Try.underlying28 ty22 (fun _ => ⟨by omega, hga⟩) rfl rfl) rfl (fun _ _ => rfl) (by first | exact .inr (fun _ _ => rfl) | exact .inl (by kernel_rfl)) ?_
      first | refine DE.qg rfl (fun _ => rfl) (fun e c hk => (Ev.lde1 (.c rfl) ag22)) rfl (fun _ _ => rfl) (by first | exact .inr (fun _ _ => rfl) | exact .inl (by kernel_rfl)) ?_ | refine DE.qg rfl (fun _ => rfl) (fun e c hk => (Ev.ldb1 0 (.c rfl) rfl ag22 rfl)) rfl (fun _ _ => rfl) (by first | exact .inr (fun _ _ => rfl) | exact .inl (by kernel_rfl)) ?_ | refine DE.qg rfl (fun _ => rfl) (fun e c hk => (Ev.ldb1 1 (.c rfl) rfl ag22 rfl)) rfl (fun _ _ => rfl) (by first | exact .inr (fun _ _ => rfl) | exact .inl (by kernel_rfl)) ?_ | refine DE.qg rfl (fun _ => rfl) (fun e c hk => (Ev.ldb1 2 (.c rfl) rfl ag22 rfl)) rfl (fun _ _ => rfl) (by first | exact .inr (fun _ _ => rfl) | exact .inl (by kernel_rfl)) ?_ | refine DE.qg rfl (fun _ => rfl) (fun e c hk => (Ev.ldb1 3 (.c rfl) rfl ag22 rfl)) rfl (fun _ _ => rfl) (by first | exact .inr (fun _ _ => rfl) | exact .inl (by kernel_rfl)) ?_
      refine DE.qg rfl (fun _ => rfl) (fun e c hk => (Ev.move (.t rfl))) rfl (fun _ _ => rfl) (by first | exact .inr (fun _ _ => rfl) | exact .inl (by kernel_rfl)) ?_
      refine DE.qg rfl (fun _ => rfl) (fun e c hk => (Ev.move (.t rfl))) rfl (fun _ _ => rfl) (by first | exact .inr (fun _ _ => rfl) | exact .inl (by kernel_rfl)) ?_
      refine DE.qg rfl (fun _ => rfl) (fun e c hk => Ev.at (E := 22) (.c rfl) (.c rfl) Try.underlying28 ty22 (fun _ => ⟨by omega, hgx⟩) rfl rfl) rfl (fun _ _ => rfl) (by first | exact .inr (fun _ _ => rfl) | exact .inl (by kernel_rfl)) ?_
      first | refine DE.qg rfl (fun _ => rfl) (fun e c hk => (Ev.lde1 (.c rfl) ag22)) rfl (fun _ _ => rfl) (by first | exact .inr (fun _ _ => rfl) | exact .inl (by kernel_rfl)) ?_ | refine DE.qg rfl (fun _ => rfl) (fun e c hk => (Ev.ldb1 0 (.c rfl) rfl ag22 rfl)) rfl (fun _ _ => rfl) (by first | exact .inr (fun _ _ => rfl) | exact .inl (by kernel_rfl)) ?_ | refine DE.qg rfl (fun _ => rfl) (fun e c hk => (Ev.ldb1 1 (.c rfl) rfl ag22 rfl)) rfl (fun _ _ => rfl) (by first | exact .inr (fun _ _ => rfl) | exact .inl (by kernel_rfl)) ?_ | refine DE.qg rfl (fun _ => rfl) (fun e c hk => (Ev.ldb1 2 (.c rfl) rfl ag22 rfl)) rfl (fun _ _ => rfl) (by first | exact .inr (fun _ _ => rfl) | exact .inl (by kernel_rfl)) ?_ | refine DE.qg rfl (fun _ => rfl) (fun e c hk => (Ev.ldb1 3 (.c rfl) rfl ag22 rfl)) rfl (fun _ _ => rfl) (by first | exact .inr (fun _ _ => rfl) | exact .inl (by kernel_rfl)) ?_
      first | refine DE.qg rfl (fun _ => rfl) (fun e c hk => (Ev.lensl (.c rfl) Try.underlying22)) rfl (fun _ _ => rfl) (by first | exact .inr (fun _ _ => rfl) | exact .inl (by kernel_rfl)) ?_ | refine DE.qg rfl (fun _ => rfl) (fun e c hk => (Ev.lenar (i := 0) (.c rfl) rfl Try.underlying22)) rfl (fun _ _ => rfl) (by first | exact .inr (fun _ _ => rfl) | exact .inl (by kernel_rfl)) ?_ | refine DE.qg rfl (fun _ => rfl) (fun e c hk => (Ev.lenar (i := 1) (.c rfl) rfl Try.underlying22)) rfl (fun _ _ => rfl) (by first | exact .inr (fun _ _ => rfl) | exact .inl (by kernel_rfl)) ?_ | refine DE.qg rfl (fun _ => rfl) (fun e c hk => (Ev.lenar (i := 2) (.c rfl) rfl Try.underlying22)) rfl (fun _ _ => rfl) (by first | exact .inr (fun _ _ => rfl) | exact .inl (by kernel_rfl)) ?_ | refine DE.qg rfl (fun _ => rfl) (fun e c hk => (Ev.lenar (i := 3) (.c rfl) rfl Try.underlying22)) rfl (fun _ _ => rfl) (by first | exact .inr (fun _ _ => rfl) | exact .inl (by kernel_rfl)) ?_
      refine DE.qg rfl (fun _ => rfl) (fun e c hk => Ev.takesl (n := x.length) (.c rfl) Try.underlying22 ty3 (.c rfl) (by rw [List.length_map]) (fun hg => by simp at hg; omega)) rfl (fun _ _ => rfl) (by first | exact .inr (fun _ _ => rfl) | exact .inl (by kernel_rfl)) ?_
      refine DE.qg rfl (fun _ => rfl) (fun e c hk => (Ev.move (.t rfl))) rfl (fun _ _ => rfl) (by first | exact .inr (fun _ _ => rfl) | exact .inl (by kernel_rfl)) ?_
      refine DE.qg rfl (fun _ => rfl) (fun e c hk => (Ev.move (.t rfl))) rfl (fun _ _ => rfl) (by first | exact .inr (fun _ _ => rfl) | exact .inl (by kernel_rfl)) ?_
      refine DE.qg rfl (fun _ => rfl) (fun e c hk => Ev.at (E := 22) (.c rfl) (.c rfl) Try.underlying28 ty22 (fun _ => ⟨by omega, hgx⟩) rfl rfl) rfl (fun _ _ => rfl) (by first | exact .inr (fun _ _ => rfl) | exact .inl (by kernel_rfl)) ?_
      first | refine DE.qg rfl (fun _ => rfl) (fun e c hk => (Ev.lde1 (.c rfl) ag22)) rfl (fun _ _ => rfl) (by first | exact .inr (fun _ _ => rfl) | exact .inl (by kernel_rfl)) ?_ | refine DE.qg rfl (fun _ => rfl) (fun e c hk => (Ev.ldb1 0 (.c rfl) rfl ag22 rfl)) rfl (fun _ _ => rfl) (by first | exact .inr (fun _ _ => rfl) | exact .inl (by kernel_rfl)) ?_ | refine DE.qg rfl (fun _ => rfl) (fun e c hk => (Ev.ldb1 1 (.c rfl) rfl ag22 rfl)) rfl (fun _ _ => rfl) (by first | exact .inr (fun _ _ => rfl) | exact .inl (by kernel_rfl)) ?_ | refine DE.qg rfl (fun _ => rfl) (fun e c hk => (Ev.ldb1 2 (.c rfl) rfl ag22 rfl)) rfl (fun _ _ => rfl) (by first | exact .inr (fun _ _ => rfl) | exact .inl (by kernel_rfl)) ?_ | refine DE.qg rfl (fun _ => rfl) (fun e c hk => (Ev.ldb1 3 (.c rfl) rfl ag22 rfl)) rfl (fun _ _ => rfl) (by first | exact .inr (fun _ _ => rfl) | exact .inl (by kernel_rfl)) ?_
      refine DE.callg rfl (fun _ => rfl) (fun c hg => WLet.c_sameInts (a.take x.length) x (by rw [List.length_take]; omega)) (fun c hg => ⟨(.i rfl (fun _ => hg)), (.i rfl (fun _ => hg)), trivial⟩) rfl (fun _ _ => rfl) (by first | exact .inr (fun _ _ => rfl) | exact .inl (by kernel_rfl)) ?_
      refine DE.qg rfl (fun _ => rfl) (fun e c hk => (Ev.and (.c rfl) ⟨_, _, rfl, rfl, by first | (simp; done) | (intro hg_ hp_; simp [hp_]; done) | (simp <;> omega; done) | (simp_all; done) | grind⟩)) rfl (fun _ _ => rfl) (by first | exact .inr (fun _ _ => rfl) | exact .inl (by kernel_rfl)) ?_
      refine DE.q (fun e c hk => (Ev.or (.t rfl) ⟨_, _, rfl, rfl, by first | (simp; done) | (intro hg_ hp_; simp [hp_]; done) | (simp <;> omega; done) | (simp_all; done) | grind⟩)) rfl (fun _ _ => rfl) (by first | exact .inr (fun _ _ => rfl) | exact .inl (by kernel_rfl)) ?_
      refine DE.q (fun e c hk => (Ev.assign (.t rfl))) rfl (fun _ _ => rfl) (by first | exact .inr (fun _ _ => rfl) | exact .inl (by kernel_rfl)) ?_
      refine DE.nil (fun c_ e_ he_ => ?_)
      dsimp only
      refine W.blk_normal ?_
      refine W.then ?_
      refine W.region ?_
      refine W.q (Ev.move (.t rfl)) rfl ?_
      first | refine W.q (Ev.add (.t rfl) .k (fun _ => by omega)) rfl ?_ | refine W.q (Ev.addw (.t rfl) .k) rfl ?_
      refine W.q (Ev.assign (.t rfl)) rfl ?_
      refine W.nil ?_
      refine W.then ?_
      refine W.is (t := 19) (g := true) (av' := .bool ((X.take (k + 1)).any fun x => Pk.around x a)) rfl (congrArg AV.bool (by rw [htx, List.any_append]; simp [Pk.around])) ?_
      refine W.reach (D := []) (k + 1) ⟨rfl, rfl, rfl, rfl, rfl, rfl, rfl, trivial⟩ (.refl _) ⟨by show k + 1 ≤ _; omega, by show _ - (k + 1) < _; omega⟩
    · have hex : X.take k = X := List.take_of_length_le (by omega)
      rw [hex]
      refine W.seq ?_
      refine W.seq ?_
      refine W.region ?_
      refine W.q (Ev.move (.t rfl)) rfl ?_
      refine W.q (Ev.move (.t rfl)) rfl ?_
      first | refine W.q (Ev.lensl (.t rfl) Try.underlying28) rfl ?_ | refine W.q (Ev.lenar (i := 0) (.t rfl) rfl Try.underlying28) rfl ?_ | refine W.q (Ev.lenar (i := 1) (.t rfl) rfl Try.underlying28) rfl ?_ | refine W.q (Ev.lenar (i := 2) (.t rfl) rfl Try.underlying28) rfl ?_ | refine W.q (Ev.lenar (i := 3) (.t rfl) rfl Try.underlying28) rfl ?_
      refine W.q (Ev.lti (.t rfl) (.t rfl)) rfl ?_
      refine W.nil ?_
      refine W.then ?_
      refine W.is (t := 78) (g := true) (av' := .lit (.bool false)) rfl (congrArg (fun b => AV.lit (.bool b)) (by simp; omega)) ?_
      refine W.condF (.t rfl) ?_
      refine W.exit ?_
      refine W.then_exit ?_
      refine W.then_exit ?_
      refine W.blk_hit ?_
      refine W.then ?_
      refine W.seq ?_
      refine W.seq ?_
      refine W.region ?_
      refine W.q (Ev.move (.t rfl)) rfl ?_
      refine W.nil ?_
      refine W.then ?_
      refine W.cond (.t rfl) (fun hc_t112 => ?_) (fun hc_t112 => ?_)
      · have hwa : (X.any fun x => Pk.around x a) = true := hc_t112
        rw [if_pos hwa] at hct
        refine W.region ?_
        refine W.q (Ev.move (.t rfl)) rfl ?_
        first | refine W.q (Ev.add (.t rfl) .k (fun _ => by omega)) rfl ?_ | refine W.q (Ev.addw (.t rfl) .k) rfl ?_
        refine W.q (Ev.assign (.t rfl)) rfl ?_
        refine W.nil ?_
        refine W.then ?_
        refine W.seq ?_
        refine W.region ?_
        refine W.q (Ev.move (.t rfl)) rfl ?_
        refine W.q (Ev.move (.t rfl)) rfl ?_
        refine W.q (Ev.move (.t rfl)) rfl ?_
        refine W.q (Ev.move (.t rfl)) rfl ?_
        refine W.q (Ev.at (E := 22) (.t rfl) (.t rfl) Try.underlying28 ty22 (fun _ => ⟨by omega, hga⟩) rfl rfl) rfl ?_
        first | refine W.q (Ev.lde1 (.t rfl) ag22) rfl ?_ | refine W.q (Ev.ldb1 0 (.t rfl) rfl ag22 rfl) rfl ?_ | refine W.q (Ev.ldb1 1 (.t rfl) rfl ag22 rfl) rfl ?_ | refine W.q (Ev.ldb1 2 (.t rfl) rfl ag22 rfl) rfl ?_ | refine W.q (Ev.ldb1 3 (.t rfl) rfl ag22 rfl) rfl ?_
        refine W.callp (WPicks.c_hasPath Z a (by omega) (fun y hy => by have := hZd y hy; omega)) ⟨(.t rfl), (.t rfl), trivial⟩ rfl ?_
        refine W.q (Ev.neb (.t rfl) (.t rfl) Try.underlying4) rfl ?_
        refine W.nil ?_
        refine W.then ?_
        refine W.is (t := 122) (g := true) (av' := .lit (.bool false)) rfl (congrArg (fun b => AV.lit (.bool b)) (by rw [hWi a ham]; simp)) ?_
        refine W.condF (.t rfl) ?_
        refine W.skip ?_
        refine W.blk_normal ?_
        refine W.then ?_
        refine W.region ?_
        refine W.q (Ev.move (.t rfl)) rfl ?_
        first | refine W.q (Ev.add (.t rfl) .k (fun _ => by omega)) rfl ?_ | refine W.q (Ev.addw (.t rfl) .k) rfl ?_
        refine W.q (Ev.assign (.t rfl)) rfl ?_
        refine W.nil ?_
        refine W.then ?_
        refine W.is (t := 17) (g := true) (av' := .int ((Y.take (i + 1)).countP (fun a => X.any fun x => Pk.around x a) : Int)) rfl (congrArg AV.int (by rw [hct]; omega)) ?_
        refine W.reach (D := []) (i + 1) ⟨rfl, rfl, rfl, rfl, rfl, trivial⟩ (.refl _) ⟨by show i + 1 ≤ _; omega, by show _ - (i + 1) < _; omega⟩
      · have hwa : (X.any fun x => Pk.around x a) = false := hc_t112
        rw [if_neg (by rw [hwa]; simp)] at hct
        refine W.skip ?_
        refine W.then ?_
        refine W.seq ?_
        refine W.region ?_
        refine W.q (Ev.move (.t rfl)) rfl ?_
        refine W.q (Ev.move (.t rfl)) rfl ?_
        refine W.q (Ev.move (.t rfl)) rfl ?_
        refine W.q (Ev.move (.t rfl)) rfl ?_
        refine W.q (Ev.at (E := 22) (.t rfl) (.t rfl) Try.underlying28 ty22 (fun _ => ⟨by omega, hga⟩) rfl rfl) rfl ?_
        first | refine W.q (Ev.lde1 (.t rfl) ag22) rfl ?_ | refine W.q (Ev.ldb1 0 (.t rfl) rfl ag22 rfl) rfl ?_ | refine W.q (Ev.ldb1 1 (.t rfl) rfl ag22 rfl) rfl ?_ | refine W.q (Ev.ldb1 2 (.t rfl) rfl ag22 rfl) rfl ?_ | refine W.q (Ev.ldb1 3 (.t rfl) rfl ag22 rfl) rfl ?_
        refine W.callp (WPicks.c_hasPath Z a (by omega) (fun y hy => by have := hZd y hy; omega)) ⟨(.t rfl), (.t rfl), trivial⟩ rfl ?_
        refine W.q (Ev.neb (.t rfl) (.t rfl) Try.underlying4) rfl ?_
        refine W.nil ?_
        refine W.then ?_
        refine W.is (t := 122) (g := true) (av' := .lit (.bool false)) rfl (congrArg (fun b => AV.lit (.bool b)) (by rw [hWi a ham]; simp)) ?_
        refine W.condF (.t rfl) ?_
        refine W.skip ?_
        refine W.blk_normal ?_
        refine W.then ?_
        refine W.region ?_
        refine W.q (Ev.move (.t rfl)) rfl ?_
        first | refine W.q (Ev.add (.t rfl) .k (fun _ => by omega)) rfl ?_ | refine W.q (Ev.addw (.t rfl) .k) rfl ?_
        refine W.q (Ev.assign (.t rfl)) rfl ?_
        refine W.nil ?_
        refine W.then ?_
        refine W.is (t := 17) (g := true) (av' := .int ((Y.take (i + 1)).countP (fun a => X.any fun x => Pk.around x a) : Int)) rfl (congrArg AV.int (by rw [hct]; omega)) ?_
        refine W.reach (D := []) (i + 1) ⟨rfl, rfl, rfl, rfl, rfl, trivial⟩ (.refl _) ⟨by show i + 1 ≤ _; omega, by show _ - (i + 1) < _; omega⟩
  · have he : Y.take i = Y := List.take_of_length_le (by omega)
    rw [he]
    refine W.seq ?_
    refine W.seq ?_
    refine W.region ?_
    refine W.q (Ev.move (.t rfl)) rfl ?_
    refine W.q (Ev.move (.t rfl)) rfl ?_
    first | refine W.q (Ev.lensl (.t rfl) Try.underlying28) rfl ?_ | refine W.q (Ev.lenar (i := 0) (.t rfl) rfl Try.underlying28) rfl ?_ | refine W.q (Ev.lenar (i := 1) (.t rfl) rfl Try.underlying28) rfl ?_ | refine W.q (Ev.lenar (i := 2) (.t rfl) rfl Try.underlying28) rfl ?_ | refine W.q (Ev.lenar (i := 3) (.t rfl) rfl Try.underlying28) rfl ?_
    refine W.q (Ev.lti (.t rfl) (.t rfl)) rfl ?_
    refine W.nil ?_
    refine W.then ?_
    refine W.is (t := 72) (g := true) (av' := .lit (.bool false)) rfl (congrArg (fun b => AV.lit (.bool b)) (by simp; omega)) ?_
    refine W.condF (.t rfl) ?_
    refine W.exit ?_
    refine W.then_exit ?_
    refine W.then_exit ?_
    refine W.blk_hit ?_
    refine W.then ?_
    refine W.seq ?_
    refine W.region ?_
    refine W.q (Ev.move (.t rfl)) rfl ?_
    refine W.q (Ev.move (.t rfl)) rfl ?_
    first | refine W.q (Ev.lensl (.t rfl) Try.underlying28) rfl ?_ | refine W.q (Ev.lenar (i := 0) (.t rfl) rfl Try.underlying28) rfl ?_ | refine W.q (Ev.lenar (i := 1) (.t rfl) rfl Try.underlying28) rfl ?_ | refine W.q (Ev.lenar (i := 2) (.t rfl) rfl Try.underlying28) rfl ?_ | refine W.q (Ev.lenar (i := 3) (.t rfl) rfl Try.underlying28) rfl ?_
    refine W.q (Ev.eqi (.t rfl) (.t rfl)) rfl ?_
    refine W.q (Ev.assign (.t rfl)) rfl ?_
    refine W.nil ?_
    refine W.then ?_
    refine W.ret ?_
    refine W.retn (M' := []) (D := _) (rs := [.tmp 6]) (avs := [_]) Try.results6 ⟨rfl, trivial⟩ rfl (.refl _) ?_
    exact ⟨congrArg AV.bool (by rw [hZm, hW, List.countP_eq_length_filter]; simp), rfl⟩

end LPickWithin

end Go.Proofs.Yteepllfbnoaiaaa
