/-
  The law TopWalk, walked.
-/
import Derived.Test.YteepllfbnoaiaaaWNodes
import Derived.Test.YteepllfbnoaiaaaWPaths
import Derived.Test.YteepllfbnoaiaaaWCount
import Derived.Test.YteepllfbnoaiaaaWAt
import Derived.Test.YteepllfbnoaiaaaWSameTop
import Derived.Test.YteepllfbnoaiaaaWChPut
import Derived.Test.YteepllfbnoaiaaaWPlay
set_option linter.unusedVariables false
set_option linter.unusedSimpArgs false
set_option maxRecDepth 100000
namespace Go.Proofs.Yteepllfbnoaiaaa
open Go.Vl

namespace LTopWalk
theorem ty3 : Ty Try.prog 3 1 8 (.int .i64 0) := Ty.of (by kernel_rfl)
theorem ty9 : Ty Try.prog 9 1 16 (.string ⟨#[]⟩) := Ty.of (by kernel_rfl)
theorem ty22 : Ty Try.prog 22 1 24 (.slice none 0 0) := Ty.of (by kernel_rfl)
theorem ty25 : Ty Try.prog 25 1 24 (.slice none 0 0) := Ty.of (by kernel_rfl)
theorem ty33 : Ty Try.prog 33 1 24 (.slice none 0 0) := Ty.of (by kernel_rfl)
theorem ty35 : Ty Try.prog 35 4 80 (.agg #[.string ⟨#[]⟩, .slice none 0 0, .string ⟨#[]⟩, .slice none 0 0]) := Ty.of (by kernel_rfl)
theorem ty61 : Ty Try.prog 61 6 112 (.agg #[.int .i64 0, .slice none 0 0, .string ⟨#[]⟩, .slice none 0 0, .string ⟨#[]⟩, .slice none 0 0]) := Ty.of (by kernel_rfl)
theorem ag22 : IsAgg Try.prog 22 false := ⟨_, Try.underlying22, rfl⟩
theorem ag25 : IsAgg Try.prog 25 false := ⟨_, Try.underlying25, rfl⟩
theorem ag35 : IsAgg Try.prog 35 true := ⟨_, Try.underlying35, rfl⟩
theorem fa35_3 : FieldAt Try.prog 35 3 3 1 false := ⟨_, _, Try.underlying35, rfl, rfl, ty25.size, ag25, by decide⟩
theorem st35 : StructAt Try.prog 35 [(0, 1), (1, 1), (2, 1), (3, 1)] := ⟨_, Try.underlying35, rfl, ty9.size, rfl, ty33.size, rfl, ty9.size, rfl, ty25.size, trivial⟩
theorem st61 : StructAt Try.prog 61 [(0, 1), (1, 1), (2, 4)] := ⟨_, Try.underlying61, rfl, ty3.size, rfl, ty22.size, rfl, ty35.size, trivial⟩
theorem ni22 : NotInt Try.prog 22 := .inl ⟨_, Try.underlying22⟩
theorem ni56 : NotInt Try.prog 56 := .inl ⟨_, Try.underlying56⟩
theorem c_TopWalk (l : List Int) (hl : l.length ≤ 1048576) : FnP Try.prog 8 [.sl 1 (l.map AV.int)] (.bool true) :=  by
  refine FnC.mk Try.func8 (by kernel_rfl) rfl Try.ntmps8 rfl (fun w0 F => ?_)
  refine W.seq ?_
  refine W.region ?_
  refine W.q (Ev.assign .k) rfl ?_
  refine W.nil ?_
  refine W.then ?_
  refine W.seq ?_
  refine W.region ?_
  refine W.q (Ev.move (.t rfl)) rfl ?_
  refine W.call (WNodes.c_Nodes l hl 3 5 (by decide) (by decide) (by decide)) ⟨(.t rfl), .k, .k, trivial⟩ (.refl _) rfl ?_
  rintro _ _ ⟨v18, ns, rest, rfl, rfl, hn1, hn2, hn3, hn4, hn5⟩
  have hns := Nd.szs_len ns
  refine W.q (Ev.move (.t rfl)) rfl ?_
  refine W.q (Ev.extract (.t rfl) rfl) rfl ?_
  refine W.q (Ev.extract (.t rfl) rfl) rfl ?_
  refine W.q (Ev.assign (.t rfl)) rfl ?_
  refine W.q (Ev.assign (.t rfl)) rfl ?_
  refine W.nil ?_
  refine W.freezeA (M1 := []) (M2 := []) (D := []) (v := v18) (L' := [(3, true, .sl 4 (ns.map Nd.av))]) (.refl _) ⟨⟨_, rfl, .one .hit⟩, trivial⟩ (FrzMs.refl _) ?_
  have hP1 := Nd.pthsFrom_len ns 0
  have hP2 := Nd.at_paths
  have hP3 := Nd.pthsFrom_deep ns 0
  have cP := WPaths.c_Paths ns (by omega)
  generalize hPS : Nd.pthsFrom 0 ns = PS at *
  have hPm : (PS.map pav).length = PS.length := List.length_map ..
  obtain ⟨f, hf⟩ : ∃ f : Nat → Nd, ∀ i, i < PS.length → Nd.atP ns (PS.getD i []) (f i) := by
    have h : ∀ i, ∃ d, i < PS.length → Nd.atP ns (PS.getD i []) d := fun i => by
      by_cases hi : i < PS.length
      · obtain ⟨d, hd⟩ := hP2 (PS.getD i []) ns (by rw [hPS]; exact getD_memG [] PS i hi)
        exact ⟨d, fun _ => hd⟩
      · exact ⟨Nd.dflt, fun h => absurd h hi⟩
    exact Classical.axiomOfChoice h
  refine W.then ?_
  refine W.seq ?_
  refine W.region ?_
  refine W.q (Ev.move (.t rfl)) rfl ?_
  refine W.callp (cP) ⟨(.t rfl), trivial⟩ rfl ?_
  refine W.q (Ev.assign (.t rfl)) rfl ?_
  refine W.nil ?_
  refine W.then ?_
  refine W.seq ?_
  refine W.seq ?_
  refine W.region ?_
  refine W.q (Ev.move (.t rfl)) rfl ?_
  first | refine W.q (Ev.lensl (.t rfl) Try.underlying28) rfl ?_ | refine W.q (Ev.lenar (i := 0) (.t rfl) rfl Try.underlying28) rfl ?_ | refine W.q (Ev.lenar (i := 1) (.t rfl) rfl Try.underlying28) rfl ?_ | refine W.q (Ev.lenar (i := 2) (.t rfl) rfl Try.underlying28) rfl ?_ | refine W.q (Ev.lenar (i := 3) (.t rfl) rfl Try.underlying28) rfl ?_
  refine W.q (Ev.gti (.t rfl) .k) rfl ?_
  refine W.nil ?_
  refine W.then ?_
  refine W.cond (.t rfl) (fun hc_t25 => ?_) (fun hc_t25 => ?_)
  · refine W.seq ?_
    refine W.region ?_
    refine W.q (Ev.build ty35 st35 rfl (fun hg => ⟨_, _, _, rfl, .k, rfl, rfl, rfl, rfl⟩)) rfl ?_
    refine W.nils (t := 26) (g := true) (cs' := [.str [98], .sl 2 [], .str [], .sl 4 []]) rfl ⟨.inl rfl, .inr ⟨rfl, 2, rfl⟩, .inl rfl, .inr ⟨rfl, 4, rfl⟩, trivial⟩ ?_
    refine W.bs (es := [_]) Try.underlying25 ty35 ⟨rfl, (.t rfl), rfl, rfl, trivial⟩ rfl (by decide) rfl rfl ?_
    refine W.callp (WPaths.c_Paths [(Nd.mk [98] [] [] [])] (by decide)) ⟨(.t rfl), trivial⟩ rfl ?_
    first | refine W.q (Ev.lensl (.t rfl) Try.underlying28) rfl ?_ | refine W.q (Ev.lenar (i := 0) (.t rfl) rfl Try.underlying28) rfl ?_ | refine W.q (Ev.lenar (i := 1) (.t rfl) rfl Try.underlying28) rfl ?_ | refine W.q (Ev.lenar (i := 2) (.t rfl) rfl Try.underlying28) rfl ?_ | refine W.q (Ev.lenar (i := 3) (.t rfl) rfl Try.underlying28) rfl ?_
    refine W.q (Ev.eqi (.t rfl) .k) rfl ?_
    refine W.q (Ev.assign (.t rfl)) rfl ?_
    refine W.nil ?_
    refine W.then ?_
    refine W.ret ?_
    refine W.then_ret ?_
    refine W.retn (M' := []) (D := _) (rs := [.tmp 2]) (avs := [_]) Try.results8 ⟨rfl, trivial⟩ rfl (.refl _) ?_
    exact ⟨rfl, rfl⟩
  · refine W.skip ?_
    refine W.then ?_
    refine W.seq ?_
    refine W.region ?_
    refine W.q (Ev.assign .k) rfl ?_
    refine W.nil ?_
    have h25 := of_decide_eq_false hc_t25
    have hrow : ((List.range PS.length).map fun j => cav (Ch.mk 1 (PS.getD j []) (Nd.withP (f j) []))) = ((List.range PS.length).map fun j => Ch.mk 1 (PS.getD j []) (Nd.withP (f j) [])).map cav := by rw [List.map_map]; rfl
    have hplay := WPlay.c_play ((List.range PS.length).map fun j => Ch.mk 1 (PS.getD j []) (Nd.withP (f j) [])) (fun i => Nd.tk i ns) (fun j => ⟨2, PS.getD j [], Nd.dflt⟩) (by rw [List.length_map, List.length_range]; omega) (by
      intro q hq
      obtain ⟨j, _, rfl⟩ := List.mem_map.1 hq
      exact .inl rfl) (by
      intro i hi
      have hi2 : i < PS.length := by simpa using hi
      have hg : ((List.range PS.length).map fun j => Ch.mk 1 (PS.getD j []) (Nd.withP (f j) [])).getD i Ch.dfl = Ch.mk 1 (PS.getD i []) (Nd.withP (f i) []) := by rw [List.getD_eq_getElem?_getD, List.getElem?_map, List.getElem?_range hi2]; rfl
      rw [hg]
      obtain ⟨h1, h2⟩ := Nd.put_tk ns [] i (PS.getD i []) (f i) hn3 (by rw [show Nd.pthsFrom ([] : List Nd).length ns = PS from hPS, List.getD_eq_getElem?_getD, List.getElem?_eq_getElem hi2]; rfl) (hf i hi2)
      simp only [List.nil_append] at h1 h2
      have hs1 := Nd.tk_szs i ns
      have hs2 := Nd.atP_sz _ _ _ (hf i hi2)
      have hs3 := Nd.sz_eq (f i)
      have hs4 := hP3 _ (getD_memG [] PS i hi2)
      have h3 := WChPut.c_Put (Ch.mk 1 (PS.getD i []) (Nd.withP (f i) [])) rfl (by show (PS.getD i []).length ≤ _; omega) (by rw [Nd.sz_eq]; simp only [Nd.attrs_mk, Nd.parts_mk, Nd.szs]; omega) (PS.getD i []) (by omega) (Nd.tk i ns) (by omega) h1
      rw [show Nd.putP (Nd.tk i ns) (PS.getD i []) (Ch.mk 1 (PS.getD i []) (Nd.withP (f i) [])).node = Nd.tk (i + 1) ns from h2] at h3
      exact h3) (by have := Nd.tk_szs ((List.range PS.length).map fun j => Ch.mk 1 (PS.getD j []) (Nd.withP (f j) [])).length ns; show Nd.szs (Nd.tk _ ns) ≤ _; omega)
    have hlc : ((List.range PS.length).map fun j => Ch.mk 1 (PS.getD j []) (Nd.withP (f j) [])).length = PS.length := by rw [List.length_map, List.length_range]
    rw [hlc, Nd.tk_zero, Nd.tk_full ns PS.length (by omega)] at hplay
    have hPlay := WPlay.c_Play _ _ _ _ hplay
    refine W.then ?_
    refine W.seq ?_
    refine W.seq ?_
    refine W.region ?_
    refine W.q (Ev.assign .k) rfl ?_
    refine W.nil ?_
    refine W.then ?_
    refine W.block ?_
    refine W.own_nil 61 6 ?_
    refine W.loop (D := []) (ι := Nat × Value) (fun z => [(7, true, .int (z.1 : Int)), (3, true, .sl 4 (ns.map Nd.av)), (5, true, .sl 1 (PS.map pav)), (6, true, .lit z.2)]) (fun z => [.arr z.2 61 6 ((List.range z.1).map fun j => cav (Ch.mk 1 (PS.getD j []) (Nd.withP (f j) [])))]) (fun z => z.1 ≤ PS.length) (fun z => PS.length - z.1) (0, .slice none 0 0) ⟨rfl, rfl, rfl, rfl, trivial⟩ (.refl _) (Nat.zero_le _) ?_
    rintro ⟨i, v⟩ hi
    dsimp only at hi ⊢
    rcases (show i < PS.length ∨ i = PS.length from by omega) with hlt | hend
    · have hgi := getD_mapG pav [] PS i hlt
      have hqm := getD_memG [] PS i hlt
      have hfi := hf i hlt
      have hql := hP3 _ hqm
      have hsn : ((List.range (i + 1)).map fun j => cav (Ch.mk 1 (PS.getD j []) (Nd.withP (f j) []))) = ((List.range i).map fun j => cav (Ch.mk 1 (PS.getD j []) (Nd.withP (f j) []))) ++ [cav (Ch.mk 1 (PS.getD i []) (Nd.withP (f i) []))] := by rw [List.range_succ, List.map_append]; rfl
      generalize PS.getD i [] = q at hgi hqm hfi hql hsn
      generalize f i = d at hfi hsn
      have hds := Nd.atP_sz _ _ _ hfi
      refine W.seq ?_
      refine W.seq ?_
      refine W.region ?_
      refine W.q (Ev.move (.t rfl)) rfl ?_
      refine W.q (Ev.move (.t rfl)) rfl ?_
      first | refine W.q (Ev.lensl (.t rfl) Try.underlying28) rfl ?_ | refine W.q (Ev.lenar (i := 0) (.t rfl) rfl Try.underlying28) rfl ?_ | refine W.q (Ev.lenar (i := 1) (.t rfl) rfl Try.underlying28) rfl ?_ | refine W.q (Ev.lenar (i := 2) (.t rfl) rfl Try.underlying28) rfl ?_ | refine W.q (Ev.lenar (i := 3) (.t rfl) rfl Try.underlying28) rfl ?_
      refine W.q (Ev.lti (.t rfl) (.t rfl)) rfl ?_
      refine W.nil ?_
      refine W.then ?_
      refine W.is (t := 34) (g := true) (av' := .lit (.bool true)) rfl (congrArg (fun b => AV.lit (.bool b)) (by simp; omega)) ?_
      refine W.condT (.t rfl) ?_
      refine W.skip ?_
      refine W.then ?_
      refine W.seq ?_
      refine W.block ?_
      refine W.seq ?_
      refine W.region ?_
      refine W.q (Ev.move (.t rfl)) rfl ?_
      refine W.q (Ev.move (.t rfl)) rfl ?_
      refine W.q (Ev.move (.t rfl)) rfl ?_
      refine W.q (Ev.at (E := 22) (.t rfl) (.t rfl) Try.underlying28 ty22 (fun _ => ⟨by omega, hgi⟩) rfl rfl) rfl ?_
      first | refine W.q (Ev.lde1 (.t rfl) ag22) rfl ?_ | refine W.q (Ev.ldb1 0 (.t rfl) rfl ag22 rfl) rfl ?_ | refine W.q (Ev.ldb1 1 (.t rfl) rfl ag22 rfl) rfl ?_ | refine W.q (Ev.ldb1 2 (.t rfl) rfl ag22 rfl) rfl ?_ | refine W.q (Ev.ldb1 3 (.t rfl) rfl ag22 rfl) rfl ?_
      first | refine W.appn .k (.sl (.t rfl) (okc_ints q)) Try.underlying22 ni22 ty3 rfl rfl (by simp; omega) rfl ?_ | refine W.appn .k (.arr 0 (.t rfl) rfl (okc_ints q)) Try.underlying22 ni22 ty3 rfl rfl (by simp; omega) rfl ?_ | refine W.appn .k (.arr 1 (.t rfl) rfl (okc_ints q)) Try.underlying22 ni22 ty3 rfl rfl (by simp; omega) rfl ?_ | refine W.appn .k (.arr 2 (.t rfl) rfl (okc_ints q)) Try.underlying22 ni22 ty3 rfl rfl (by simp; omega) rfl ?_ | refine W.appn .k (.arr 3 (.t rfl) rfl (okc_ints q)) Try.underlying22 ni22 ty3 rfl rfl (by simp; omega) rfl ?_
      intro v43
      refine W.freezeA (M1 := [_]) (M2 := [_]) (D := []) (v := v43) (L' := [(43, true, .sl 1 (q.map AV.int))]) (.refl _) ⟨⟨_, rfl, .one .hit⟩, trivial⟩ (FrzMs.refl _) ?_
      refine W.callp (WAt.c_At q (by omega) ns d hfi hn3 (by omega)) ⟨(.t rfl), (.t rfl), trivial⟩ rfl ?_
      refine W.q (Ev.move (.t rfl)) rfl ?_
      refine W.q (Ev.extract (.t rfl) rfl) rfl ?_
      refine W.q (Ev.extract (.t rfl) rfl) rfl ?_
      refine W.alloc ty35 rfl rfl ?_
      intro b8
      first | refine W.stb 0 (.t rfl) (.t rfl) rfl ty35 rfl rfl rfl ?_ | refine W.stb 1 (.t rfl) (.t rfl) rfl ty35 rfl rfl rfl ?_ | refine W.stb 2 (.t rfl) (.t rfl) rfl ty35 rfl rfl rfl ?_ | refine W.stb 3 (.t rfl) (.t rfl) rfl ty35 rfl rfl rfl ?_
      refine W.q (Ev.assign (.t rfl)) rfl ?_
      refine W.nil ?_
      refine W.then ?_
      refine W.seq ?_
      refine W.seq ?_
      refine W.region ?_
      refine W.q (Ev.move (.t rfl)) rfl ?_
      refine W.q (Ev.nei (.t rfl) .k) rfl ?_
      refine W.nil ?_
      refine W.then ?_
      refine W.is (t := 48) (g := true) (av' := .lit (.bool false)) rfl (congrArg (fun b => AV.lit (.bool b)) (by rfl)) ?_
      refine W.condF (.t rfl) ?_
      refine W.skip ?_
      refine W.then ?_
      refine W.seq ?_
      refine W.region ?_
      first | refine W.q (Ev.fae (.t rfl) fa35_3 rfl) rfl ?_ | refine W.q (Ev.fab (.t rfl) fa35_3) rfl ?_ | refine W.q (Ev.faa (.t rfl) fa35_3) rfl ?_
      refine W.stb (av := .sl 4 []) 0 (.t rfl) .kn rfl ty25 rfl rfl rfl ?_
      refine W.nil ?_
      refine W.then ?_
      refine W.drawnE (ι := Value) (fun ee c => [.box b8 35 [.str d.name, .sl 2 (d.attrs.map dav), .str d.text, .sl 4 []], bif ee 9 then ME.arr c 61 6 (((List.range i).map fun j => cav (Ch.mk 1 (PS.getD j []) (Nd.withP (f j) []))) ++ [cav (Ch.mk 1 q (Nd.withP d []))]) else ME.arr v 61 6 ((List.range i).map fun j => cav (Ch.mk 1 (PS.getD j []) (Nd.withP (f j) [])))]) 9 v (by kernel_rfl) (by kernel_rfl) rfl ?_
      refine DE.q (fun e c hk => (Ev.move (.t rfl))) rfl (fun _ _ => rfl) (by first | exact .inr (fun _ _ => rfl) | exact .inl (by kernel_rfl)) ?_
      refine DE.q (fun e c hk => (Ev.move (.t rfl))) rfl (fun _ _ => rfl) (by first | exact .inr (fun _ _ => rfl) | exact .inl (by kernel_rfl)) ?_
      refine DE.q (fun e c hk => (Ev.move (.t rfl))) rfl (fun _ _ => rfl) (by first | exact .inr (fun _ _ => rfl) | exact .inl (by kernel_rfl)) ?_
      refine DE.q (fun e c hk => Ev.at (E := 22) (.t rfl) (.t rfl) Try.underlying28 ty22 (fun _ => ⟨by omega, hgi⟩) rfl rfl) rfl (fun _ _ => rfl) (by first | exact .inr (fun _ _ => rfl) | exact .inl (by kernel_rfl)) ?_
      first | refine DE.q (fun e c hk => (Ev.lde1 (.t rfl) ag22)) rfl (fun _ _ => rfl) (by first | exact .inr (fun _ _ => rfl) | exact .inl (by kernel_rfl)) ?_ | refine DE.q (fun e c hk => (Ev.ldb1 0 (.t rfl) rfl ag22 rfl)) rfl (fun _ _ => rfl) (by first | exact .inr (fun _ _ => rfl) | exact .inl (by kernel_rfl)) ?_ | refine DE.q (fun e c hk => (Ev.ldb1 1 (.t rfl) rfl ag22 rfl)) rfl (fun _ _ => rfl) (by first | exact .inr (fun _ _ => rfl) | exact .inl (by kernel_rfl)) ?_ | refine DE.q (fun e c hk => (Ev.ldb1 2 (.t rfl) rfl ag22 rfl)) rfl (fun _ _ => rfl) (by first | exact .inr (fun _ _ => rfl) | exact .inl (by kernel_rfl)) ?_ | refine DE.q (fun e c hk => (Ev.ldb1 3 (.t rfl) rfl ag22 rfl)) rfl (fun _ _ => rfl) (by first | exact .inr (fun _ _ => rfl) | exact .inl (by kernel_rfl)) ?_
      first | refine DE.app0 (fun c => (by first | exact .k | exact .kn)) (fun e c => .sl (.t rfl) (okc_ints q)) Try.underlying22 ni22 ty3 rfl rfl (by simp; omega) rfl (fun _ _ => rfl) ?_ | refine DE.app0 (fun c => .k) (fun e c => .sl (.t rfl) (okc_ints q)) Try.underlying22 ni22 ty3 rfl rfl (by simp; omega) rfl (fun _ _ => rfl) ?_
      first | refine DE.q (fun e c hk => (Ev.lden (.t rfl) ag35 ty35 rfl rfl)) rfl (fun _ _ => rfl) (by first | exact .inr (fun _ _ => rfl) | exact .inl (by kernel_rfl)) ?_ | refine DE.q (fun e c hk => (Ev.ldbn 0 (.t rfl) rfl ag35 ty35 rfl)) rfl (fun _ _ => rfl) (by first | exact .inr (fun _ _ => rfl) | exact .inl (by kernel_rfl)) ?_ | refine DE.q (fun e c hk => (Ev.ldbn 1 (.t rfl) rfl ag35 ty35 rfl)) rfl (fun _ _ => rfl) (by first | exact .inr (fun _ _ => rfl) | exact .inl (by kernel_rfl)) ?_ | refine DE.q (fun e c hk => (Ev.ldbn 2 (.t rfl) rfl ag35 ty35 rfl)) rfl (fun _ _ => rfl) (by first | exact .inr (fun _ _ => rfl) | exact .inl (by kernel_rfl)) ?_ | refine DE.q (fun e c hk => (Ev.ldbn 3 (.t rfl) rfl ag35 ty35 rfl)) rfl (fun _ _ => rfl) (by first | exact .inr (fun _ _ => rfl) | exact .inl (by kernel_rfl)) ?_
      refine DE.q (fun e c hk => (Ev.build ty61 st61 rfl (fun hg => ⟨_, _, _, rfl, .k, rfl, rfl, rfl, _, _, _, rfl, (.t rfl), rfl, rfl, rfl, _, _, _, rfl, (.t rfl), rfl, rfl, rfl, rfl⟩))) rfl (fun _ _ => rfl) (by first | exact .inr (fun _ _ => rfl) | exact .inl (by kernel_rfl)) ?_
      refine DE.bs (es := fun _ => [_]) Try.underlying56 ty61 (fun c => ⟨rfl, (.t rfl), rfl, rfl, trivial⟩) (fun _ => rfl) (by decide) rfl rfl (fun _ _ => rfl) (by first | exact .inr (fun _ _ => rfl) | exact .inl (by kernel_rfl)) ?_
      refine DE.eff1 (av := fun v => .lit v) rfl rfl (fun e c hk L_ hs Q h => ?_) ?_
      · have hk_9 := hk.not
        simp only [addE, hk_9, Nat.reduceAdd, Nat.reduceEqDiff, ↓reduceIte, cond_true, cond_false] at h ⊢
        first | (refine W.app 0 (.t (hs _ _ rfl)) rfl (.sl (.t (hs _ _ rfl)) (by first | (simp [AV.okc, shV]; done) | (intro e he; rw [List.mem_singleton.1 he]; rfl))) Try.underlying56 ni56 ty61 rfl rfl (by simp only [List.length_map, List.length_range, List.length_cons, List.length_nil]; omega) rfl ?_; exact h) | (refine W.app 1 (.t (hs _ _ rfl)) rfl (.sl (.t (hs _ _ rfl)) (by first | (simp [AV.okc, shV]; done) | (intro e he; rw [List.mem_singleton.1 he]; rfl))) Try.underlying56 ni56 ty61 rfl rfl (by simp only [List.length_map, List.length_range, List.length_cons, List.length_nil]; omega) rfl ?_; exact h) | (refine W.app 2 (.t (hs _ _ rfl)) rfl (.sl (.t (hs _ _ rfl)) (by first | (simp [AV.okc, shV]; done) | (intro e he; rw [List.mem_singleton.1 he]; rfl))) Try.underlying56 ni56 ty61 rfl rfl (by simp only [List.length_map, List.length_range, List.length_cons, List.length_nil]; omega) rfl ?_; exact h) | (refine W.app 3 (.t (hs _ _ rfl)) rfl (.sl (.t (hs _ _ rfl)) (by first | (simp [AV.okc, shV]; done) | (intro e he; rw [List.mem_singleton.1 he]; rfl))) Try.underlying56 ni56 ty61 rfl rfl (by simp only [List.length_map, List.length_range, List.length_cons, List.length_nil]; omega) rfl ?_; exact h) | (refine W.app 0 (.t (hs _ _ rfl)) rfl (.arr 0 (.t (hs _ _ rfl)) rfl (by first | (simp [AV.okc, shV]; done) | (intro e he; rw [List.mem_singleton.1 he]; rfl))) Try.underlying56 ni56 ty61 rfl rfl (by simp only [List.length_map, List.length_range, List.length_cons, List.length_nil]; omega) rfl ?_; exact h) | (refine W.app 1 (.t (hs _ _ rfl)) rfl (.arr 0 (.t (hs _ _ rfl)) rfl (by first | (simp [AV.okc, shV]; done) | (intro e he; rw [List.mem_singleton.1 he]; rfl))) Try.underlying56 ni56 ty61 rfl rfl (by simp only [List.length_map, List.length_range, List.length_cons, List.length_nil]; omega) rfl ?_; exact h) | (refine W.app 2 (.t (hs _ _ rfl)) rfl (.arr 0 (.t (hs _ _ rfl)) rfl (by first | (simp [AV.okc, shV]; done) | (intro e he; rw [List.mem_singleton.1 he]; rfl))) Try.underlying56 ni56 ty61 rfl rfl (by simp only [List.length_map, List.length_range, List.length_cons, List.length_nil]; omega) rfl ?_; exact h) | (refine W.app 3 (.t (hs _ _ rfl)) rfl (.arr 0 (.t (hs _ _ rfl)) rfl (by first | (simp [AV.okc, shV]; done) | (intro e he; rw [List.mem_singleton.1 he]; rfl))) Try.underlying56 ni56 ty61 rfl rfl (by simp only [List.length_map, List.length_range, List.length_cons, List.length_nil]; omega) rfl ?_; exact h) | (refine W.app 0 (.t (hs _ _ rfl)) rfl (.arr 1 (.t (hs _ _ rfl)) rfl (by first | (simp [AV.okc, shV]; done) | (intro e he; rw [List.mem_singleton.1 he]; rfl))) Try.underlying56 ni56 ty61 rfl rfl (by simp only [List.length_map, List.length_range, List.length_cons, List.length_nil]; omega) rfl ?_; exact h) | (refine W.app 1 (.t (hs _ _ rfl)) rfl (.arr 1 (.t (hs _ _ rfl)) rfl (by first | (simp [AV.okc, shV]; done) | (intro e he; rw [List.mem_singleton.1 he]; rfl))) Try.underlying56 ni56 ty61 rfl rfl (by simp only [List.length_map, List.length_range, List.length_cons, List.length_nil]; omega) rfl ?_; exact h) | (refine W.app 2 (.t (hs _ _ rfl)) rfl (.arr 1 (.t (hs _ _ rfl)) rfl (by first | (simp [AV.okc, shV]; done) | (intro e he; rw [List.mem_singleton.1 he]; rfl))) Try.underlying56 ni56 ty61 rfl rfl (by simp only [List.length_map, List.length_range, List.length_cons, List.length_nil]; omega) rfl ?_; exact h) | (refine W.app 3 (.t (hs _ _ rfl)) rfl (.arr 1 (.t (hs _ _ rfl)) rfl (by first | (simp [AV.okc, shV]; done) | (intro e he; rw [List.mem_singleton.1 he]; rfl))) Try.underlying56 ni56 ty61 rfl rfl (by simp only [List.length_map, List.length_range, List.length_cons, List.length_nil]; omega) rfl ?_; exact h) | (refine W.app 0 (.t (hs _ _ rfl)) rfl (.arr 2 (.t (hs _ _ rfl)) rfl (by first | (simp [AV.okc, shV]; done) | (intro e he; rw [List.mem_singleton.1 he]; rfl))) Try.underlying56 ni56 ty61 rfl rfl (by simp only [List.length_map, List.length_range, List.length_cons, List.length_nil]; omega) rfl ?_; exact h) | (refine W.app 1 (.t (hs _ _ rfl)) rfl (.arr 2 (.t (hs _ _ rfl)) rfl (by first | (simp [AV.okc, shV]; done) | (intro e he; rw [List.mem_singleton.1 he]; rfl))) Try.underlying56 ni56 ty61 rfl rfl (by simp only [List.length_map, List.length_range, List.length_cons, List.length_nil]; omega) rfl ?_; exact h) | (refine W.app 2 (.t (hs _ _ rfl)) rfl (.arr 2 (.t (hs _ _ rfl)) rfl (by first | (simp [AV.okc, shV]; done) | (intro e he; rw [List.mem_singleton.1 he]; rfl))) Try.underlying56 ni56 ty61 rfl rfl (by simp only [List.length_map, List.length_range, List.length_cons, List.length_nil]; omega) rfl ?_; exact h) | (refine W.app 3 (.t (hs _ _ rfl)) rfl (.arr 2 (.t (hs _ _ rfl)) rfl (by first | (simp [AV.okc, shV]; done) | (intro e he; rw [List.mem_singleton.1 he]; rfl))) Try.underlying56 ni56 ty61 rfl rfl (by simp only [List.length_map, List.length_range, List.length_cons, List.length_nil]; omega) rfl ?_; exact h) | (refine W.app 0 (.t (hs _ _ rfl)) rfl (.arr 3 (.t (hs _ _ rfl)) rfl (by first | (simp [AV.okc, shV]; done) | (intro e he; rw [List.mem_singleton.1 he]; rfl))) Try.underlying56 ni56 ty61 rfl rfl (by simp only [List.length_map, List.length_range, List.length_cons, List.length_nil]; omega) rfl ?_; exact h) | (refine W.app 1 (.t (hs _ _ rfl)) rfl (.arr 3 (.t (hs _ _ rfl)) rfl (by first | (simp [AV.okc, shV]; done) | (intro e he; rw [List.mem_singleton.1 he]; rfl))) Try.underlying56 ni56 ty61 rfl rfl (by simp only [List.length_map, List.length_range, List.length_cons, List.length_nil]; omega) rfl ?_; exact h) | (refine W.app 2 (.t (hs _ _ rfl)) rfl (.arr 3 (.t (hs _ _ rfl)) rfl (by first | (simp [AV.okc, shV]; done) | (intro e he; rw [List.mem_singleton.1 he]; rfl))) Try.underlying56 ni56 ty61 rfl rfl (by simp only [List.length_map, List.length_range, List.length_cons, List.length_nil]; omega) rfl ?_; exact h) | (refine W.app 3 (.t (hs _ _ rfl)) rfl (.arr 3 (.t (hs _ _ rfl)) rfl (by first | (simp [AV.okc, shV]; done) | (intro e he; rw [List.mem_singleton.1 he]; rfl))) Try.underlying56 ni56 ty61 rfl rfl (by simp only [List.length_map, List.length_range, List.length_cons, List.length_nil]; omega) rfl ?_; exact h)
      refine DE.q (fun e c hk => (Ev.assign (.t rfl))) rfl (fun _ _ => rfl) (by first | exact .inr (fun _ _ => rfl) | exact .inl (by kernel_rfl)) ?_
      refine DE.nil (fun v59 e_ he_ => ?_)
      simp only [he_ 9 (by decide), cond_true, cond_false]
      refine W.blk_normal ?_
      refine W.then ?_
      refine W.region ?_
      refine W.q (Ev.move (.t rfl)) rfl ?_
      first | refine W.q (Ev.add (.t rfl) .k (fun _ => by omega)) rfl ?_ | refine W.q (Ev.addw (.t rfl) .k) rfl ?_
      refine W.q (Ev.assign (.t rfl)) rfl ?_
      refine W.nil ?_
      refine W.then ?_
      refine W.reach (D := [_]) (i + 1, v59) ⟨rfl, rfl, rfl, rfl, trivial⟩ (by rw [hsn] <;> exact List.Perm.swap _ _ []) ⟨by show i + 1 ≤ _; omega, by show _ - (i + 1) < _; omega⟩
    · subst hend
      refine W.seq ?_
      refine W.seq ?_
      refine W.region ?_
      refine W.q (Ev.move (.t rfl)) rfl ?_
      refine W.q (Ev.move (.t rfl)) rfl ?_
      first | refine W.q (Ev.lensl (.t rfl) Try.underlying28) rfl ?_ | refine W.q (Ev.lenar (i := 0) (.t rfl) rfl Try.underlying28) rfl ?_ | refine W.q (Ev.lenar (i := 1) (.t rfl) rfl Try.underlying28) rfl ?_ | refine W.q (Ev.lenar (i := 2) (.t rfl) rfl Try.underlying28) rfl ?_ | refine W.q (Ev.lenar (i := 3) (.t rfl) rfl Try.underlying28) rfl ?_
      refine W.q (Ev.lti (.t rfl) (.t rfl)) rfl ?_
      refine W.nil ?_
      refine W.then ?_
      refine W.is (t := 34) (g := true) (av' := .lit (.bool false)) rfl (congrArg (fun b => AV.lit (.bool b)) (by simp)) ?_
      refine W.condF (.t rfl) ?_
      refine W.exit ?_
      refine W.then_exit ?_
      refine W.then_exit ?_
      refine W.blk_hit ?_
      refine W.then ?_
      refine W.seq ?_
      refine W.region ?_
      refine W.freezeA (M1 := []) (M2 := []) (D := []) (v := v) (L' := [(6, true, .sl 6 ((List.range PS.length).map fun j => cav (Ch.mk 1 (PS.getD j []) (Nd.withP (f j) []))))]) (.refl _) ⟨⟨_, rfl, .one .hit⟩, trivial⟩ (FrzMs.refl _) ?_
      rw [hrow]
      refine W.q (Ev.move (.t rfl)) rfl ?_
      refine W.callp (hPlay) ⟨(by first | exact .k | exact .kn), (.t rfl), trivial⟩ rfl ?_
      refine W.q (Ev.move (.t rfl)) rfl ?_
      refine W.q (Ev.extract (.t rfl) rfl) rfl ?_
      refine W.q (Ev.extract (.t rfl) rfl) rfl ?_
      refine W.q (Ev.assign (.t rfl)) rfl ?_
      refine W.q (Ev.assign (.t rfl)) rfl ?_
      refine W.nil ?_
      refine W.then ?_
      refine W.seq ?_
      refine W.region ?_
      refine W.q (Ev.move (.t rfl)) rfl ?_
      refine W.call (WCount.c_Count ns (by omega)) ⟨(.t rfl), trivial⟩ (.refl _) rfl ?_
      rintro _ _ ⟨rfl, k67, rfl, hk1, hk2⟩
      refine W.q (Ev.move (.t rfl)) rfl ?_
      refine W.q (Ev.extract (.t rfl) rfl) rfl ?_
      refine W.q (Ev.extract (.t rfl) rfl) rfl ?_
      refine W.q (Ev.assign (.t rfl)) rfl ?_
      refine W.q (Ev.assign (.t rfl)) rfl ?_
      refine W.nil ?_
      refine W.then ?_
      refine W.seq ?_
      refine W.region ?_
      refine W.q (Ev.build ty35 st35 rfl (fun hg => ⟨_, _, _, rfl, .k, rfl, rfl, rfl, rfl⟩)) rfl ?_
      refine W.nils (t := 71) (g := true) (cs' := [.str [98], .sl 2 [], .str [], .sl 4 []]) rfl ⟨.inl rfl, .inr ⟨rfl, 2, rfl⟩, .inl rfl, .inr ⟨rfl, 4, rfl⟩, trivial⟩ ?_
      refine W.bs (es := [_]) Try.underlying25 ty35 ⟨rfl, (.t rfl), rfl, rfl, trivial⟩ rfl (by decide) rfl rfl ?_
      refine W.call (WCount.c_Count [(Nd.mk [98] [] [] [])] (by decide)) ⟨(.t rfl), trivial⟩ (.refl _) rfl ?_
      rintro _ _ ⟨rfl, k73, rfl, hk3, hk4⟩
      refine W.q (Ev.move (.t rfl)) rfl ?_
      refine W.q (Ev.extract (.t rfl) rfl) rfl ?_
      refine W.q (Ev.extract (.t rfl) rfl) rfl ?_
      refine W.q (Ev.assign (.t rfl)) rfl ?_
      refine W.q (Ev.assign (.t rfl)) rfl ?_
      refine W.nil ?_
      refine W.then ?_
      refine W.seq ?_
      refine W.region ?_
      refine W.q (Ev.move (.t rfl)) rfl ?_
      refine W.q (Ev.eqi (.t rfl) .k) rfl ?_
      refine W.q (Ev.move (.t rfl)) rfl ?_
      refine W.gyes rfl rfl ?_
      refine W.q (Ev.move (.t rfl)) rfl ?_
      refine W.gyes rfl rfl ?_
      refine W.q (Ev.eqi (.t rfl) .k) rfl ?_
      refine W.q (Ev.and (.t rfl) ⟨_, _, rfl, rfl, by first | (simp; done) | (intro hg_ hp_; simp [hp_]; done) | (simp <;> omega; done) | (simp_all; done) | grind⟩) rfl ?_
      refine W.q (Ev.move (.t rfl)) rfl ?_
      refine W.gyes rfl rfl ?_
      refine W.q (Ev.move (.t rfl)) rfl ?_
      refine W.gyes rfl rfl ?_
      refine W.q (Ev.move (.t rfl)) rfl ?_
      refine W.gyes rfl rfl ?_
      first | refine W.q (Ev.lensl (.t rfl) Try.underlying28) rfl ?_ | refine W.q (Ev.lenar (i := 0) (.t rfl) rfl Try.underlying28) rfl ?_ | refine W.q (Ev.lenar (i := 1) (.t rfl) rfl Try.underlying28) rfl ?_ | refine W.q (Ev.lenar (i := 2) (.t rfl) rfl Try.underlying28) rfl ?_ | refine W.q (Ev.lenar (i := 3) (.t rfl) rfl Try.underlying28) rfl ?_
      refine W.gyes rfl rfl ?_
      refine W.q (Ev.eqi (.t rfl) (.t rfl)) rfl ?_
      refine W.q (Ev.and (.t rfl) ⟨_, _, rfl, rfl, by first | (simp; done) | (intro hg_ hp_; simp [hp_]; done) | (simp <;> omega; done) | (simp_all; done) | grind⟩) rfl ?_
      refine W.q (Ev.move (.t rfl)) rfl ?_
      refine W.is (t := 88) (g := true) (av' := .bool true) rfl (congrArg AV.bool (by have h88 : ((Nd.cnts ns : Nat) : Int) = ((PS.map pav).length : Int) := (by omega); rw [h88]; simp [Nd.cnts, Nd.cnt])) ?_
      refine W.gyes rfl rfl ?_
      refine W.q (Ev.move (.t rfl)) rfl ?_
      refine W.gyes rfl rfl ?_
      refine W.q (Ev.move (.t rfl)) rfl ?_
      refine W.gyes rfl rfl ?_
      refine W.callp (WSameTop.c_same ns (by omega)) ⟨(.t rfl), (.t rfl), trivial⟩ rfl ?_
      refine W.q (Ev.and (.t rfl) ⟨_, _, rfl, rfl, by first | (simp; done) | (intro hg_ hp_; simp [hp_]; done) | (simp <;> omega; done) | (simp_all; done) | grind⟩) rfl ?_
      refine W.q (Ev.assign (.t rfl)) rfl ?_
      refine W.nil ?_
      refine W.then ?_
      refine W.ret ?_
      refine W.retn (M' := []) (D := _) (rs := [.tmp 2]) (avs := [_]) Try.results8 ⟨rfl, trivial⟩ rfl (.refl _) ?_
      exact ⟨rfl, rfl⟩

end LTopWalk

end Go.Proofs.Yteepllfbnoaiaaa
