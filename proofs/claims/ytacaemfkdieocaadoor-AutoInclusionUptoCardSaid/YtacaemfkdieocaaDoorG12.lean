/-
  Merged: LawT WLeast WStep WPairs WFinal WBoth.
-/
import Derived.Test.YtacaemfkdieocaaDoorG11
import Derived.Lib.LaidTab

section
set_option linter.unusedVariables false
set_option linter.unusedSimpArgs false
namespace Go.Vl
open Go.RowKit (Below)
def tabM (g : Nat) (T : TypeId) (zs : List Int) : ME := .box g T (zs.map fun z => AV.lit (.int .u64 z))
theorem repL_tab {w : World} {N : List Nat} : ∀ {zs : List Int} {row : List Value}, RepL w N (zs.map fun z => AV.lit (.int .u64 z)) row ↔ row = zs.map (Value.int .u64)
  | [], row => by simp [RepL]
  | z :: zs, row => by
    simp only [List.map_cons, RepL]
    constructor
    · rintro ⟨u, us, rfl, ⟨h1, h2, h3⟩, h4⟩
      rw [lit_cell h1 h3, repL_tab.1 h4]
    · rintro rfl
      exact ⟨_, _, rfl, ⟨rfl, rfl, by simp only [RepC]; rfl⟩, repL_tab.2 rfl⟩
theorem laid_tl {P : Program} {x : String × DataW Unit} {r : List (String × DataW Unit)} {w : World} (h : laidMet P (x :: r) w) : laidMet P r w := by
  obtain ⟨ps, hv, hnd, hrows⟩ := h
  obtain ⟨n, d⟩ := x
  obtain ⟨g, t, cs, fuel, p, q, _, _, _, _, hq, rfl⟩ := hv
  exact ⟨q, hq, List.Nodup.sublist (List.sublist_append_right _ _) hnd, fun b off hm => hrows b off (List.mem_append_right _ hm)⟩
theorem tab_block {P : Program} {W : World} {name : String} {zs : List Int} {rest : List (String × DataW Unit)} {g : Nat} {t e : TypeId} {n : Nat}
    (hg : P.globalNamed name = some g) (hty : (P.globals[g]?).map (·.type) = some t) (ht : P.underlying t = some (.array n e)) (he : P.underlying e = some (.int .u64)) (hce : P.cellsOf e = 1) (hct : P.cellsOf t = n)
    (hz : 0 < zs.length) (h : laidMet P ((name, Lib.tabData .u64 zs) :: rest) W) : ∃ T, W.heap[g]? = some (.cells (zs.map (Value.int .u64)).toArray T (0, 0)) := by
  have htab := Lib.tabIs_of_head hg hty ht he hce hct h
  obtain ⟨ps, ⟨g', t', cs, fuel, p, q, hg', ht', hvar, hd, _, hps⟩, hnd, hrows⟩ := h
  obtain rfl := Option.some.inj (hg.symm.trans hg')
  have hcs : cs = (zs.map (Value.int .u64)).toArray := Option.some.inj (hvar.symm.trans htab)
  have hsz : 0 < cs.size := by rw [hcs]; simpa using hz
  obtain ⟨⟨c, T, hb⟩, _⟩ := hrows g 0 (by
    rw [hps]
    refine List.mem_append_left _ (List.mem_append_left _ ?_)
    unfold MemPlace.row
    exact List.mem_map.2 ⟨0, List.mem_range.2 hsz, rfl⟩)
  refine ⟨T, ?_⟩
  unfold Lib.TabIs World.var? at htab
  rw [hg, Option.bind_some, hb] at htab
  rw [hb, Option.some.inj htab]
theorem rep_apart {W : World} {g : Nat} {T : TypeId} {fr : Nat × Nat} {zs : List Int} (hg : W.heap[g]? = some (.cells (zs.map (Value.int .u64)).toArray T fr)) {l : List Int} {v : Value} (h : Rep W [] (.sl 1 (l.map AV.int)) v) : Rep W [g] (.sl 1 (l.map AV.int)) v := by
  refine ⟨h.1, ?_⟩
  have h2 := h.2
  simp only [RepC] at h2 ⊢
  obtain ⟨a, cap, e, h3, h4, h5⟩ := h2
  refine ⟨a, cap, e, h3, h4, ?_⟩
  rcases h5 with h5 | ⟨b, off, cur, T', fr', ha, hb, hc, he⟩
  · exact .inl h5
  · cases l with
    | nil => exact .inl rfl
    | cons n l =>
      have hi := RepE.toInts he
      refine .inr ⟨b, off, cur, T', fr', ha, ?_, hc, RepE.ints hi⟩
      intro hbg
      have hbg : b = g := by simpa using hbg
      subst hbg
      rw [hg] at hc
      cases hc
      have hmem : (Value.int .i64 n) ∈ ((zs.map (Value.int .u64)).toArray.toList.drop off) := List.mem_of_mem_take (i := (n :: l).length) (by rw [hi]; simp)
      have := List.mem_of_mem_drop hmem
      simp at this
theorem law_callsT {P : Program} {f : FuncId} {avs : List AV} {W : World} {vs : List Value} {g : Nat} {T : TypeId} {zs : List Int} (hg : W.heap[g]? = some (.cells (zs.map (Value.int .u64)).toArray T (0, 0)))
    (h : FnC P f avs [tabM g T zs] (fun r M => r = .lit (.bool true) ∧ M = [tabM g T zs])) (ha : RepT W [g] avs vs) :
    Calls P f vs.toArray W fun e W' => e = .returned (.bool true) ∧ Below W.heap.size W W' := by
  have hm : MOk W [tabM g T zs] [] := ⟨by simp [bl, ME.blks, tabM], by simp, fun m hm => by
    rw [List.mem_singleton.1 hm]
    exact ⟨_, hg, repL_tab.2 (by simp)⟩⟩
  refine (h.2 W [] vs (by simp) hm (by simpa [bl, ME.blks, tabM] using ha)).mono ?_
  rintro e W' ⟨v, r, M', rfl, ⟨rfl, rfl⟩, hm', hr, hf⟩
  have hv := Rep.lit_iff.1 hr
  subst hv
  refine ⟨rfl, hf.os, hf.tape, hf.output, hf.size, fun k hk => ?_⟩
  by_cases hkg : k = g
  · subst hkg
    obtain ⟨cur, hc, hl⟩ := hm'.holds _ List.mem_cons_self
    rw [hc, hg]
    congr 2
    exact Array.toList_inj.1 (repL_tab.1 hl)
  · exact (hf.block k hk (by simp [bl, ME.blks, tabM, hkg])).1
end Go.Vl
end

section
set_option linter.unusedVariables false
set_option linter.unusedSimpArgs false
set_option maxRecDepth 100000
namespace Go.Proofs.YtacaemfkdieocaaDoor
open Go.Vl

namespace WLeast
theorem ty3 : Ty Tryd.prog 3 1 8 (.int .i64 0) := Ty.of (by kernel_rfl)
theorem ty4 : Ty Tryd.prog 4 1 1 (.bool false) := Ty.of (by kernel_rfl)
theorem ty22 : Ty Tryd.prog 22 1 24 (.slice none 0 0) := Ty.of (by kernel_rfl)
theorem ty25 : Ty Tryd.prog 25 1 24 (.slice none 0 0) := Ty.of (by kernel_rfl)
theorem ty26 : Ty Tryd.prog 26 1 24 (.slice none 0 0) := Ty.of (by kernel_rfl)
theorem ty28 : Ty Tryd.prog 28 2 48 (.agg #[.slice none 0 0, .slice none 0 0]) := Ty.of (by kernel_rfl)
theorem ty57 : Ty Tryd.prog 57 2 32 (.agg #[.int .i64 0, .slice none 0 0]) := Ty.of (by kernel_rfl)
theorem ag3 : IsAgg Tryd.prog 3 false := ⟨_, Tryd.underlying3, rfl⟩
theorem ag4 : IsAgg Tryd.prog 4 false := ⟨_, Tryd.underlying4, rfl⟩
theorem ag22 : IsAgg Tryd.prog 22 false := ⟨_, Tryd.underlying22, rfl⟩
theorem ag25 : IsAgg Tryd.prog 25 false := ⟨_, Tryd.underlying25, rfl⟩
theorem ag26 : IsAgg Tryd.prog 26 false := ⟨_, Tryd.underlying26, rfl⟩
theorem ag28 : IsAgg Tryd.prog 28 true := ⟨_, Tryd.underlying28, rfl⟩
theorem ag57 : IsAgg Tryd.prog 57 true := ⟨_, Tryd.underlying57, rfl⟩
theorem fa28_0 : FieldAt Tryd.prog 28 0 0 1 false := ⟨_, _, Tryd.underlying28, rfl, rfl, ty25.size, ag25, by decide⟩
theorem fa28_1 : FieldAt Tryd.prog 28 1 1 1 false := ⟨_, _, Tryd.underlying28, rfl, rfl, ty26.size, ag26, by decide⟩
theorem fa57_0 : FieldAt Tryd.prog 57 0 0 1 false := ⟨_, _, Tryd.underlying57, rfl, rfl, ty3.size, ag3, by decide⟩
theorem fa57_1 : FieldAt Tryd.prog 57 1 1 1 false := ⟨_, _, Tryd.underlying57, rfl, rfl, ty22.size, ag22, by decide⟩
theorem st57 : StructAt Tryd.prog 57 [(0, 1), (1, 1)] := ⟨_, Tryd.underlying57, rfl, ty3.size, rfl, ty22.size, trivial⟩
theorem ni22 : NotInt Tryd.prog 22 := .inl ⟨_, Tryd.underlying22⟩
theorem ni58 : NotInt Tryd.prog 58 := .inl ⟨_, Tryd.underlying58⟩
theorem c_Least (a : Au) (hs : a.Shape) (hn : a.next.length ≤ 40) : FnC Tryd.prog 14 [.agg [.sl 1 (a.next.map pav), .sl 1 (a.final.map AV.bool)]] [] (fun r M => M = [] ∧ ((∃ word, a.acc 0 word ∧ (∀ u, u.length < word.length → ¬ a.acc 0 u) ∧ word.length < 40 ∧ r = .tup [.sl 1 (word.map AV.int), .int 0]) ∨ ((∀ u, ¬ a.acc 0 u) ∧ r = .tup [.sl 1 [], .int 7]))) :=  by
  refine FnC.mk Tryd.func14 (by kernel_rfl) rfl Tryd.ntmps14 rfl (fun w0 F => ?_)
  have hpos := hs.pos
  have hfin := hs.fin
  have hnl : (a.next.map pav).length = a.next.length := List.length_map ..
  have hfl : (a.final.map AV.bool).length = a.final.length := List.length_map ..
  refine W.seq ?_
  refine W.region ?_
  refine W.box (.t rfl) rfl rfl ?_
  intro b1
  refine W.q (Ev.assign .k) rfl ?_
  refine W.q (Ev.assign .k) rfl ?_
  refine W.nil ?_
  refine W.then ?_
  refine W.seq ?_
  refine W.seq ?_
  refine W.region ?_
  (refine W.q (Ev.ldbn 0 (.t rfl) rfl ag28 ty28 rfl) rfl ?_)
  refine W.callp (WMay.c_May a hs hn) ⟨(.t rfl), trivial⟩ rfl ?_
  refine W.q (Ev.not (.t rfl)) rfl ?_
  refine W.nil ?_
  refine W.then ?_
  refine W.is (t := 11) (g := true) (av' := .lit (.bool false)) rfl (congrArg (fun b => AV.lit (.bool b)) (by rfl)) ?_
  refine W.condF (.t rfl) ?_
  refine W.skip ?_
  refine W.then ?_
  refine W.seq ?_
  refine W.region ?_
  (refine W.q (Ev.fab (.t rfl) fa28_0) rfl ?_)
  (refine W.q (Ev.ldb1 0 (.t rfl) rfl ag25 rfl) rfl ?_)
  (refine W.q (Ev.lensl (.t rfl) Tryd.underlying25) rfl ?_)
  refine W.mk (.t rfl) (.t rfl) Tryd.underlying26 ty4 rfl rfl rfl rfl rfl (by omega) rfl ?_
  intro v15
  refine W.q (Ev.assign (.t rfl)) rfl ?_
  refine W.nil ?_
  refine W.then ?_
  refine W.seq ?_
  refine W.region ?_
  refine W.q (Ev.move (.t rfl)) rfl ?_
  refine W.q (Ev.ata 0 (.t rfl) rfl .k Tryd.underlying26 ty4 (fun _ => by rw [List.length_replicate]; omega)) rfl ?_
  refine W.sta 0 0 0 (e := AV.bool false) (e' := AV.bool true) (.t rfl) .k rfl (by rw [List.getElem?_replicate, if_pos (by omega)]; rfl) rfl ty4 rfl rfl rfl rfl rfl rfl rfl ?_
  refine W.nil ?_
  refine W.then ?_
  refine W.seq ?_
  refine W.seq ?_
  refine W.region ?_
  refine W.q (Ev.build ty57 st57 rfl (fun hg => rfl)) rfl ?_
  refine W.nils (t := 18) (g := true) (cs' := [.int 0, .sl 1 []]) rfl ⟨.inl rfl, .inr ⟨rfl, 1, rfl⟩, trivial⟩ ?_
  refine W.bso (es := [_]) Tryd.underlying58 ty57 ⟨rfl, (.t rfl), rfl, rfl, trivial⟩ rfl (by decide) rfl rfl ?_
  intro v19
  refine W.q (Ev.assign (.t rfl)) rfl ?_
  refine W.nil ?_
  refine W.then ?_
  refine W.block ?_
  refine W.loop (D := []) (ι := (Nat → Bool) × List (Nat × List Int) × Value) (fun z => [(5, true, .lit z.2.2), (4, true, .lit v15), (1, true, .lit (.pointer (some ⟨b1, 0, none⟩)))]) (fun z => [.arr z.2.2 57 2 (z.2.1.map qav), .arr v15 4 1 (rowB a.next.length z.1), .box b1 28 [.sl 1 (a.next.map pav), .sl 1 (a.final.map AV.bool)]]) (fun z => (z.2.1 ≠ [] → ∃ Q1 Q2 D h, Q1 ++ Q2 = z.2.1 ∧ Au.Lst a z.1 Q1 Q2 D h 0) ∧ (z.2.1 = [] → ∀ u, ¬ a.acc 0 u) ∧ z.2.1.length + outs a.next.length z.1 ≤ a.next.length ∧ ∀ q ∈ z.2.1, q.2.length + 1 + outs a.next.length z.1 ≤ a.next.length) (fun z => 2 * outs a.next.length z.1 + z.2.1.length) ((fun s => decide (s = 0)), [(0, [])], v19) ⟨rfl, rfl, rfl, trivial⟩ (by dsimp only; rw [← row_seen, ← hnl]; exact .refl _) ⟨fun _ => ⟨[(0, [])], [], _, 0, rfl, Au.Lst.start hs⟩, (fun h => by cases h), by have := outs_first hpos; show 1 + outs a.next.length (fun s => decide (s = 0)) ≤ _; omega, fun q hq => by rw [List.mem_singleton.1 hq]; have := outs_first hpos; show 0 + 1 + outs a.next.length (fun s => decide (s = 0)) ≤ _; omega⟩ ?_
  rintro ⟨sn, Q, v⟩ ⟨hq0, hq1, hql, hw⟩
  dsimp only at hq0 hq1 hql hw ⊢
  rcases (show Q ≠ [] ∨ Q = [] from (Classical.em (Q = [])).symm) with hQne | hQe
  · have hQl : 0 < Q.length := List.length_pos_iff.2 hQne
    obtain ⟨m, hm12⟩ : ∃ m, Q.getD 0 (0, []) = m := ⟨_, rfl⟩
    have hgq := getD_mapG qav (0, []) Q 0 hQl
    have hmm := getD_memG (0, []) Q 0 hQl
    rw [hm12] at hgq hmm
    obtain ⟨m1, m2⟩ := m
    have hm2 := hw _ hmm
    dsimp only at hm2
    have hm1 : m1 < a.next.length := by obtain ⟨Q1, Q2, D, h, hQ, hL⟩ := hq0 hQne; exact (hL.ok (m1, m2) (by rw [hQ]; exact hmm)).1
    have hgf := getD_mapG AV.bool false a.final m1 (by omega)
    have hgr := getD_mapG pav [] a.next m1 hm1
    have hrow := hs.row m1 hm1
    refine W.seq ?_
    refine W.seq ?_
    refine W.region ?_
    refine W.q (Ev.move (.t rfl)) rfl ?_
    (refine W.q (Ev.lenar (i := 0) (.t rfl) rfl Tryd.underlying58) rfl ?_)
    refine W.q (Ev.gti (.t rfl) .k) rfl ?_
    refine W.nil ?_
    refine W.then ?_
    refine W.is (t := 22) (g := true) (av' := .lit (.bool true)) rfl (congrArg (fun b => AV.lit (.bool b)) (by rw [List.length_map]; exact decide_eq_true (by omega))) ?_
    refine W.condT (.t rfl) ?_
    refine W.skip ?_
    refine W.then ?_
    refine W.seq ?_
    refine W.block ?_
    refine W.seq ?_
    refine W.region ?_
    refine W.q (Ev.move (.t rfl)) rfl ?_
    refine W.q (Ev.ata 0 (.t rfl) rfl .k Tryd.underlying58 ty57 (fun _ => by rw [List.length_map]; omega)) rfl ?_
    refine W.q (Ev.ldan 0 0 (e := qav (m1, m2)) (.t rfl) rfl hgq rfl rfl ag57 ty57) rfl ?_
    refine W.alloc ty57 rfl rfl ?_
    intro b6
    (refine W.stb 0 (.t rfl) (.t rfl) rfl ty57 rfl rfl rfl ?_)
    refine W.nil ?_
    refine W.then ?_
    refine W.seq ?_
    refine W.seq ?_
    refine W.region ?_
    (refine W.q (Ev.fab (.t rfl) fa28_1) rfl ?_)
    (refine W.q (Ev.ldb1 3 (.t rfl) rfl ag26 rfl) rfl ?_)
    (refine W.q (Ev.fab (.t rfl) fa57_0) rfl ?_)
    (refine W.q (Ev.ldb1 0 (.t rfl) rfl ag3 rfl) rfl ?_)
    refine W.q (Ev.at (E := 4) (.t rfl) (.t rfl) Tryd.underlying26 ty4 (fun _ => ⟨by omega, hgf⟩) rfl rfl) rfl ?_
    (refine W.q (Ev.lde1 (.t rfl) ag4) rfl ?_)
    refine W.nil ?_
    refine W.then ?_
    refine W.cond (.t rfl) (fun hc_t33 => ?_) (fun hc_t33 => ?_)
    · have hf1 : a.fin (m1 : Int) = true := by rw [Au.fin, Int.toNat_natCast, decide_eq_true (by omega), Bool.true_and]; exact hc_t33
      obtain ⟨Q1, Q2, D, h, hQ, hL⟩ := hq0 hQne
      have hhd : Q1.getD 0 (0, []) = (m1, m2) := by rw [← hm12, ← hQ]; cases Q1 with | nil => exact absurd rfl hL.ne | cons q R => rfl
      have hfd := hL.found hs (by rw [hhd]; exact hf1)
      rw [hhd] at hfd
      refine W.seq ?_
      refine W.region ?_
      (refine W.q (Ev.fab (.t rfl) fa57_1) rfl ?_)
      (refine W.q (Ev.ldb1 0 (.t rfl) rfl ag22 rfl) rfl ?_)
      refine W.q (Ev.assign (.t rfl)) rfl ?_
      refine W.q (Ev.assign .k) rfl ?_
      refine W.nil ?_
      refine W.then ?_
      refine W.ret ?_
      refine W.then_ret ?_
      refine W.blk_ret ?_
      refine W.then_ret ?_
      refine W.then_ret ?_
      refine W.blk_ret ?_
      refine W.then_ret ?_
      refine W.retn (M' := []) (D := _) (rs := [.tmp 2, .tmp 3]) (avs := [_, _]) Tryd.results14 ⟨rfl, rfl, trivial⟩ rfl (.refl _) ?_
      exact ⟨rfl, .inl ⟨m2, hfd.1, hfd.2, by omega, rfl⟩⟩
    · have hf0 : a.fin (m1 : Int) = false := by rw [Au.fin, Int.toNat_natCast, decide_eq_true (by omega), Bool.true_and]; exact hc_t33
      refine W.skip ?_
      refine W.then ?_
      refine W.seq ?_
      refine W.region ?_
      (refine W.q (Ev.fab (.t rfl) fa28_0) rfl ?_)
      (refine W.q (Ev.ldb1 3 (.t rfl) rfl ag25 rfl) rfl ?_)
      (refine W.q (Ev.fab (.t rfl) fa57_0) rfl ?_)
      (refine W.q (Ev.ldb1 0 (.t rfl) rfl ag3 rfl) rfl ?_)
      refine W.q (Ev.at (E := 22) (.t rfl) (.t rfl) Tryd.underlying25 ty22 (fun _ => ⟨by omega, hgr⟩) rfl rfl) rfl ?_
      (refine W.q (Ev.lde1 (.t rfl) ag22) rfl ?_)
      (refine W.q (Ev.lensl (.t rfl) Tryd.underlying22) rfl ?_)
      refine W.is (t := 42) (g := true) (av' := .int 8) rfl (by rw [List.length_map, hrow]; rfl) ?_
      refine W.q (Ev.move .k) rfl ?_
      refine W.nil ?_
      refine W.then ?_
      refine W.block ?_
      obtain ⟨mu, hmu⟩ : ∃ mu, 2 * outs a.next.length sn + Q.length = mu := ⟨_, rfl⟩
      refine W.loop (D := []) (ι := Nat × (Nat → Bool) × List (Nat × List Int) × Value) (fun z => [(43, true, .int (z.1 : Int)), (42, true, .int 8), (41, true, .sl 1 ((a.next.getD m1 []).map AV.int)), (6, true, .lit (.pointer (some ⟨b6, 0, none⟩))), (5, true, .lit z.2.2.2), (4, true, .lit v15), (1, true, .lit (.pointer (some ⟨b1, 0, none⟩)))]) (fun z => [.arr z.2.2.2 57 2 (z.2.2.1.map qav), .arr v15 4 1 (rowB a.next.length z.2.1), .box b6 57 [.int (m1 : Int), .sl 1 (m2.map AV.int)], .box b1 28 [.sl 1 (a.next.map pav), .sl 1 (a.final.map AV.bool)]]) (fun z => (∃ Q1 Q2 D h, Q1 ++ Q2 = z.2.2.1 ∧ Q1.getD 0 (0, []) = (m1, m2) ∧ Au.Lst a z.2.1 Q1 Q2 D h z.1) ∧ z.1 ≤ 8 ∧ z.2.2.1.length + outs a.next.length z.2.1 ≤ a.next.length ∧ (∀ q ∈ z.2.2.1, q.2.length + 1 + outs a.next.length z.2.1 ≤ a.next.length) ∧ 2 * outs a.next.length z.2.1 + z.2.2.1.length ≤ mu) (fun z => 8 - z.1) (0, sn, Q, v) ⟨rfl, rfl, rfl, rfl, rfl, rfl, rfl, trivial⟩ (List.Perm.trans (List.Perm.swap _ _ _) (List.Perm.cons _ (List.Perm.swap _ _ _))) ⟨by obtain ⟨Q1, Q2, D, h, hQ, hL⟩ := hq0 hQne; exact ⟨Q1, Q2, D, h, hQ, by rw [← hm12, ← hQ]; (cases Q1 with | nil => exact absurd rfl hL.ne | cons q R => rfl), hL⟩, Nat.zero_le _, hql, hw, Nat.le_of_eq hmu⟩ ?_
      clear hgq hmm hm2 hm12 hq0 hq1 hql hw hQl hQne
      rintro ⟨d, sn, Q, v⟩ ⟨hI, hd, hql, hw, hmu2⟩
      dsimp only at hI hd hql hw hmu2 ⊢
      have hmQ : (m1, m2) ∈ Q := by obtain ⟨Q1, Q2, D, h, hQ, hhd, hL⟩ := hI; rw [← hQ, ← hhd]; exact List.mem_append_left _ (getD_memG _ _ _ (List.length_pos_iff.2 hL.ne))
      have hm3 := hw _ hmQ
      dsimp only at hm3
      have hQl : 0 < Q.length := List.length_pos_iff.2 (List.ne_nil_of_mem hmQ)
      rcases (show d < 8 ∨ d = 8 from by omega) with hd8 | hend
      · have hgx := getD_map (a.next.getD m1 []) d (by omega)
        have hgt : (a.next.getD m1 []).getD d 0 = a.to (m1 : Int) (d : Int) := by have := Au.to_get a (m1 : Int) (d : Int) (by rw [Int.toNat_natCast, Int.toNat_natCast]; omega); rwa [Int.toNat_natCast, Int.toNat_natCast] at this
        have hto := Au.to_range hs (i := (m1 : Int)) (c := (d : Int)) (by omega) (by omega) (by omega) (by omega)
        refine W.seq ?_
        refine W.region ?_
        refine W.q (Ev.lti (.t rfl) (.t rfl)) rfl ?_
        refine W.nil ?_
        refine W.then ?_
        refine W.seq ?_
        refine W.is (t := 44) (g := true) (av' := .lit (.bool true)) rfl (congrArg (fun b => AV.lit (.bool b)) (by exact decide_eq_true (by omega))) ?_
        refine W.condT (.t rfl) ?_
        refine W.skip ?_
        refine W.then ?_
        refine W.seq ?_
        refine W.block ?_
        refine W.seq ?_
        refine W.region ?_
        refine W.q (Ev.move (.t rfl)) rfl ?_
        refine W.q (Ev.at (E := 3) (.t rfl) (.t rfl) Tryd.underlying22 ty3 (fun _ => ⟨by omega, hgx⟩) rfl rfl) rfl ?_
        (refine W.q (Ev.lde1 (.t rfl) ag3) rfl ?_)
        refine W.is (t := 47) (g := true) (av' := .int (a.to (m1 : Int) (d : Int))) rfl (congrArg AV.int hgt) ?_
        refine W.q (Ev.assign (.t rfl)) rfl ?_
        refine W.q (Ev.assign (.t rfl)) rfl ?_
        refine W.nil ?_
        refine W.then ?_
        refine W.seq ?_
        refine W.region ?_
        refine W.q (Ev.move (.t rfl)) rfl ?_
        refine W.q (Ev.gei (.t rfl) .k) rfl ?_
        refine W.q (Ev.move (.t rfl)) rfl ?_
        refine W.qgT rfl rfl (Ev.move (.t rfl)) rfl ?_
        refine W.qgT rfl rfl (Ev.move (.t rfl)) rfl ?_
        refine W.qgT rfl rfl (Ev.ata 1 (.c rfl) rfl (.c rfl) Tryd.underlying26 ty4 (fun hg => ⟨of_decide_eq_true hg, by rw [rowB_len]; omega⟩)) rfl ?_
        refine W.qgT rfl rfl (Ev.lda1 1 (a.to (m1 : Int) (d : Int)).toNat 0 (.c rfl) rfl (rowB_at _ sn (a.to (m1 : Int) (d : Int)).toNat (by omega)) (by omega) rfl rfl rfl ag4) rfl ?_
        refine W.qgT rfl rfl (Ev.not (.c rfl)) rfl ?_
        refine W.q (Ev.and (.t rfl) ⟨_, _, rfl, rfl, by ((simp; done))⟩) rfl ?_
        refine W.nil ?_
        refine W.then ?_
        refine W.cond (.t rfl) (fun hc_t56 => ?_) (fun hc_t56 => ?_)
        · obtain ⟨ht1, ht2⟩ : 0 ≤ a.to (m1 : Int) (d : Int) ∧ sn (a.to (m1 : Int) (d : Int)).toNat = false := by simpa using hc_t56
          have hou := outs_set (n := a.next.length) (t := (a.to (m1 : Int) (d : Int)).toNat) (f := sn) (by omega) ht2
          refine W.seq ?_
          refine W.region ?_
          refine W.q (Ev.move (.t rfl)) rfl ?_
          refine W.q (Ev.move (.t rfl)) rfl ?_
          refine W.q (Ev.ata 1 (.t rfl) rfl (.t rfl) Tryd.underlying26 ty4 (fun _ => by rw [rowB_len]; omega)) rfl ?_
          refine W.sta 1 (a.to (m1 : Int) (d : Int)).toNat 0 (e := AV.bool (sn (a.to (m1 : Int) (d : Int)).toNat)) (e' := AV.bool true) (.t rfl) .k rfl (rowB_at _ sn (a.to (m1 : Int) (d : Int)).toNat (by omega)) (by omega) ty4 rfl rfl rfl rfl rfl rfl rfl ?_
          refine W.nil ?_
          refine W.then ?_
          refine W.region ?_
          refine W.q (Ev.move (.t rfl)) rfl ?_
          refine W.q (Ev.move (.t rfl)) rfl ?_
          (refine W.q (Ev.fab (.t rfl) fa57_1) rfl ?_)
          (refine W.q (Ev.ldb1 2 (.t rfl) rfl ag22 rfl) rfl ?_)
          refine W.call (WClone.c_CloneInt (m2.map AV.int) (okc_ints m2) (by rw [List.length_map]; omega)) ⟨(.t rfl), trivial⟩ (.refl _) rfl ?_
          rintro _ _ ⟨v64, rfl, rfl⟩
          refine W.q (Ev.move (.t rfl)) rfl ?_
          refine W.bs (es := [_]) Tryd.underlying22 ty3 ⟨rfl, (.t rfl), rfl, rfl, trivial⟩ rfl (by decide) rfl rfl ?_
          (refine W.app 0 (.t rfl) rfl (.sl (.t rfl) (by intro e he; rw [List.mem_singleton.1 he]; rfl)) Tryd.underlying22 ni22 ty3 rfl rfl (by rw [List.length_map]; simp only [List.length_cons, List.length_nil]; omega) rfl ?_)
          intro v67
          refine W.freezeA (M1 := [.arr v 57 2 (Q.map qav), .arr v15 4 1 (rowB a.next.length (fun k => if k = (a.to (m1 : Int) (d : Int)).toNat then true else sn k)), .box b6 57 [.int (m1 : Int), .sl 1 (m2.map AV.int)], .box b1 28 [.sl 1 (a.next.map pav), .sl 1 (a.final.map AV.bool)]]) (M2 := [.arr v 57 2 (Q.map qav), .arr v15 4 1 (rowB a.next.length (fun k => if k = (a.to (m1 : Int) (d : Int)).toNat then true else sn k)), .box b6 57 [.int (m1 : Int), .sl 1 (m2.map AV.int)], .box b1 28 [.sl 1 (a.next.map pav), .sl 1 (a.final.map AV.bool)]]) (D := []) (v := v67) (L' := [(67, true, .sl 1 ((m2 ++ [(d : Int)]).map AV.int))]) (by rw [List.map_append, ← rowB_set]; exact .refl _) ⟨⟨_, rfl, .one .hit⟩, trivial⟩ (FrzMs.refl _) ?_
          refine W.q (Ev.build ty57 st57 rfl (fun hg => ⟨_, _, _, rfl, (.t rfl), rfl, rfl, rfl, _, _, _, rfl, (.t rfl), rfl, rfl, rfl, rfl⟩)) rfl ?_
          refine W.bs (es := [_]) Tryd.underlying58 ty57 ⟨rfl, (.t rfl), rfl, rfl, trivial⟩ rfl (by decide) rfl rfl ?_
          (refine W.app 0 (.t rfl) rfl (.sl (.t rfl) (by intro e he; rw [List.mem_singleton.1 he]; rfl)) Tryd.underlying58 ni58 ty57 rfl rfl (by rw [List.length_map]; simp only [List.length_cons, List.length_nil]; omega) rfl ?_)
          intro v70
          refine W.q (Ev.assign (.t rfl)) rfl ?_
          refine W.nil ?_
          refine W.blk_normal ?_
          refine W.then ?_
          refine W.region ?_
          (refine W.q (Ev.add (.t rfl) .k (fun _ => by omega)) rfl ?_)
          refine W.q (Ev.move (.t rfl)) rfl ?_
          refine W.nil ?_
          refine W.then ?_
          refine W.reach (D := []) (d + 1, (fun k => if k = (a.to (m1 : Int) (d : Int)).toNat then true else sn k), Q ++ [((a.to (m1 : Int) (d : Int)).toNat, m2 ++ [(d : Int)])], _) ⟨rfl, rfl, rfl, rfl, rfl, rfl, rfl, trivial⟩ ?_ ⟨⟨?_, hd8, ?_, ?_, ?_⟩, by show 8 - (d + 1) < 8 - d; omega⟩
          · dsimp only; rw [List.map_append (f := qav), show List.map qav [((a.to (m1 : Int) (d : Int)).toNat, m2 ++ [(d : Int)])] = [AV.agg [.int (a.to (m1 : Int) (d : Int)), .sl 1 ((m2 ++ [(d : Int)]).map AV.int)]] from by show [qav _] = _; unfold qav; rw [Int.toNat_of_nonneg ht1]]; exact .refl _
          · obtain ⟨Q1, Q2, D, h, hQ, hhd, hL⟩ := hI
            have h9 := hL.push hd8 (t := (a.to (m1 : Int) (d : Int)).toNat) (by omega) (by rw [hhd]; show a.to (m1 : Int) (d : Int) = _; omega)
            rw [hhd] at h9
            exact ⟨Q1, _, D, h, by rw [← List.append_assoc, hQ], hhd, h9⟩
          · dsimp only; rw [List.length_append, List.length_singleton]; omega
          · dsimp only; intro q hq; rcases List.mem_append.1 hq with hq | hq
            · have := hw q hq; omega
            · rw [List.mem_singleton.1 hq]; show (m2 ++ [(d : Int)]).length + 1 + _ ≤ _; rw [List.length_append, List.length_singleton]; omega
          · dsimp only; rw [List.length_append, List.length_singleton]; omega
        · refine W.skip ?_
          refine W.blk_normal ?_
          refine W.then ?_
          refine W.region ?_
          (refine W.q (Ev.add (.t rfl) .k (fun _ => by omega)) rfl ?_)
          refine W.q (Ev.move (.t rfl)) rfl ?_
          refine W.nil ?_
          refine W.then ?_
          refine W.reach (D := []) (d + 1, sn, Q, v) ⟨rfl, rfl, rfl, rfl, rfl, rfl, rfl, trivial⟩ (.refl _) ⟨⟨?_, hd8, hql, hw, hmu2⟩, by show 8 - (d + 1) < 8 - d; omega⟩
          obtain ⟨Q1, Q2, D, h, hQ, hhd, hL⟩ := hI
          refine ⟨Q1, Q2, D, h, hQ, hhd, hL.skip fun t ht => ?_⟩
          rw [hhd] at ht
          replace ht : a.to (m1 : Int) (d : Int) = (t : Int) := ht
          cases hsn : sn t with
          | true => rfl
          | false => exact absurd hc_t56 (by rw [ht, Int.toNat_natCast, hsn]; simp)
      · subst hend
        refine W.arr_lit 0 rfl (by rw [List.length_map]; omega) ?_
        intro g off cq hv hc1 hc2
        rw [List.length_map] at hv hc1
        subst hv
        refine W.seq ?_
        refine W.region ?_
        refine W.q (Ev.lti (.t rfl) (.t rfl)) rfl ?_
        refine W.nil ?_
        refine W.then ?_
        refine W.seq ?_
        refine W.is (t := 44) (g := true) (av' := .lit (.bool false)) rfl (congrArg (fun b => AV.lit (.bool b)) (by rfl)) ?_
        refine W.condF (.t rfl) ?_
        refine W.exit ?_
        refine W.then_exit ?_
        refine W.then_exit ?_
        refine W.blk_hit ?_
        refine W.blk_normal ?_
        refine W.then ?_
        refine W.region ?_
        refine W.q (Ev.move (.t rfl)) rfl ?_
        refine W.q (Ev.slit (v := tailV g off 2 Q.length cq) (lo := some (.const (.int .i64 1))) (hi := none) (.t rfl) Tryd.underlying58 ty57 (Ov.k (g := true) (L := [])) rfl (fun _ => by omega) (by unfold tailV; rw [show (1 : Int).toNat = 1 from rfl]; split <;> simp [Addr.add_lit])) rfl ?_
        refine W.arr_tail 0 rfl (by rw [List.length_map]; omega) ?_
        refine W.q (Ev.assign (.t rfl)) rfl ?_
        refine W.nil ?_
        refine W.then ?_
        obtain ⟨Q1, Q2, D, h, hQ, hhd, hL⟩ := hI
        have hp := hL.pop hs (by rw [hhd]; exact hf0)
        have hQd : Q.drop 1 = Q1.drop 1 ++ Q2 := by rw [← hQ, List.drop_append_of_le_length (List.length_pos_iff.2 hL.ne)]
        refine W.reach (D := [.box b6 57 [.int (m1 : Int), .sl 1 (m2.map AV.int)]]) (sn, Q.drop 1, tailV g off 2 Q.length cq) ⟨rfl, rfl, rfl, trivial⟩ ?_ ⟨⟨?_, ?_, ?_, ?_⟩, ?_⟩
        · dsimp only; rw [List.map_drop]; exact List.Perm.cons _ (List.Perm.cons _ (List.Perm.swap _ _ _))
        · dsimp only; intro hne; rw [hQd] at hne; obtain ⟨P1, P2, D', h', e, hP⟩ := hp.2 hne; exact ⟨P1, P2, D', h', e.trans hQd.symm, hP⟩
        · dsimp only; intro he u; exact hp.1 (by rw [← hQd]; exact he) u
        · dsimp only; rw [List.length_drop]; omega
        · dsimp only; exact fun q hq => hw q (List.mem_of_mem_drop hq)
        · show 2 * outs a.next.length sn + (Q.drop 1).length < _; rw [List.length_drop]; omega
  · subst hQe
    refine W.seq ?_
    refine W.seq ?_
    refine W.region ?_
    refine W.q (Ev.move (.t rfl)) rfl ?_
    (refine W.q (Ev.lenar (i := 0) (.t rfl) rfl Tryd.underlying58) rfl ?_)
    refine W.q (Ev.gti (.t rfl) .k) rfl ?_
    refine W.nil ?_
    refine W.then ?_
    refine W.is (t := 22) (g := true) (av' := .lit (.bool false)) rfl (congrArg (fun b => AV.lit (.bool b)) (by rfl)) ?_
    refine W.condF (.t rfl) ?_
    refine W.exit ?_
    refine W.then_exit ?_
    refine W.then_exit ?_
    refine W.blk_hit ?_
    refine W.then ?_
    refine W.seq ?_
    refine W.region ?_
    refine W.q (Ev.assign .k) rfl ?_
    refine W.q (Ev.assign .k) rfl ?_
    refine W.nil ?_
    refine W.conv (t := 2) (av' := .sl 1 []) rfl (fun w N v h => by rw [Rep.lit_iff.1 h]; exact Rep.nil w N 1) ?_
    refine W.then ?_
    refine W.ret ?_
    refine W.retn (M' := []) (D := _) (rs := [.tmp 2, .tmp 3]) (avs := [_, _]) Tryd.results14 ⟨rfl, rfl, trivial⟩ rfl (.refl _) ?_
    exact ⟨rfl, .inr ⟨hq1 rfl, rfl⟩⟩

end WLeast

end Go.Proofs.YtacaemfkdieocaaDoor
end

section
set_option linter.unusedVariables false
set_option linter.unusedSimpArgs false
set_option maxRecDepth 100000
namespace Go.Proofs.YtacaemfkdieocaaDoor
open Go.Vl

namespace WStep
theorem ty3 : Ty Tryd.prog 3 1 8 (.int .i64 0) := Ty.of (by kernel_rfl)
theorem ty22 : Ty Tryd.prog 22 1 24 (.slice none 0 0) := Ty.of (by kernel_rfl)
theorem ty25 : Ty Tryd.prog 25 1 24 (.slice none 0 0) := Ty.of (by kernel_rfl)
theorem ty67 : Ty Tryd.prog 67 2 16 (.agg #[.int .i64 0, .int .i64 0]) := Ty.of (by kernel_rfl)
theorem ag3 : IsAgg Tryd.prog 3 false := ⟨_, Tryd.underlying3, rfl⟩
theorem ag22 : IsAgg Tryd.prog 22 false := ⟨_, Tryd.underlying22, rfl⟩
theorem ag25 : IsAgg Tryd.prog 25 false := ⟨_, Tryd.underlying25, rfl⟩
theorem ag67 : IsAgg Tryd.prog 67 true := ⟨_, Tryd.underlying67, rfl⟩
theorem fa28_0 : FieldAt Tryd.prog 28 0 0 1 false := ⟨_, _, Tryd.underlying28, rfl, rfl, ty25.size, ag25, by decide⟩
theorem fa67_0 : FieldAt Tryd.prog 67 0 0 1 false := ⟨_, _, Tryd.underlying67, rfl, rfl, ty3.size, ag3, by decide⟩
theorem fa67_1 : FieldAt Tryd.prog 67 1 1 1 false := ⟨_, _, Tryd.underlying67, rfl, rfl, ty3.size, ag3, by decide⟩
theorem st67 : StructAt Tryd.prog 67 [(0, 1), (1, 1)] := ⟨_, Tryd.underlying67, rfl, ty3.size, rfl, ty3.size, trivial⟩
theorem c_step (a b : Au) (hsa : a.Shape) (hsb : b.Shape) (ha : a.next.length ≤ 40) (hb : b.next.length ≤ 40) (p : Int × Int) (hp : Au.PIn a b p) (n : Nat) (hn : n < 8) : FnP Tryd.prog 33 [.agg [.int p.1, .int p.2], .agg [.sl 1 (a.next.map pav), .sl 1 (a.final.map AV.bool)], .agg [.sl 1 (b.next.map pav), .sl 1 (b.final.map AV.bool)], .int (n : Int)] (.agg [.int (Au.stp a b p n).1, .int (Au.stp a b p n).2]) :=  by
  refine FnC.mk Tryd.func33 (by kernel_rfl) rfl Tryd.ntmps33 rfl (fun w0 F => ?_)
  obtain ⟨p1, p2⟩ := p
  obtain ⟨hl1, hu1, hl2, hu2⟩ := hp
  dsimp only at hl1 hu1 hl2 hu2
  have hna : (a.next.map pav).length = a.next.length := List.length_map ..
  have hnb : (b.next.map pav).length = b.next.length := List.length_map ..
  refine W.seq ?_
  refine W.region ?_
  refine W.box (.t rfl) rfl rfl ?_
  intro b4
  refine W.box (.t rfl) rfl rfl ?_
  intro b5
  refine W.box (.t rfl) rfl rfl ?_
  intro b6
  refine W.alloc ty67 rfl rfl ?_
  intro b8
  refine W.nil ?_
  refine W.then ?_
  refine W.seq ?_
  refine W.region ?_
  refine W.q (Ev.build ty67 st67 rfl (fun hg => ⟨_, _, _, rfl, .k, rfl, rfl, rfl, _, _, _, rfl, .k, rfl, rfl, rfl, rfl⟩)) rfl ?_
  refine W.alloc ty67 rfl rfl ?_
  intro b9
  (refine W.stb 0 (.t rfl) (.t rfl) rfl ty67 rfl rfl rfl ?_)
  refine W.nil ?_
  refine W.then ?_
  refine W.seq ?_
  refine W.seq ?_
  refine W.region ?_
  (refine W.q (Ev.fab (.t rfl) fa67_0) rfl ?_)
  (refine W.q (Ev.ldb1 4 (.t rfl) rfl ag3 rfl) rfl ?_)
  refine W.q (Ev.gei (.t rfl) .k) rfl ?_
  refine W.nil ?_
  refine W.then ?_
  refine W.cond (.t rfl) (fun hc_t13 => ?_) (fun hc_t13 => ?_)
  · have h13 := of_decide_eq_true hc_t13
    have hga := getD_mapG pav [] a.next p1.toNat (by omega)
    have hwa := hsa.row p1.toNat (by omega)
    have hxa := getD_map (a.next.getD p1.toNat []) n (by omega)
    have hta := Au.to_get a p1 (n : Int) (by rw [Int.toNat_natCast]; omega)
    rw [Int.toNat_natCast] at hta
    have hea : (if (0 : Int) ≤ p1 then a.to p1 (n : Int) else -1) = (a.next.getD p1.toNat []).getD n 0 := by rw [if_pos h13]; exact hta.symm
    refine W.region ?_
    (refine W.q (Ev.fab (.t rfl) fa28_0) rfl ?_)
    (refine W.q (Ev.ldb1 3 (.t rfl) rfl ag25 rfl) rfl ?_)
    (refine W.q (Ev.fab (.t rfl) fa67_0) rfl ?_)
    (refine W.q (Ev.ldb1 4 (.t rfl) rfl ag3 rfl) rfl ?_)
    refine W.q (Ev.at (E := 22) (.t rfl) (.t rfl) Tryd.underlying25 ty22 (fun _ => ⟨by omega, hga⟩) rfl rfl) rfl ?_
    (refine W.q (Ev.lde1 (.t rfl) ag22) rfl ?_)
    refine W.q (Ev.move (.t rfl)) rfl ?_
    refine W.q (Ev.at (E := 3) (.t rfl) (.t rfl) Tryd.underlying22 ty3 (fun _ => ⟨by omega, hxa⟩) rfl rfl) rfl ?_
    (refine W.q (Ev.lde1 (.t rfl) ag3) rfl ?_)
    (refine W.q (Ev.fab (.t rfl) fa67_0) rfl ?_)
    (refine W.stb 0 (.t rfl) (.t rfl) rfl ty3 rfl rfl rfl ?_)
    refine W.nil ?_
    refine W.then ?_
    refine W.seq ?_
    refine W.seq ?_
    refine W.region ?_
    (refine W.q (Ev.fab (.t rfl) fa67_1) rfl ?_)
    (refine W.q (Ev.ldb1 4 (.t rfl) rfl ag3 rfl) rfl ?_)
    refine W.q (Ev.gei (.t rfl) .k) rfl ?_
    refine W.nil ?_
    refine W.then ?_
    refine W.cond (.t rfl) (fun hc_t26 => ?_) (fun hc_t26 => ?_)
    · have h26 := of_decide_eq_true hc_t26
      have hgb := getD_mapG pav [] b.next p2.toNat (by omega)
      have hwb := hsb.row p2.toNat (by omega)
      have hxb := getD_map (b.next.getD p2.toNat []) n (by omega)
      have htb := Au.to_get b p2 (n : Int) (by rw [Int.toNat_natCast]; omega)
      rw [Int.toNat_natCast] at htb
      have heb : (if (0 : Int) ≤ p2 then b.to p2 (n : Int) else -1) = (b.next.getD p2.toNat []).getD n 0 := by rw [if_pos h26]; exact htb.symm
      refine W.region ?_
      (refine W.q (Ev.fab (.t rfl) fa28_0) rfl ?_)
      (refine W.q (Ev.ldb1 2 (.t rfl) rfl ag25 rfl) rfl ?_)
      (refine W.q (Ev.fab (.t rfl) fa67_1) rfl ?_)
      (refine W.q (Ev.ldb1 4 (.t rfl) rfl ag3 rfl) rfl ?_)
      refine W.q (Ev.at (E := 22) (.t rfl) (.t rfl) Tryd.underlying25 ty22 (fun _ => ⟨by omega, hgb⟩) rfl rfl) rfl ?_
      (refine W.q (Ev.lde1 (.t rfl) ag22) rfl ?_)
      refine W.q (Ev.move (.t rfl)) rfl ?_
      refine W.q (Ev.at (E := 3) (.t rfl) (.t rfl) Tryd.underlying22 ty3 (fun _ => ⟨by omega, hxb⟩) rfl rfl) rfl ?_
      (refine W.q (Ev.lde1 (.t rfl) ag3) rfl ?_)
      (refine W.q (Ev.fab (.t rfl) fa67_1) rfl ?_)
      (refine W.stb 0 (.t rfl) (.t rfl) rfl ty3 rfl rfl rfl ?_)
      refine W.nil ?_
      refine W.then ?_
      refine W.seq ?_
      refine W.region ?_
      (refine W.q (Ev.ldbn 0 (.t rfl) rfl ag67 ty67 rfl) rfl ?_)
      (refine W.stb 1 (.t rfl) (.t rfl) rfl ty67 rfl rfl rfl ?_)
      refine W.nil ?_
      refine W.then ?_
      refine W.ret ?_
      refine W.retn (M' := []) (D := _) (rs := [.cell 8 67]) (avs := [_]) Tryd.results33 ⟨⟨_, _, _, rfl, by repeat (first | exact List.mem_cons_self | apply List.mem_cons_of_mem), rfl, by funext w; exact ag67.run w, by funext w; exact ty67.size w⟩, trivial⟩ rfl (.refl _) ?_
      refine ⟨?_, rfl⟩
      simp only [Au.stp, hea, heb]
      rfl
    · have h26 := of_decide_eq_false hc_t26
      have heb : (if (0 : Int) ≤ p2 then b.to p2 (n : Int) else -1) = -1 := if_neg h26
      refine W.skip ?_
      refine W.then ?_
      refine W.seq ?_
      refine W.region ?_
      (refine W.q (Ev.ldbn 0 (.t rfl) rfl ag67 ty67 rfl) rfl ?_)
      (refine W.stb 1 (.t rfl) (.t rfl) rfl ty67 rfl rfl rfl ?_)
      refine W.nil ?_
      refine W.then ?_
      refine W.ret ?_
      refine W.retn (M' := []) (D := _) (rs := [.cell 8 67]) (avs := [_]) Tryd.results33 ⟨⟨_, _, _, rfl, by repeat (first | exact List.mem_cons_self | apply List.mem_cons_of_mem), rfl, by funext w; exact ag67.run w, by funext w; exact ty67.size w⟩, trivial⟩ rfl (.refl _) ?_
      refine ⟨?_, rfl⟩
      simp only [Au.stp, hea, heb]
      rfl
  · have h13 := of_decide_eq_false hc_t13
    have hea : (if (0 : Int) ≤ p1 then a.to p1 (n : Int) else -1) = -1 := if_neg h13
    refine W.skip ?_
    refine W.then ?_
    refine W.seq ?_
    refine W.seq ?_
    refine W.region ?_
    (refine W.q (Ev.fab (.t rfl) fa67_1) rfl ?_)
    (refine W.q (Ev.ldb1 4 (.t rfl) rfl ag3 rfl) rfl ?_)
    refine W.q (Ev.gei (.t rfl) .k) rfl ?_
    refine W.nil ?_
    refine W.then ?_
    refine W.cond (.t rfl) (fun hc_t26 => ?_) (fun hc_t26 => ?_)
    · have h26 := of_decide_eq_true hc_t26
      have hgb := getD_mapG pav [] b.next p2.toNat (by omega)
      have hwb := hsb.row p2.toNat (by omega)
      have hxb := getD_map (b.next.getD p2.toNat []) n (by omega)
      have htb := Au.to_get b p2 (n : Int) (by rw [Int.toNat_natCast]; omega)
      rw [Int.toNat_natCast] at htb
      have heb : (if (0 : Int) ≤ p2 then b.to p2 (n : Int) else -1) = (b.next.getD p2.toNat []).getD n 0 := by rw [if_pos h26]; exact htb.symm
      refine W.region ?_
      (refine W.q (Ev.fab (.t rfl) fa28_0) rfl ?_)
      (refine W.q (Ev.ldb1 2 (.t rfl) rfl ag25 rfl) rfl ?_)
      (refine W.q (Ev.fab (.t rfl) fa67_1) rfl ?_)
      (refine W.q (Ev.ldb1 4 (.t rfl) rfl ag3 rfl) rfl ?_)
      refine W.q (Ev.at (E := 22) (.t rfl) (.t rfl) Tryd.underlying25 ty22 (fun _ => ⟨by omega, hgb⟩) rfl rfl) rfl ?_
      (refine W.q (Ev.lde1 (.t rfl) ag22) rfl ?_)
      refine W.q (Ev.move (.t rfl)) rfl ?_
      refine W.q (Ev.at (E := 3) (.t rfl) (.t rfl) Tryd.underlying22 ty3 (fun _ => ⟨by omega, hxb⟩) rfl rfl) rfl ?_
      (refine W.q (Ev.lde1 (.t rfl) ag3) rfl ?_)
      (refine W.q (Ev.fab (.t rfl) fa67_1) rfl ?_)
      (refine W.stb 0 (.t rfl) (.t rfl) rfl ty3 rfl rfl rfl ?_)
      refine W.nil ?_
      refine W.then ?_
      refine W.seq ?_
      refine W.region ?_
      (refine W.q (Ev.ldbn 0 (.t rfl) rfl ag67 ty67 rfl) rfl ?_)
      (refine W.stb 1 (.t rfl) (.t rfl) rfl ty67 rfl rfl rfl ?_)
      refine W.nil ?_
      refine W.then ?_
      refine W.ret ?_
      refine W.retn (M' := []) (D := _) (rs := [.cell 8 67]) (avs := [_]) Tryd.results33 ⟨⟨_, _, _, rfl, by repeat (first | exact List.mem_cons_self | apply List.mem_cons_of_mem), rfl, by funext w; exact ag67.run w, by funext w; exact ty67.size w⟩, trivial⟩ rfl (.refl _) ?_
      refine ⟨?_, rfl⟩
      simp only [Au.stp, hea, heb]
      rfl
    · have h26 := of_decide_eq_false hc_t26
      have heb : (if (0 : Int) ≤ p2 then b.to p2 (n : Int) else -1) = -1 := if_neg h26
      refine W.skip ?_
      refine W.then ?_
      refine W.seq ?_
      refine W.region ?_
      (refine W.q (Ev.ldbn 0 (.t rfl) rfl ag67 ty67 rfl) rfl ?_)
      (refine W.stb 1 (.t rfl) (.t rfl) rfl ty67 rfl rfl rfl ?_)
      refine W.nil ?_
      refine W.then ?_
      refine W.ret ?_
      refine W.retn (M' := []) (D := _) (rs := [.cell 8 67]) (avs := [_]) Tryd.results33 ⟨⟨_, _, _, rfl, by repeat (first | exact List.mem_cons_self | apply List.mem_cons_of_mem), rfl, by funext w; exact ag67.run w, by funext w; exact ty67.size w⟩, trivial⟩ rfl (.refl _) ?_
      refine ⟨?_, rfl⟩
      simp only [Au.stp, hea, heb]
      rfl

end WStep

end Go.Proofs.YtacaemfkdieocaaDoor
end

section
set_option linter.unusedVariables false
set_option linter.unusedSimpArgs false
set_option maxRecDepth 100000
namespace Go.Proofs.YtacaemfkdieocaaDoor
open Go.Vl

namespace WPairs
theorem ty3 : Ty Tryd.prog 3 1 8 (.int .i64 0) := Ty.of (by kernel_rfl)
theorem ty28 : Ty Tryd.prog 28 2 48 (.agg #[.slice none 0 0, .slice none 0 0]) := Ty.of (by kernel_rfl)
theorem ty67 : Ty Tryd.prog 67 2 16 (.agg #[.int .i64 0, .int .i64 0]) := Ty.of (by kernel_rfl)
theorem ty78 : Ty Tryd.prog 78 8 64 (.agg #[.int .i64 0, .int .i64 0, .int .i64 0, .int .i64 0, .int .i64 0, .int .i64 0, .int .i64 0, .int .i64 0]) := Ty.of (by kernel_rfl)
theorem ag28 : IsAgg Tryd.prog 28 true := ⟨_, Tryd.underlying28, rfl⟩
theorem ag67 : IsAgg Tryd.prog 67 true := ⟨_, Tryd.underlying67, rfl⟩
theorem ag78 : IsAgg Tryd.prog 78 true := ⟨_, Tryd.underlying78, rfl⟩
theorem st67 : StructAt Tryd.prog 67 [(0, 1), (1, 1)] := ⟨_, Tryd.underlying67, rfl, ty3.size, rfl, ty3.size, trivial⟩
theorem ni60 : NotInt Tryd.prog 60 := .inl ⟨_, Tryd.underlying60⟩
theorem ni61 : NotInt Tryd.prog 61 := .inl ⟨_, Tryd.underlying61⟩
theorem kp67 : KeyKind Tryd.prog 67 pv := KeyKind.pair Tryd.underlying67 (by kernel_rfl) (by decide) (by decide) ⟨rfl, rfl⟩ ⟨rfl, rfl⟩ Tryd.underlying3
theorem c_pairs (a b : Au) (hsa : a.Shape) (hsb : b.Shape) (ha : a.next.length ≤ 40) (hb : b.next.length ≤ 40) : FnC Tryd.prog 22 [.agg [.sl 1 (a.next.map pav), .sl 1 (a.final.map AV.bool)], .agg [.sl 1 (b.next.map pav), .sl 1 (b.final.map AV.bool)]] [] (fun r M => ∃ v1 v2 all T, Au.Prs a b all T ∧ all.length ≤ (a.next.length + 1) * (b.next.length + 1) ∧ r = .tup [.lit v1, .lit v2] ∧ M = [.arr v2 78 8 ((List.range all.length).map fun k => r8av (fun c => (T k c : Int))), .arr v1 67 2 (all.map prav)]) :=  by
  refine FnC.mk Tryd.func22 (by kernel_rfl) rfl Tryd.ntmps22 rfl (fun w0 F => ?_)
  refine W.seq ?_
  refine W.region ?_
  refine W.box (.t rfl) rfl rfl ?_
  intro b2
  refine W.box (.t rfl) rfl rfl ?_
  intro b3
  refine W.q (Ev.assign .k) rfl ?_
  refine W.q (Ev.assign .k) rfl ?_
  refine W.nil ?_
  refine W.then ?_
  refine W.seq ?_
  refine W.region ?_
  refine W.mkmap rfl ?_
  intro b15
  refine W.q (Ev.build ty67 st67 rfl (fun hg => rfl)) rfl ?_
  refine W.conv (t := 16) (av' := .lit (pv (0, 0))) rfl (fun _ _ _ h => Rep.pv h) ?_
  refine W.mapnew 0 (ks := []) (k := (0, 0)) (f := pv) (.t rfl) rfl (.t rfl) .k Tryd.underlying77 kp67 (by simp) _ (.inr rfl) ?_
  refine W.q (Ev.move (.t rfl)) rfl ?_
  refine W.q (Ev.assign (.t rfl)) rfl ?_
  refine W.nil ?_
  refine W.then ?_
  refine W.seq ?_
  refine W.region ?_
  refine W.q (Ev.build ty67 st67 rfl (fun hg => rfl)) rfl ?_
  refine W.bso (es := [_]) Tryd.underlying60 ty67 ⟨rfl, (.t rfl), rfl, rfl, trivial⟩ rfl (by decide) rfl rfl ?_
  intro v19
  refine W.q (Ev.assign (.t rfl)) rfl ?_
  refine W.nil ?_
  refine W.then ?_
  refine W.seq ?_
  refine W.region ?_
  refine W.q (Ev.assign .k) rfl ?_
  refine W.nil ?_
  refine W.then ?_
  refine W.seq ?_
  refine W.seq ?_
  refine W.region ?_
  refine W.q (Ev.assign .k) rfl ?_
  refine W.nil ?_
  refine W.then ?_
  refine W.block ?_
  refine W.own_nil 78 8 ?_
  refine W.loop (D := []) (ι := (Nat × List (Int × Int) × (Nat → Nat → Nat) × Value × Value)) (fun z => [(9, true, .int (z.1 : Int)), (8, true, .lit z.2.2.2.2), (7, true, .lit z.2.2.2.1), (6, true, .lit (.map (some b15))), (2, true, .lit (.pointer (some ⟨b2, 0, none⟩))), (3, true, .lit (.pointer (some ⟨b3, 0, none⟩)))]) (fun z => [.arr z.2.2.2.2 78 8 ((List.range z.1).map fun k => r8av (fun c => (z.2.2.1 k c : Int))), .arr z.2.2.2.1 67 2 (z.2.1.map prav), .obj b15 (mObj (z.2.1.map pv)), .box b3 28 [.sl 1 (b.next.map pav), .sl 1 (b.final.map AV.bool)], .box b2 28 [.sl 1 (a.next.map pav), .sl 1 (a.final.map AV.bool)]]) (fun z => Au.Prb a b z.2.1 z.2.2.1 z.1 0 ∧ z.1 ≤ z.2.1.length) (fun z => 1681 - z.1) (0, [(0, 0)], (fun _ _ => 0), v19, .slice none 0 0) ⟨rfl, rfl, rfl, rfl, rfl, rfl, trivial⟩ (.refl _) ⟨Au.Prb.start hsa hsb _, Nat.zero_le _⟩ ?_
  rintro ⟨i, all, T, v7, v8⟩ ⟨hR, hi⟩
  dsimp only at hR hi ⊢
  have hlen := hR.len40 ha hb
  have hml : (all.map prav).length = all.length := List.length_map ..
  rcases (show i < all.length ∨ i = all.length from by omega) with hlt | hend
  · skip
    refine W.seq ?_
    refine W.seq ?_
    refine W.region ?_
    refine W.q (Ev.move (.t rfl)) rfl ?_
    refine W.q (Ev.move (.t rfl)) rfl ?_
    (refine W.q (Ev.lenar (i := 1) (.t rfl) rfl Tryd.underlying60) rfl ?_)
    refine W.q (Ev.lti (.t rfl) (.t rfl)) rfl ?_
    refine W.nil ?_
    refine W.then ?_
    refine W.is (t := 23) (g := true) (av' := .lit (.bool true)) rfl (congrArg (fun b => AV.lit (.bool b)) (by exact decide_eq_true (by omega))) ?_
    refine W.condT (.t rfl) ?_
    refine W.skip ?_
    refine W.then ?_
    refine W.seq ?_
    refine W.block ?_
    refine W.seq ?_
    refine W.region ?_
    refine W.alloc ty78 rfl rfl ?_
    intro b10
    refine W.nil ?_
    refine W.then ?_
    refine W.seq ?_
    refine W.seq ?_
    refine W.region ?_
    refine W.q (Ev.move .k) rfl ?_
    refine W.nil ?_
    refine W.then ?_
    refine W.block ?_
    refine W.loop (D := []) (ι := (Nat × List (Int × Int) × (Nat → Nat → Nat) × Value)) (fun z => (26, true, .int (z.1 : Int)) :: (10, true, .lit (.pointer (some ⟨b10, 0, none⟩))) :: [(9, true, .int (i : Int)), (8, true, .lit v8), (7, true, .lit z.2.2.2), (6, true, .lit (.map (some b15))), (2, true, .lit (.pointer (some ⟨b2, 0, none⟩))), (3, true, .lit (.pointer (some ⟨b3, 0, none⟩)))]) (fun z => [.box b10 78 (Au.rowU z.2.2.1 i z.1), .arr v8 78 8 ((List.range i).map fun k => r8av (fun c => (z.2.2.1 k c : Int))), .arr z.2.2.2 67 2 (z.2.1.map prav), .obj b15 (mObj (z.2.1.map pv)), .box b3 28 [.sl 1 (b.next.map pav), .sl 1 (b.final.map AV.bool)], .box b2 28 [.sl 1 (a.next.map pav), .sl 1 (a.final.map AV.bool)]]) (fun z => Au.Prb a b z.2.1 z.2.2.1 i z.1 ∧ i < z.2.1.length ∧ z.1 ≤ 8) (fun z => 8 - z.1) (0, all, T, v7) ⟨rfl, rfl, rfl, rfl, rfl, rfl, rfl, rfl, trivial⟩ (.refl _) ⟨hR, hlt, Nat.zero_le _⟩ ?_
    clear hR hlt hlen hml hi
    clear all T v7
    rintro ⟨n, all, T, v7⟩ ⟨hR, hlt, hn⟩
    dsimp only at hR hlt hn ⊢
    have hlen := hR.len40 ha hb
    have hml : (all.map prav).length = all.length := List.length_map ..
    rcases (show n < 8 ∨ n = 8 from by omega) with hn8 | hn8
    · have hga := getD_mapG prav (0, 0) all i hlt
      have hcall := WStep.c_step a b hsa hsb ha hb (all.getD i (0, 0)) (hR.rng _ (getD_memG _ _ _ hlt)) n hn8
      generalize hse : Au.stp a b (all.getD i (0, 0)) n = s at hcall
      refine W.seq ?_
      refine W.region ?_
      refine W.q (Ev.lti (.t rfl) .k) rfl ?_
      refine W.nil ?_
      refine W.then ?_
      refine W.seq ?_
      refine W.is (t := 27) (g := true) (av' := .lit (.bool true)) rfl (congrArg (fun b => AV.lit (.bool b)) (by simp; omega)) ?_
      refine W.condT (.t rfl) ?_
      refine W.skip ?_
      refine W.then ?_
      refine W.seq ?_
      refine W.block ?_
      refine W.seq ?_
      refine W.region ?_
      refine W.q (Ev.move (.t rfl)) rfl ?_
      refine W.q (Ev.assign (.t rfl)) rfl ?_
      refine W.nil ?_
      refine W.then ?_
      refine W.seq ?_
      refine W.drawnM (fun ee c_ => [.box b10 78 (Au.rowU T i n), .arr v8 78 8 ((List.range i).map fun k => r8av (fun c => (T k c : Int))), .arr v7 67 2 (all.map prav), .obj b15 (mObj (all.map pv)), .box b3 28 [.sl 1 (b.next.map pav), .sl 1 (b.final.map AV.bool)], .box b2 28 [.sl 1 (a.next.map pav), .sl 1 (a.final.map AV.bool)]] ++ (bif ee 8 then [ME.box (c_ 8).1 67 (bif ee 9 then [.int s.1, .int s.2] else [.int 0, .int 0])] else [])) (c0 := ks0) (by kernel_rfl) (by kernel_rfl) rfl ?_
      refine DM.q (fun e c hk => (Ev.move (.t rfl))) rfl (fun _ _ => rfl) (fun c c_ h => by first | rfl) ?_
      refine DM.q (fun e c hk => (Ev.move (.t rfl))) rfl (fun _ _ => rfl) (fun c c_ h => by first | rfl) ?_
      (refine DM.q (fun e c hk => (Ev.ata 2 (.t rfl) rfl (.t rfl) Tryd.underlying60 ty67 (fun _ => by omega))) rfl (fun _ _ => rfl) (fun c c_ h => by first | rfl) ?_)
      refine DM.q (fun e c hk => Ev.ldan 2 i (e := prav (all.getD i (0, 0))) (.t rfl) rfl hga (by omega) rfl ag67 ty67) rfl (fun _ _ => rfl) (fun c c_ h => rfl) ?_
      (refine DM.q (fun e c hk => (Ev.ldbn 5 (.t rfl) rfl ag28 ty28 rfl)) rfl (fun _ _ => rfl) (fun c c_ h => by first | rfl) ?_)
      (refine DM.q (fun e c hk => (Ev.ldbn 4 (.t rfl) rfl ag28 ty28 rfl)) rfl (fun _ _ => rfl) (fun c c_ h => by first | rfl) ?_)
      refine DM.q (fun e c hk => (Ev.move (.t rfl))) rfl (fun _ _ => rfl) (fun c c_ h => by first | rfl) ?_
      refine DM.callp (fun c => hcall) (fun c => ⟨(.t rfl), (.t rfl), (.t rfl), (.t rfl), trivial⟩) rfl (fun _ _ => rfl) (fun c c_ h => by first | rfl) ?_
      refine DM.eff1 (av := fun c => .lit (.pointer (some ⟨(c 8).1, 0, none⟩))) rfl (fun c c_ h => by (simp only [h 8 (by (exact .inl rfl))])) (fun e c hk L_ hs Q h => ?_) ?_
      · have hk_8 := hk.not
        have hk_9 := hk.down 9 (by kernel_rfl)
        simp only [addE, upd, eq_self, List.nil_append, List.cons_append, List.append_nil, hk_8, hk_9, Nat.reduceAdd, Nat.reduceEqDiff, ↓reduceIte, cond_true, cond_false] at h ⊢
        exact W.alloc ty67 rfl rfl (fun b => h (b, undef) _ (by (exact (List.perm_middle (l₁ := [_, _, _, _, _, _])).symm)))
      refine DM.eff0 (fun e c hk L_ hs Q h => ?_) ?_
      · have hk_9 := hk.not
        have hk_8 := hk.up 8 (by kernel_rfl)
        simp only [addE, upd, eq_self, List.nil_append, List.cons_append, List.append_nil, hk_9, hk_8, Nat.reduceAdd, Nat.reduceEqDiff, ↓reduceIte, cond_true, cond_false] at h ⊢
        ((refine W.stb 6 (.t (hs _ _ rfl)) (.t (hs _ _ rfl)) rfl ty67 rfl rfl rfl ?_; exact h))
      refine DM.nil (fun cc e_ he_ => ?_)
      simp only [he_ 8 (by decide), he_ 9 (by decide), cond_true, cond_false]
      generalize (cc 8).1 = b12
      refine W.then ?_
      refine W.seq ?_
      refine W.region ?_
      refine W.q (Ev.move (.t rfl)) rfl ?_
      (refine W.q (Ev.ldbn 6 (.t rfl) rfl ag67 ty67 rfl) rfl ?_)
      refine W.conv (t := 39) (av' := .lit (pv s)) rfl (fun _ _ _ h => Rep.pv h) ?_
      (refine W.q (Ev.look2 3 (.t rfl) rfl (.t rfl) Tryd.underlying77 kp67 ty3) rfl ?_)
      refine W.q (Ev.move (.t rfl)) rfl ?_
      refine W.q (Ev.extract (.t rfl) rfl) rfl ?_
      refine W.q (Ev.extract (.t rfl) rfl) rfl ?_
      refine W.q (Ev.assign (.t rfl)) rfl ?_
      refine W.q (Ev.assign (.t rfl)) rfl ?_
      refine W.nil ?_
      refine W.then ?_
      refine W.seq ?_
      refine W.seq ?_
      refine W.region ?_
      refine W.q (Ev.move (.t rfl)) rfl ?_
      refine W.q (Ev.not (.t rfl)) rfl ?_
      refine W.nil ?_
      refine W.then ?_
      refine W.cond (.t rfl) (fun hc_t44 => ?_) (fun hc_t44 => ?_)
      · have hnew : s ∉ all := by
          rw [← place_none]
          cases hp : place s all with
          | none => rfl
          | some j => rw [hp] at hc_t44; simp at hc_t44
        refine W.seq ?_
        refine W.region ?_
        refine W.q (Ev.move (.t rfl)) rfl ?_
        (refine W.q (Ev.lenar (i := 2) (.t rfl) rfl Tryd.underlying60) rfl ?_)
        refine W.is (t := 46) (g := true) (av' := .int (all.length : Int)) rfl (by rw [List.length_map]) ?_
        refine W.q (Ev.assign (.t rfl)) rfl ?_
        refine W.nil ?_
        refine W.then ?_
        refine W.seq ?_
        refine W.region ?_
        refine W.q (Ev.move (.t rfl)) rfl ?_
        (refine W.q (Ev.ldbn 6 (.t rfl) rfl ag67 ty67 rfl) rfl ?_)
        refine W.q (Ev.move (.t rfl)) rfl ?_
        refine W.conv (t := 48) (av' := .lit (pv s)) rfl (fun _ _ _ h => Rep.pv h) ?_
        refine W.mapnew 3 (ks := all) (k := s) (f := pv) (.t rfl) rfl (.t rfl) (.t rfl) Tryd.underlying77 kp67 hnew _ (.inl rfl) ?_
        refine W.nil ?_
        refine W.then ?_
        refine W.region ?_
        refine W.q (Ev.move (.t rfl)) rfl ?_
        (refine W.q (Ev.ldbn 6 (.t rfl) rfl ag67 ty67 rfl) rfl ?_)
        refine W.bs (es := [_]) Tryd.underlying60 ty67 ⟨rfl, (.t rfl), rfl, rfl, trivial⟩ rfl (by decide) rfl rfl ?_
        (refine W.app 2 (.t rfl) rfl (.sl (.t rfl) (by intro e he; rw [List.mem_singleton.1 he]; rfl)) Tryd.underlying60 ni60 ty67 rfl rfl (by rw [List.length_map]; simp only [List.length_cons, List.length_nil]; omega) rfl ?_)
        intro v53
        refine W.q (Ev.assign (.t rfl)) rfl ?_
        refine W.nil ?_
        refine W.then ?_
        refine W.region ?_
        refine W.q (Ev.move (.t rfl)) rfl ?_
        refine W.q (Ev.move (.t rfl)) rfl ?_
        refine W.q (Ev.boxat (.t rfl) (.t rfl) Tryd.underlying78 ty3 (fun _ => ⟨by omega, by omega⟩)) rfl ?_
        refine W.stb 0 (o := n) (.t rfl) (.t rfl) rfl ty3 rfl rfl (Nat.ble_eq_true_of_le (by show n + 1 ≤ 8; omega)) ?_
        refine W.nil ?_
        refine W.blk_normal ?_
        refine W.then ?_
        refine W.region ?_
        (refine W.q (Ev.add (.t rfl) .k (fun _ => by omega)) rfl ?_)
        refine W.q (Ev.move (.t rfl)) rfl ?_
        refine W.nil ?_
        refine W.then ?_
        have h9 := Au.Prb.new hsa hsb (hR.entd all.length) hlt hn8 (Au.setT_at T i n all.length) (by rw [hse]; exact hnew)
        rw [hse] at h9
        refine W.reach (D := [.box b12 67 [.int s.1, .int s.2]]) (n + 1, all ++ [s], Au.setT T i n all.length, _) ⟨rfl, rfl, rfl, rfl, rfl, rfl, rfl, rfl, trivial⟩ ?_ ⟨⟨h9, by show i < (all ++ [s]).length; rw [List.length_append]; omega, hn8⟩, by show 8 - (n + 1) < 8 - n; omega⟩
        dsimp only
        rw [← Au.rowU_step T i n all.length hn8, ← prav_snoc, Au.rows_set]
        exact List.Perm.refl _
      · obtain ⟨j, hj⟩ : ∃ j, place s all = some j := by
          cases hp : place s all with
          | none => rw [hp] at hc_t44; simp at hc_t44
          | some j => exact ⟨j, rfl⟩
        have hjl := place_lt hj
        have hjg := place_some hj
        refine W.is (t := 13) (g := true) (av' := .int (j : Int)) rfl (by rw [hj]; rfl) ?_
        refine W.skip ?_
        refine W.then ?_
        refine W.region ?_
        refine W.q (Ev.move (.t rfl)) rfl ?_
        refine W.q (Ev.move (.t rfl)) rfl ?_
        refine W.q (Ev.boxat (.t rfl) (.t rfl) Tryd.underlying78 ty3 (fun _ => ⟨by omega, by omega⟩)) rfl ?_
        refine W.stb 0 (o := n) (.t rfl) (.t rfl) rfl ty3 rfl rfl (Nat.ble_eq_true_of_le (by show n + 1 ≤ 8; omega)) ?_
        refine W.nil ?_
        refine W.blk_normal ?_
        refine W.then ?_
        refine W.region ?_
        (refine W.q (Ev.add (.t rfl) .k (fun _ => by omega)) rfl ?_)
        refine W.q (Ev.move (.t rfl)) rfl ?_
        refine W.nil ?_
        refine W.then ?_
        have h9 := (hR.entd j).old (by rw [Au.setT_at]; exact hjl) (by rw [Au.setT_at, hse, List.getD_eq_getElem?_getD, hjg]; rfl)
        refine W.reach (D := [.box b12 67 [.int s.1, .int s.2]]) (n + 1, all, Au.setT T i n j, _) ⟨rfl, rfl, rfl, rfl, rfl, rfl, rfl, rfl, trivial⟩ ?_ ⟨⟨h9, hlt, hn8⟩, by show 8 - (n + 1) < 8 - n; omega⟩
        dsimp only
        rw [← Au.rowU_step T i n j hn8, Au.rows_set]
        exact List.Perm.refl _
    · subst hn8
      rw [Au.rowU_done]
      refine W.seq ?_
      refine W.region ?_
      refine W.q (Ev.lti (.t rfl) .k) rfl ?_
      refine W.nil ?_
      refine W.then ?_
      refine W.seq ?_
      refine W.is (t := 27) (g := true) (av' := .lit (.bool false)) rfl (congrArg (fun b => AV.lit (.bool b)) (by simp)) ?_
      refine W.condF (.t rfl) ?_
      refine W.exit ?_
      refine W.then_exit ?_
      refine W.then_exit ?_
      refine W.blk_hit ?_
      refine W.then ?_
      refine W.region ?_
      refine W.q (Ev.move (.t rfl)) rfl ?_
      (refine W.q (Ev.ldbn 0 (.t rfl) rfl ag78 ty78 rfl) rfl ?_)
      refine W.bs (es := [_]) Tryd.underlying61 ty78 ⟨rfl, (.t rfl), rfl, rfl, trivial⟩ rfl (by decide) rfl rfl ?_
      (refine W.app 1 (.t rfl) rfl (.sl (.t rfl) (by intro e he; rw [List.mem_singleton.1 he]; rfl)) Tryd.underlying61 ni61 ty78 rfl rfl (by rw [List.length_map, List.length_range]; simp only [List.length_cons, List.length_nil]; omega) rfl ?_)
      intro v61
      refine W.q (Ev.assign (.t rfl)) rfl ?_
      refine W.nil ?_
      refine W.blk_normal ?_
      refine W.then ?_
      refine W.region ?_
      refine W.q (Ev.move (.t rfl)) rfl ?_
      (refine W.q (Ev.add (.t rfl) .k (fun _ => by omega)) rfl ?_)
      refine W.q (Ev.assign (.t rfl)) rfl ?_
      refine W.nil ?_
      refine W.then ?_
      refine W.reach (D := [.box b10 78 (row8 fun d => (T i d : Int))]) (i + 1, all, T, v7, _) ⟨rfl, rfl, rfl, rfl, rfl, rfl, trivial⟩ ?_ ⟨⟨hR.row, hlt⟩, by show 1681 - (i + 1) < 1681 - i; omega⟩
      dsimp only
      rw [← rows_snoc i (fun k c => (T k c : Int))]
      exact (List.perm_append_comm (l₁ := [_]))
  · subst hend
    refine W.seq ?_
    refine W.seq ?_
    refine W.region ?_
    refine W.q (Ev.move (.t rfl)) rfl ?_
    refine W.q (Ev.move (.t rfl)) rfl ?_
    (refine W.q (Ev.lenar (i := 1) (.t rfl) rfl Tryd.underlying60) rfl ?_)
    refine W.q (Ev.lti (.t rfl) (.t rfl)) rfl ?_
    refine W.nil ?_
    refine W.then ?_
    refine W.is (t := 23) (g := true) (av' := .lit (.bool false)) rfl (congrArg (fun b => AV.lit (.bool b)) (by exact decide_eq_false (by omega))) ?_
    refine W.condF (.t rfl) ?_
    refine W.exit ?_
    refine W.then_exit ?_
    refine W.then_exit ?_
    refine W.blk_hit ?_
    refine W.then ?_
    refine W.seq ?_
    refine W.region ?_
    refine W.q (Ev.move (.t rfl)) rfl ?_
    refine W.q (Ev.move (.t rfl)) rfl ?_
    refine W.q (Ev.assign (.t rfl)) rfl ?_
    refine W.q (Ev.assign (.t rfl)) rfl ?_
    refine W.nil ?_
    refine W.then ?_
    refine W.ret ?_
    refine W.retn (M' := [_, _]) (D := _) (rs := [.tmp 4, .tmp 5]) (avs := [_, _]) Tryd.results22 ⟨rfl, rfl, trivial⟩ rfl (.refl _) ?_
    exact ⟨_, _, all, T, hR.done (Nat.le_refl _), hR.len, rfl, rfl⟩

end WPairs

end Go.Proofs.YtacaemfkdieocaaDoor
end

section
set_option linter.unusedVariables false
set_option linter.unusedSimpArgs false
set_option maxRecDepth 100000
namespace Go.Proofs.YtacaemfkdieocaaDoor
open Go.Vl

namespace WFinal
theorem ty4 : Ty Tryd.prog 4 1 1 (.bool false) := Ty.of (by kernel_rfl)
theorem ty26 : Ty Tryd.prog 26 1 24 (.slice none 0 0) := Ty.of (by kernel_rfl)
theorem ag4 : IsAgg Tryd.prog 4 false := ⟨_, Tryd.underlying4, rfl⟩
theorem ag26 : IsAgg Tryd.prog 26 false := ⟨_, Tryd.underlying26, rfl⟩
theorem fa28_1 : FieldAt Tryd.prog 28 1 1 1 false := ⟨_, _, Tryd.underlying28, rfl, rfl, ty26.size, ag26, by decide⟩
theorem c_final (a : Au) (hs : a.Shape) (hn : a.next.length ≤ 40) (i : Int) (hi : i < a.next.length) : FnP Tryd.prog 23 [.agg [.sl 1 (a.next.map pav), .sl 1 (a.final.map AV.bool)], .int i] (.bool (a.fin i)) :=  by
  refine FnC.mk Tryd.func23 (by kernel_rfl) rfl Tryd.ntmps23 rfl (fun w0 F => ?_)
  have hfl : (a.final.map AV.bool).length = a.final.length := List.length_map ..
  have hfin := hs.fin
  refine W.seq ?_
  refine W.region ?_
  refine W.box (.t rfl) rfl rfl ?_
  intro b2
  refine W.q (Ev.assign .k) rfl ?_
  refine W.nil ?_
  refine W.then ?_
  refine W.seq ?_
  refine W.region ?_
  refine W.q (Ev.move (.t rfl)) rfl ?_
  refine W.q (Ev.gei (.t rfl) .k) rfl ?_
  refine W.q (Ev.move (.t rfl)) rfl ?_
  (refine W.qgT rfl rfl (Ev.fab (.t rfl) fa28_1) rfl ?_)
  (refine W.qgT rfl rfl (Ev.ldb1 0 (.c rfl) rfl ag26 rfl) rfl ?_)
  refine W.qgT rfl rfl (Ev.move (.t rfl)) rfl ?_
  refine W.qgT rfl rfl (Ev.at (E := 4) (.c rfl) (.c rfl) Tryd.underlying26 ty4 (fun hg => ⟨by simp at hg; omega, getD_mapG AV.bool false a.final i.toNat (by simp at hg; omega)⟩) rfl rfl) rfl ?_
  (refine W.qgT rfl rfl (Ev.lde1 (.c rfl) ag4) rfl ?_)
  refine W.q (Ev.and (.t rfl) ⟨_, _, rfl, rfl, by ((simp; done))⟩) rfl ?_
  refine W.q (Ev.assign (.t rfl)) rfl ?_
  refine W.nil ?_
  refine W.then ?_
  refine W.ret ?_
  refine W.retn (M' := []) (D := _) (rs := [.tmp 4]) (avs := [_]) Tryd.results23 ⟨rfl, trivial⟩ rfl (.refl _) ?_
  exact ⟨rfl, rfl⟩

end WFinal

end Go.Proofs.YtacaemfkdieocaaDoor
end

section
set_option linter.unusedVariables false
set_option linter.unusedSimpArgs false
set_option maxRecDepth 100000
namespace Go.Proofs.YtacaemfkdieocaaDoor
open Go.Vl

namespace WBoth
theorem ty3 : Ty Tryd.prog 3 1 8 (.int .i64 0) := Ty.of (by kernel_rfl)
theorem ty4 : Ty Tryd.prog 4 1 1 (.bool false) := Ty.of (by kernel_rfl)
theorem ty26 : Ty Tryd.prog 26 1 24 (.slice none 0 0) := Ty.of (by kernel_rfl)
theorem ty28 : Ty Tryd.prog 28 2 48 (.agg #[.slice none 0 0, .slice none 0 0]) := Ty.of (by kernel_rfl)
theorem ty61 : Ty Tryd.prog 61 1 24 (.slice none 0 0) := Ty.of (by kernel_rfl)
theorem ty65 : Ty Tryd.prog 65 2 48 (.agg #[.slice none 0 0, .slice none 0 0]) := Ty.of (by kernel_rfl)
theorem ty67 : Ty Tryd.prog 67 2 16 (.agg #[.int .i64 0, .int .i64 0]) := Ty.of (by kernel_rfl)
theorem ag3 : IsAgg Tryd.prog 3 false := ⟨_, Tryd.underlying3, rfl⟩
theorem ag26 : IsAgg Tryd.prog 26 false := ⟨_, Tryd.underlying26, rfl⟩
theorem ag28 : IsAgg Tryd.prog 28 true := ⟨_, Tryd.underlying28, rfl⟩
theorem ag65 : IsAgg Tryd.prog 65 true := ⟨_, Tryd.underlying65, rfl⟩
theorem ag67 : IsAgg Tryd.prog 67 true := ⟨_, Tryd.underlying67, rfl⟩
theorem fa65_1 : FieldAt Tryd.prog 65 1 1 1 false := ⟨_, _, Tryd.underlying65, rfl, rfl, ty26.size, ag26, by decide⟩
theorem fa67_0 : FieldAt Tryd.prog 67 0 0 1 false := ⟨_, _, Tryd.underlying67, rfl, rfl, ty3.size, ag3, by decide⟩
theorem fa67_1 : FieldAt Tryd.prog 67 1 1 1 false := ⟨_, _, Tryd.underlying67, rfl, rfl, ty3.size, ag3, by decide⟩
theorem st65 : StructAt Tryd.prog 65 [(0, 1), (1, 1)] := ⟨_, Tryd.underlying65, rfl, ty61.size, rfl, ty26.size, trivial⟩
theorem ni26 : NotInt Tryd.prog 26 := .inl ⟨_, Tryd.underlying26⟩
theorem c_Both (a b : Au) (hsa : a.Shape) (hsb : b.Shape) (ha : a.next.length ≤ 40) (hb : b.next.length ≤ 40) (hab : (a.next.length + 1) * (b.next.length + 1) ≤ 100) (M0 : List ME) (hI : ∀ n : Int, -1 ≤ n → n < 100 → FnC Tryd.prog 61 [.int n] M0 (fun r M => r = .str (itoa n) ∧ M = M0)) (hsz : ∀ d : Au, d.Ord → (∀ u, d.acc 0 u ↔ a.acc 0 u ∧ b.acc 0 u) → d.next.length ≤ 40) : FnC Tryd.prog 15 [.agg [.sl 1 (a.next.map pav), .sl 1 (a.final.map AV.bool)], .agg [.sl 1 (b.next.map pav), .sl 1 (b.final.map AV.bool)]] M0 (fun r M => ∃ d : Au, d.Ord ∧ (∀ u, d.acc 0 u ↔ a.acc 0 u ∧ b.acc 0 u) ∧ r = .tup [.agg [.sl 1 (d.next.map pav), .sl 1 (d.final.map AV.bool)], .int 0] ∧ M = M0) :=  by
  refine FnC.mk Tryd.func15 (by kernel_rfl) rfl Tryd.ntmps15 rfl (fun w0 F => ?_)
  refine W.seq ?_
  refine W.region ?_
  refine W.box (.t rfl) rfl rfl ?_
  intro b2
  refine W.box (.t rfl) rfl rfl ?_
  intro b3
  refine W.alloc ty28 rfl rfl ?_
  intro b4
  refine W.q (Ev.assign .k) rfl ?_
  refine W.nil ?_
  refine W.then ?_
  refine W.seq ?_
  refine W.seq ?_
  refine W.region ?_
  (refine W.q (Ev.ldbn 2 (.t rfl) rfl ag28 ty28 rfl) rfl ?_)
  refine W.callp (WMay.c_May a hsa ha) ⟨(.t rfl), trivial⟩ rfl ?_
  refine W.q (Ev.not (.t rfl)) rfl ?_
  refine W.q (Ev.move (.t rfl)) rfl ?_
  refine W.gyes rfl rfl ?_
  (refine W.q (Ev.ldbn 1 (.t rfl) rfl ag28 ty28 rfl) rfl ?_)
  refine W.gyes rfl rfl ?_
  refine W.callp (WMay.c_May b hsb hb) ⟨(.t rfl), trivial⟩ rfl ?_
  refine W.gyes rfl rfl ?_
  refine W.q (Ev.not (.t rfl)) rfl ?_
  refine W.q (Ev.or (.t rfl) ⟨_, _, rfl, rfl, by ((simp; done))⟩) rfl ?_
  refine W.nil ?_
  refine W.then ?_
  refine W.is (t := 18) (g := true) (av' := .lit (.bool false)) rfl (congrArg (fun b => AV.lit (.bool b)) (by rfl)) ?_
  refine W.condF (.t rfl) ?_
  refine W.skip ?_
  refine W.then ?_
  refine W.seq ?_
  refine W.region ?_
  (refine W.q (Ev.ldbn 2 (.t rfl) rfl ag28 ty28 rfl) rfl ?_)
  (refine W.q (Ev.ldbn 1 (.t rfl) rfl ag28 ty28 rfl) rfl ?_)
  refine W.call (WPairs.c_pairs a b hsa hsb ha hb) ⟨(.t rfl), (.t rfl), trivial⟩ (.refl _) rfl ?_
  rintro _ _ ⟨v24, v25, all, T, hP, hl2, rfl, rfl⟩
  refine W.q (Ev.move (.t rfl)) rfl ?_
  refine W.q (Ev.extract (.t rfl) rfl) rfl ?_
  refine W.q (Ev.extract (.t rfl) rfl) rfl ?_
  refine W.q (Ev.assign (.t rfl)) rfl ?_
  refine W.q (Ev.assign (.t rfl)) rfl ?_
  refine W.nil ?_
  refine W.then ?_
  refine W.seq ?_
  refine W.region ?_
  refine W.freezeA (M1 := .arr v24 67 2 (all.map prav) :: .box b4 28 [.lit (.slice none 0 0), .lit (.slice none 0 0)] :: .box b3 28 [.sl 1 (b.next.map pav), .sl 1 (b.final.map AV.bool)] :: .box b2 28 [.sl 1 (a.next.map pav), .sl 1 (a.final.map AV.bool)] :: M0) (M2 := .arr v24 67 2 (all.map prav) :: .box b4 28 [.lit (.slice none 0 0), .lit (.slice none 0 0)] :: .box b3 28 [.sl 1 (b.next.map pav), .sl 1 (b.final.map AV.bool)] :: .box b2 28 [.sl 1 (a.next.map pav), .sl 1 (a.final.map AV.bool)] :: M0) (D := []) (v := v25) (L' := [(7, true, .sl 8 ((List.range all.length).map fun k => r8av (fun c => (T k c : Int))))]) (by rw [List.append_nil] <;> exact .refl _) ⟨⟨_, rfl, .one .hit⟩, trivial⟩ (FrzMs.refl _) ?_
  refine W.freezeA (M1 := .box b4 28 [.lit (.slice none 0 0), .lit (.slice none 0 0)] :: .box b3 28 [.sl 1 (b.next.map pav), .sl 1 (b.final.map AV.bool)] :: .box b2 28 [.sl 1 (a.next.map pav), .sl 1 (a.final.map AV.bool)] :: M0) (M2 := .box b4 28 [.lit (.slice none 0 0), .lit (.slice none 0 0)] :: .box b3 28 [.sl 1 (b.next.map pav), .sl 1 (b.final.map AV.bool)] :: .box b2 28 [.sl 1 (a.next.map pav), .sl 1 (a.final.map AV.bool)] :: M0) (D := []) (v := v24) (L' := [(6, true, .sl 2 (all.map prav))]) (by rw [List.append_nil] <;> exact .refl _) ⟨⟨_, rfl, .one .hit⟩, trivial⟩ (FrzMs.refl _) ?_
  refine W.q (Ev.move (.t rfl)) rfl ?_
  refine W.q (Ev.build ty65 st65 rfl (fun hg => ⟨_, _, _, rfl, (.t rfl), rfl, rfl, rfl, rfl⟩)) rfl ?_
  refine W.alloc ty65 rfl rfl ?_
  intro b8
  (refine W.stb 0 (.t rfl) (.t rfl) rfl ty65 rfl rfl rfl ?_)
  refine W.nil ?_
  refine W.then ?_
  refine W.seq ?_
  refine W.seq ?_
  refine W.region ?_
  refine W.q (Ev.move (.t rfl)) rfl ?_
  (refine W.q (Ev.lensl (.t rfl) Tryd.underlying60) rfl ?_)
  refine W.q (Ev.move .k) rfl ?_
  refine W.nil ?_
  refine W.then ?_
  refine W.block ?_
  refine W.own_nil 4 1 ?_
  refine W.loop (D := []) (ι := Nat × Value) (fun z => [(30, true, .int (z.1 : Int)), (29, true, .int ((all.map prav).length : Int)), (28, true, .sl 2 (all.map prav)), (8, true, .lit (.pointer (some ⟨b8, 0, none⟩))), (2, true, .lit (.pointer (some ⟨b2, 0, none⟩))), (3, true, .lit (.pointer (some ⟨b3, 0, none⟩))), (4, true, .lit (.pointer (some ⟨b4, 0, none⟩)))]) (fun z => .arr z.2 4 1 ((all.take z.1).map fun p => AV.bool (a.fin p.1 && b.fin p.2)) :: .box b8 65 [.sl 8 ((List.range all.length).map fun k => r8av (fun c => (T k c : Int))), .lit z.2] :: .box b4 28 [.lit (.slice none 0 0), .lit (.slice none 0 0)] :: .box b3 28 [.sl 1 (b.next.map pav), .sl 1 (b.final.map AV.bool)] :: .box b2 28 [.sl 1 (a.next.map pav), .sl 1 (a.final.map AV.bool)] :: M0) (fun z => z.1 ≤ all.length) (fun z => all.length - z.1) (0, .slice none 0 0) ⟨rfl, rfl, rfl, rfl, rfl, rfl, rfl, trivial⟩ (by rw [List.append_nil]; exact .refl _) (Nat.zero_le _) ?_
  rintro ⟨i, vf⟩ hi
  dsimp only at hi ⊢
  have hml : (all.map prav).length = all.length := List.length_map ..
  rcases (show i < all.length ∨ i = all.length from by omega) with hlt | hend
  · have hga := getD_mapG prav (0, 0) all i hlt
    have hpr := hP.rng _ (getD_memG (0, 0) all i hlt)
    have htk := take_getDG (0, 0) all i hlt
    generalize all.getD i (0, 0) = pp at hga hpr htk
    refine W.seq ?_
    refine W.region ?_
    refine W.q (Ev.lti (.t rfl) (.t rfl)) rfl ?_
    refine W.nil ?_
    refine W.then ?_
    refine W.seq ?_
    refine W.is (t := 31) (g := true) (av' := .lit (.bool true)) rfl (congrArg (fun b => AV.lit (.bool b)) (by exact decide_eq_true (by omega))) ?_
    refine W.condT (.t rfl) ?_
    refine W.skip ?_
    refine W.then ?_
    refine W.seq ?_
    refine W.block ?_
    refine W.seq ?_
    refine W.region ?_
    refine W.q (Ev.at (E := 67) (.t rfl) (.t rfl) Tryd.underlying60 ty67 (fun _ => ⟨by omega, hga⟩) rfl rfl) rfl ?_
    (refine W.q (Ev.lden (.t rfl) ag67 ty67 rfl rfl) rfl ?_)
    refine W.alloc ty67 rfl rfl ?_
    intro b10
    (refine W.stb 0 (.t rfl) (.t rfl) rfl ty67 rfl rfl rfl ?_)
    refine W.nil ?_
    refine W.perm (List.Perm.trans (List.Perm.swap _ _ _) (List.Perm.cons _ (List.Perm.swap _ _ _))) ?_
    refine W.then ?_
    refine W.drawnE (ι := Value) (fun ee c => (bif ee 13 then ME.arr c 4 1 (((all.take i).map fun p => AV.bool (a.fin p.1 && b.fin p.2)) ++ [.bool (a.fin pp.1 && b.fin pp.2)]) else ME.arr vf 4 1 ((all.take i).map fun p => AV.bool (a.fin p.1 && b.fin p.2))) :: ME.box b8 65 [.sl 8 ((List.range all.length).map fun k => r8av (fun c => (T k c : Int))), bif ee 15 then .lit c else .lit vf] :: .box b10 67 [.int pp.1, .int pp.2] :: .box b4 28 [.lit (.slice none 0 0), .lit (.slice none 0 0)] :: .box b3 28 [.sl 1 (b.next.map pav), .sl 1 (b.final.map AV.bool)] :: .box b2 28 [.sl 1 (a.next.map pav), .sl 1 (a.final.map AV.bool)] :: M0) 13 vf (by kernel_rfl) (by kernel_rfl) rfl ?_
    (refine DE.q (fun e c hk => (Ev.fab (.t rfl) fa65_1)) rfl (fun _ _ => rfl) (by (exact .inr (fun _ _ => rfl))) ?_)
    refine DE.q (av := fun _ => .lit vf) (fun e c hk => by have h := hk.down 15 (by kernel_rfl); simp only [h, cond_false]; exact Ev.ldb1 1 (.t rfl) rfl ag26 rfl) rfl (fun _ _ => rfl) (by (exact .inr (fun _ _ => rfl))) ?_
    (refine DE.q (fun e c hk => (Ev.ldbn 5 (.t rfl) rfl ag28 ty28 rfl)) rfl (fun _ _ => rfl) (by (exact .inr (fun _ _ => rfl))) ?_)
    (refine DE.q (fun e c hk => (Ev.fab (.t rfl) fa67_0)) rfl (fun _ _ => rfl) (by (exact .inr (fun _ _ => rfl))) ?_)
    (refine DE.q (fun e c hk => (Ev.ldb1 2 (.t rfl) rfl ag3 rfl)) rfl (fun _ _ => rfl) (by (exact .inr (fun _ _ => rfl))) ?_)
    refine DE.callp (fun c => WFinal.c_final a hsa ha pp.1 hpr.u1) (fun c => ⟨(.t rfl), (.t rfl), trivial⟩) rfl (fun _ _ => rfl) (by (exact .inr (fun _ _ => rfl))) ?_
    refine DE.q (fun e c hk => (Ev.move (.t rfl))) rfl (fun _ _ => rfl) (by (exact .inr (fun _ _ => rfl))) ?_
    (refine DE.qg rfl (fun _ => rfl) (fun e c hk => (Ev.ldbn 4 (.t rfl) rfl ag28 ty28 rfl)) rfl (fun _ _ => rfl) (by (exact .inr (fun _ _ => rfl))) ?_)
    (refine DE.qg rfl (fun _ => rfl) (fun e c hk => (Ev.fab (.t rfl) fa67_1)) rfl (fun _ _ => rfl) (by (exact .inr (fun _ _ => rfl))) ?_)
    (refine DE.qg rfl (fun _ => rfl) (fun e c hk => (Ev.ldb1 2 (.c rfl) rfl ag3 rfl)) rfl (fun _ _ => rfl) (by (exact .inr (fun _ _ => rfl))) ?_)
    refine DE.callg rfl (fun _ => rfl) (fun c hg => WFinal.c_final b hsb hb pp.2 hpr.u2) (fun c hg => ⟨(.i rfl (fun _ => hg)), (.i rfl (fun _ => hg)), trivial⟩) rfl (fun _ _ => rfl) (by (exact .inr (fun _ _ => rfl))) ?_
    refine DE.q (fun e c hk => (Ev.and (.t rfl) ⟨_, _, rfl, rfl, by ((simp; done))⟩)) rfl (fun _ _ => rfl) (by (exact .inr (fun _ _ => rfl))) ?_
    refine DE.bs (es := fun _ => [_]) Tryd.underlying26 ty4 (fun c => ⟨rfl, (.t rfl), rfl, rfl, trivial⟩) (fun _ => rfl) (by decide) rfl rfl (fun _ _ => rfl) (by (exact .inr (fun _ _ => rfl))) ?_
    refine DE.eff1 (av := fun v => .lit v) rfl rfl (fun e c hk L_ hs Q h => ?_) ?_
    · have hk_13 := hk.not
      have hk_15 := hk.down 15 (by kernel_rfl)
      simp only [addE, hk_13, hk_15, Nat.reduceAdd, Nat.reduceEqDiff, ↓reduceIte, cond_true, cond_false] at h ⊢
      ((refine W.app 0 (.t (hs _ _ rfl)) rfl (.sl (.t (hs _ _ rfl)) (by intro e he; rw [List.mem_singleton.1 he]; rfl)) Tryd.underlying26 ni26 ty4 rfl rfl (by rw [List.length_map, List.length_take]; simp only [List.length_cons, List.length_nil]; omega) rfl ?_; exact h))
    (refine DE.q (fun e c hk => (Ev.fab (.t rfl) fa65_1)) rfl (fun _ _ => rfl) (by (exact .inr (fun _ _ => rfl))) ?_)
    refine DE.eff0 (fun e c hk L_ hs Q h => ?_) ?_
    · have hk_15 := hk.not
      have hk_13 := hk.up 13 (by kernel_rfl)
      simp only [addE, hk_15, hk_13, Nat.reduceAdd, Nat.reduceEqDiff, ↓reduceIte, cond_true, cond_false] at h ⊢
      refine W.arr_inv 0 rfl (fun a9 n9 c9 h9 => ?_)
      subst h9
      refine W.stb 1 (.t (hs _ _ rfl)) (.t (hs _ _ rfl)) rfl ty26 rfl rfl rfl ?_
      exact h
    refine DE.nil (fun v47 e_ he_ => ?_)
    simp only [he_ 13 (by decide), he_ 15 (by decide), cond_true, cond_false]
    refine W.blk_normal ?_
    refine W.then ?_
    refine W.region ?_
    (refine W.q (Ev.add (.t rfl) .k (fun _ => by omega)) rfl ?_)
    refine W.q (Ev.move (.t rfl)) rfl ?_
    refine W.nil ?_
    refine W.then ?_
    refine W.reach (D := [.box b10 67 [.int pp.1, .int pp.2]]) (i + 1, v47) ⟨rfl, rfl, rfl, rfl, rfl, rfl, rfl, trivial⟩ ?_ ⟨hlt, by show all.length - (i + 1) < all.length - i; omega⟩
    dsimp only
    rw [htk, List.map_append]
    exact List.Perm.cons _ (List.Perm.cons _ (List.perm_append_comm (l₁ := [_])))
  · subst hend
    rw [List.take_length]
    have hw := hP.both (w := (Au.auOf all.length (fun k c => (T k c : Int)) (all.map fun p => a.fin p.1 && b.fin p.2))) (Au.auOf_len _ _ _) rfl (fun k hk => Au.auOf_row _ _ _ k hk) (fun k c hk hc => Au.auOf_to _ _ _ k c hk hc)
    refine W.seq ?_
    refine W.region ?_
    refine W.q (Ev.lti (.t rfl) (.t rfl)) rfl ?_
    refine W.nil ?_
    refine W.then ?_
    refine W.seq ?_
    refine W.is (t := 31) (g := true) (av' := .lit (.bool false)) rfl (congrArg (fun b => AV.lit (.bool b)) (by exact decide_eq_false (by omega))) ?_
    refine W.condF (.t rfl) ?_
    refine W.exit ?_
    refine W.then_exit ?_
    refine W.then_exit ?_
    refine W.blk_hit ?_
    refine W.then ?_
    refine W.seq ?_
    refine W.region ?_
    refine W.freezeA (M1 := .box b8 65 [.sl 8 ((List.range all.length).map fun k => r8av (fun c => (T k c : Int))), .lit vf] :: .box b4 28 [.lit (.slice none 0 0), .lit (.slice none 0 0)] :: .box b3 28 [.sl 1 (b.next.map pav), .sl 1 (b.final.map AV.bool)] :: .box b2 28 [.sl 1 (a.next.map pav), .sl 1 (a.final.map AV.bool)] :: M0) (M2 := .box b8 65 [.sl 8 ((List.range all.length).map fun k => r8av (fun c => (T k c : Int))), .sl 1 (all.map fun p => AV.bool (a.fin p.1 && b.fin p.2))] :: .box b4 28 [.lit (.slice none 0 0), .lit (.slice none 0 0)] :: .box b3 28 [.sl 1 (b.next.map pav), .sl 1 (b.final.map AV.bool)] :: .box b2 28 [.sl 1 (a.next.map pav), .sl 1 (a.final.map AV.bool)] :: M0) (D := []) (v := vf) (L' := []) (by rw [List.append_nil] <;> exact .refl _) trivial (⟨.box ⟨.refl _, .hit, trivial⟩, FrzMs.refl _⟩) ?_
    (refine W.q (Ev.ldbn 0 (.t rfl) rfl ag65 ty65 rfl) rfl ?_)
    refine W.is (t := 50) (g := true) (av' := .agg [.sl 8 ((Au.auOf all.length (fun k c => (T k c : Int)) (all.map fun p => a.fin p.1 && b.fin p.2)).next.map wrow), .sl 1 ((Au.auOf all.length (fun k c => (T k c : Int)) (all.map fun p => a.fin p.1 && b.fin p.2)).final.map AV.bool)]) rfl (by show AV.agg [.sl 8 ((List.range all.length).map fun k => r8av (fun c => (T k c : Int))), .sl 1 (all.map fun p => AV.bool (a.fin p.1 && b.fin p.2))] = _; rw [Au.auOf_wide]; show _ = AV.agg [_, .sl 1 ((all.map fun p => a.fin p.1 && b.fin p.2).map AV.bool)]; rw [List.map_map]; rfl) ?_
    refine W.call (WOrder.c_order (Au.auOf all.length (fun k c => (T k c : Int)) (all.map fun p => a.fin p.1 && b.fin p.2)) hw.1 (by rw [Au.auOf_len]; omega) M0 hI (fun d hd he => hsz d hd fun u => (he u).trans (hw.2 u))) ⟨(.t rfl), trivial⟩ (List.perm_append_comm (l₁ := [_, _, _, _])) rfl ?_
    rintro _ M' ⟨d, hd, hdu, rfl, hM'⟩
    rw [hM']
    refine W.perm (List.perm_append_comm (l₂ := [_, _, _, _])) ?_
    refine W.q (Ev.extract (.t rfl) rfl) rfl ?_
    refine W.q (Ev.extract (.t rfl) rfl) rfl ?_
    (refine W.stb 1 (.t rfl) (.t rfl) rfl ty28 rfl rfl rfl ?_)
    refine W.q (Ev.assign (.t rfl)) rfl ?_
    refine W.nil ?_
    refine W.then ?_
    refine W.ret ?_
    refine W.retn (M' := M0) (D := _) (rs := [.cell 4 28, .tmp 5]) (avs := [_, _]) Tryd.results15 ⟨⟨_, _, _, rfl, by repeat (first | exact List.mem_cons_self | apply List.mem_cons_of_mem), rfl, by funext w; exact ag28.run w, by funext w; exact ty28.size w⟩, rfl, trivial⟩ rfl (List.perm_append_comm (l₁ := [_, _, _, _])) ?_
    exact ⟨d, hd, fun u => (hdu u).trans (hw.2 u), rfl, rfl⟩

end WBoth

end Go.Proofs.YtacaemfkdieocaaDoor
end
