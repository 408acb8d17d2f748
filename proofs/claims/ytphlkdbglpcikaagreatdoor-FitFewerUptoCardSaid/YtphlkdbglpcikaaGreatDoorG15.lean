/-
  Merged: SchA LawT WLet WToGoF WCheap WSTree WFill.
-/
import Derived.Test.YtphlkdbglpcikaaGreatDoorG14
import Derived.Lib.LaidTab
set_option linter.unusedVariables false
set_option linter.unusedSimpArgs false
set_option maxRecDepth 100000

section
namespace Go.Vl
namespace Sch
open Fit
def pathW (A : Au) (sz : List Int) : Nat → List Int → Option Int
 | i, [] => if A.final.getD i false = true then some 0 else none
 | i, k :: w => if tr A i k.toNat < 0 then none else match pathW A sz (tr A i k.toNat).toNat w with
  | none => none
  | some f => some (f + sz.getD k.toNat 0)
theorem pathW_al {A : Au} {sz : List Int} : ∀ {w : List Int} {i : Nat} {f : Int}, pathW A sz i w = some f → Al A sz i [] 0 f
 | [], i, f, h => by
  simp only [pathW] at h
  split at h
  ·rename_i h1; rw [← Option.some.inj h]; exact .done h1
  ·cases h
 | k :: w, i, f, h => by
  simp only [pathW] at h
  split at h
  ·cases h
  ·split at h
   ·cases h
   ·rename_i g hg; rw [← Option.some.inj h]; exact .fill (by omega) (pathW_al hg)
def potB (A : Au) (sz : List Int) (o : List Int) : Bool := (List.range A.next.length).all fun i => (!(A.final.getD i false) || decide (o.getD i 0 ≤ 0)) && (List.range 8).all fun n => decide (tr A i n < 0) || decide (o.getD i 0 ≤ sz.getD n 0 + o.getD (tr A i n).toNat 0)
theorem potB_pot {A : Au} (hsh : A.Shape) {sz o : List Int} (h : potB A sz o = true) : Pot A sz o := by
 have h1 : ∀ i, i < A.next.length → (A.final.getD i false = true → o.getD i 0 ≤ 0) ∧ ∀ n, n < 8 → 0 ≤ tr A i n → o.getD i 0 ≤ sz.getD n 0 + o.getD (tr A i n).toNat 0 := fun i hi => by
  have h2 := List.all_eq_true.1 h i (List.mem_range.2 hi)
  simp only [Bool.and_eq_true, Bool.or_eq_true, Bool.not_eq_true', decide_eq_true_eq] at h2
  refine ⟨fun hf => ?_, fun n hn h0 => ?_⟩
  ·rcases h2.1 with h3 | h3
   ·rw [hf] at h3; cases h3
   ·exact h3
  ·have h3 := List.all_eq_true.1 h2.2 n (List.mem_range.2 hn)
   simp only [Bool.or_eq_true, decide_eq_true_eq] at h3
   omega
 refine ⟨fun i hf => ?_, fun i n h0 => ?_⟩
 ·rcases Nat.lt_or_ge i A.next.length with hi | hi
  ·exact (h1 i hi).1 hf
  ·have := hsh.fin
   rw [List.getD_eq_getElem?_getD, List.getElem?_eq_none (by omega)] at hf; cases hf
 ·have hi := tr_row h0
  exact (h1 i hi).2 n (tr_lt hsh hi h0).2 h0
def leastB (A : Au) (sz : List Int) (s : Int) : Bool := match toGo sz A, cheap sz A with
 | some o, some w => potB A sz o && decide (o.getD 0 0 = s - 1) && match pathW A sz 0 w with
  | some f => decide (f = s - 1)
  | none => false
 | _, _ => false
theorem leastB_out {A : Au} (hsh : A.Shape) {sz : List Int} {s : Int} (h : leastB A sz s = true) : ∃ o, Pot A sz o ∧ Al A sz 0 [] 0 (o.getD 0 0) ∧ o.getD 0 0 = s - 1 := by
 unfold leastB at h
 split at h
 ·rename_i o w ho hw
  simp only [Bool.and_eq_true, decide_eq_true_eq] at h
  refine ⟨o, potB_pot hsh h.1.1, ?_, h.1.2⟩
  have h2 := h.2
  split at h2
  ·rename_i f hf
   rw [h.1.2, ← of_decide_eq_true h2]; exact pathW_al hf
  ·cases h2
 ·cases h
def chkFit (m0 m1 m2 m3 m4 m5 : Nat) : Bool := match sizesOf (tyk m0 m1 m2 m3 m4 m5) (ask m0 m1 m2 m3 m4 m5) with
 | some a => (a.all fun n => decide (1 ≤ n) && decide (n ≤ 150)) && decide (a.getD 6 0 = 1) && (List.range 6).all fun t => leastB ((ask m0 m1 m2 m3 m4 m5).getD t dA) a (a.getD t 0)
 | none => false
theorem chkFit_fst (m0 m1 m2 m3 m4 m5 : Nat) : chkFit m0 m1 m2 m3 m4 m5 = chkFit m0 (fst_ m1) m2 (fst_ m3) m4 m5 := by
 unfold chkFit
 rw [ask_fst, sizesOf_congr (names7 m0 m1 m2 m3 m4 m5 m0 (fst_ m1) m2 (fst_ m3) m4 m5) rfl]
structure FitOk (ts : List Tp) (as_ : List Au) (a : List Int) : Prop where
 sizes : sizesOf ts as_ = some a
 pos : ∀ n ∈ a, 1 ≤ n ∧ n ≤ 150
 last : a.getD 6 0 = 1
 least : ∀ t, t < 6 → leastB (as_.getD t dA) a (a.getD t 0) = true
theorem chkFit_out {m0 m1 m2 m3 m4 m5 : Nat} (h : chkFit m0 m1 m2 m3 m4 m5 = true) : ∃ a, FitOk (tyk m0 m1 m2 m3 m4 m5) (ask m0 m1 m2 m3 m4 m5) a := by
 unfold chkFit at h
 split at h
 ·rename_i a ha
  simp only [Bool.and_eq_true, decide_eq_true_eq] at h
  refine ⟨a, ha, fun n hn => ?_, h.1.2, fun t ht => List.all_eq_true.1 h.2 t (List.mem_range.2 ht)⟩
  have := List.all_eq_true.1 h.1.1 n hn
  simpa using this
 ·cases h
theorem fit_0_11 : (([4, 6] : List Nat).all fun m1 => ([7, 6] : List Nat).all fun m2 => ([8, 10] : List Nat).all fun m3 => ([7, 6] : List Nat).all fun m5 => chkFit 0 m1 m2 m3 11 m5) = true := by kernel_rfl
theorem fit_0_6 : (([4, 6] : List Nat).all fun m1 => ([7, 6] : List Nat).all fun m2 => ([8, 10] : List Nat).all fun m3 => ([7, 6] : List Nat).all fun m5 => chkFit 0 m1 m2 m3 6 m5) = true := by kernel_rfl
theorem fit_0_2 : (([4, 6] : List Nat).all fun m1 => ([7, 6] : List Nat).all fun m2 => ([8, 10] : List Nat).all fun m3 => ([7, 6] : List Nat).all fun m5 => chkFit 0 m1 m2 m3 2 m5) = true := by kernel_rfl
theorem fit_1_11 : (([4, 6] : List Nat).all fun m1 => ([7, 6] : List Nat).all fun m2 => ([8, 10] : List Nat).all fun m3 => ([7, 6] : List Nat).all fun m5 => chkFit 1 m1 m2 m3 11 m5) = true := by kernel_rfl
theorem fit_1_6 : (([4, 6] : List Nat).all fun m1 => ([7, 6] : List Nat).all fun m2 => ([8, 10] : List Nat).all fun m3 => ([7, 6] : List Nat).all fun m5 => chkFit 1 m1 m2 m3 6 m5) = true := by kernel_rfl
theorem fit_1_2 : (([4, 6] : List Nat).all fun m1 => ([7, 6] : List Nat).all fun m2 => ([8, 10] : List Nat).all fun m3 => ([7, 6] : List Nat).all fun m5 => chkFit 1 m1 m2 m3 2 m5) = true := by kernel_rfl
theorem fit_2_11 : (([4, 6] : List Nat).all fun m1 => ([7, 6] : List Nat).all fun m2 => ([8, 10] : List Nat).all fun m3 => ([7, 6] : List Nat).all fun m5 => chkFit 2 m1 m2 m3 11 m5) = true := by kernel_rfl
theorem fit_2_6 : (([4, 6] : List Nat).all fun m1 => ([7, 6] : List Nat).all fun m2 => ([8, 10] : List Nat).all fun m3 => ([7, 6] : List Nat).all fun m5 => chkFit 2 m1 m2 m3 6 m5) = true := by kernel_rfl
theorem fit_2_2 : (([4, 6] : List Nat).all fun m1 => ([7, 6] : List Nat).all fun m2 => ([8, 10] : List Nat).all fun m3 => ([7, 6] : List Nat).all fun m5 => chkFit 2 m1 m2 m3 2 m5) = true := by kernel_rfl
theorem fit_3_11 : (([4, 6] : List Nat).all fun m1 => ([7, 6] : List Nat).all fun m2 => ([8, 10] : List Nat).all fun m3 => ([7, 6] : List Nat).all fun m5 => chkFit 3 m1 m2 m3 11 m5) = true := by kernel_rfl
theorem fit_3_6 : (([4, 6] : List Nat).all fun m1 => ([7, 6] : List Nat).all fun m2 => ([8, 10] : List Nat).all fun m3 => ([7, 6] : List Nat).all fun m5 => chkFit 3 m1 m2 m3 6 m5) = true := by kernel_rfl
theorem fit_3_2 : (([4, 6] : List Nat).all fun m1 => ([7, 6] : List Nat).all fun m2 => ([8, 10] : List Nat).all fun m3 => ([7, 6] : List Nat).all fun m5 => chkFit 3 m1 m2 m3 2 m5) = true := by kernel_rfl
theorem fit_all {k0 k1 k2 k3 k4 k5 : Nat} (h0 : k0 < 4) (h1 : k1 < 3) (h2' : k2 < 2) (h3 : k3 < 3) (h4 : k4 < 3) (h5 : k5 < 2) : chkFit (mk0 k0) (mk1 k1) (mk2 k2) (mk3 k3) (mk4 k4) (mk5 k5) = true := by
 rw [chkFit_fst]
 have a1 : fst_ (mk1 k1) ∈ ([4, 6] : List Nat) := by rcases (show k1 = 0 ∨ k1 = 1 ∨ k1 = 2 by omega) with rfl | rfl | rfl <;> decide
 have a2 : mk2 k2 ∈ ([7, 6] : List Nat) := by rcases (show k2 = 0 ∨ k2 = 1 by omega) with rfl | rfl <;> decide
 have a3 : fst_ (mk3 k3) ∈ ([8, 10] : List Nat) := by rcases (show k3 = 0 ∨ k3 = 1 ∨ k3 = 2 by omega) with rfl | rfl | rfl <;> decide
 have a5 : mk5 k5 ∈ ([7, 6] : List Nat) := by rcases (show k5 = 0 ∨ k5 = 1 by omega) with rfl | rfl <;> decide
 have h2 : ∀ {m0 m4 : Nat}, (([4, 6] : List Nat).all fun m1 => ([7, 6] : List Nat).all fun m2 => ([8, 10] : List Nat).all fun m3 => ([7, 6] : List Nat).all fun m5 => chkFit m0 m1 m2 m3 m4 m5) = true → chkFit m0 (fst_ (mk1 k1)) (mk2 k2) (fst_ (mk3 k3)) m4 (mk5 k5) = true := fun h => List.all_eq_true.1 (List.all_eq_true.1 (List.all_eq_true.1 (List.all_eq_true.1 h _ a1) _ a2) _ a3) _ a5
 rcases (show k0 = 0 ∨ k0 = 1 ∨ k0 = 2 ∨ k0 = 3 by omega) with rfl | rfl | rfl | rfl <;> rcases (show k4 = 0 ∨ k4 = 1 ∨ k4 = 2 by omega) with rfl | rfl | rfl
 ·exact h2 fit_0_11
 ·exact h2 fit_0_6
 ·exact h2 fit_0_2
 ·exact h2 fit_1_11
 ·exact h2 fit_1_6
 ·exact h2 fit_1_2
 ·exact h2 fit_2_11
 ·exact h2 fit_2_6
 ·exact h2 fit_2_2
 ·exact h2 fit_3_11
 ·exact h2 fit_3_6
 ·exact h2 fit_3_2
def ts2 : List Tp := [⟨[97], txt 13, []⟩, ⟨[98], txt 12, []⟩]
def as2 : List Au := [auk 13, auk 12]
theorem sizes2 : sizesOf ts2 as2 = some [2, 1] := by kernel_rfl
theorem least2 : leastB (auk 13) [2, 1] 2 = true := by kernel_rfl
theorem fine2_ : (fine (auk 13) 2 (-1) && fine (auk 12) 2 (-1)) = true := by kernel_rfl
theorem i2_ {i : Nat} (h : i < 2) : i = 0 ∨ i = 1 := by omega
theorem good2 : Good ts2 as2 := by
 have hf := fine2_
 simp only [Bool.and_eq_true] at hf
 refine ⟨by decide, by decide, rfl, ?_, ?_, ?_, ?_, ?_⟩
 ·intro i hi; rcases i2_ hi with rfl | rfl <;> exact ⟨Nat.le_of_ble_eq_true rfl, .inr rfl⟩
 ·intro i hi; rcases i2_ hi with rfl | rfl <;> rfl
 ·intro i hi; rcases i2_ hi with rfl | rfl <;> first | rfl | decide
 ·intro i hi; rcases i2_ hi with rfl | rfl <;> first | rfl | decide
 ·intro i hi
  rcases i2_ hi with rfl | rfl
  ·exact ⟨13, by decide, rfl, rfl, hf.1⟩
  ·exact ⟨12, by decide, rfl, rfl, hf.2⟩
theorem pos2 : ∀ n ∈ ([2, 1] : List Int), 1 ≤ n ∧ n ≤ 150 := by decide
theorem name7 (m0 m1 m2 m3 m4 m5 : Nat) : ∀ t, t < 6 → ((tyk m0 m1 m2 m3 m4 m5).getD t dT).name ≠ []
 | 0, _ => (by decide : bDoc ≠ []) | 1, _ => (by decide : bP ≠ []) | 2, _ => (by decide : bH1 ≠ []) | 3, _ => (by decide : bUl ≠ []) | 4, _ => (by decide : bLi ≠ []) | 5, _ => (by decide : bEm ≠ []) | _ + 6, h => by omega
def monoB (A : Au) : Bool := decide (A.next.length ≤ 4) && (List.range A.next.length).all fun i => (List.range 8).all fun n => decide (tr A i n < 0) || decide ((i : Int) ≤ tr A i n)
def simB (A : Au) : Bool := decide (A.next.length = 2) && A.final.getD 0 false && (List.range 8).all fun n => decide (tr A 1 n < 0) || decide (tr A 0 n = tr A 1 n)
theorem short_all : ((List.range 14).all fun k => monoB (auk k) || simB (auk k)) = true := by kernel_rfl
theorem wlen {k : Nat} (hk : k < 14) {sz : List Int} {ks : List Nat} {rows : List (List Ct)} (hsh : (auk k).Shape) (hz : Sz (auk k) sz) (ho : Opt (auk k) sz ks rows) {m : Nat} {w : List Nat} {fr : List Int} (h : Tr (auk k) sz ks rows m 0 0 w fr) (hks : ks.length ≤ 15) : w.length ≤ 30 := by
 have h1 := List.all_eq_true.1 short_all k (List.mem_range.2 hk)
 rw [Bool.or_eq_true] at h1
 generalize auk k = A at *
 rcases h1 with h1 | h1
 ·unfold monoB at h1
  rw [Bool.and_eq_true, decide_eq_true_eq] at h1
  have := h.short hsh hz (fun i n h0 => by
   have hi := tr_row h0
   have h2 := List.all_eq_true.1 (List.all_eq_true.1 h1.2 i (List.mem_range.2 hi)) n (List.mem_range.2 (tr_lt hsh hi h0).2)
   simp only [Bool.or_eq_true, decide_eq_true_eq] at h2
   omega) (Nat.zero_le _) hsh.pos
  omega
 ·unfold simB at h1
  rw [Bool.and_eq_true, Bool.and_eq_true, decide_eq_true_eq] at h1
  have := h.short2 hsh hz ho h1.1.1 h1.1.2 (fun n h0 => by
   have h2 := List.all_eq_true.1 h1.2 n (List.mem_range.2 (tr_lt hsh (by omega) h0).2)
   simp only [Bool.or_eq_true, decide_eq_true_eq] at h2
   omega) (Nat.zero_le _) hsh.pos
  omega
theorem wlenG {ts : List Tp} {as_ : List Au} (hg : Good ts as_) {sz : List Int} {t : Nat} (gf : Gf as_ sz t) (ht : t < ts.length) {ks : List Nat} {rows : List (List Ct)} (ho : Opt (as_.getD t dA) sz ks rows) {m : Nat} {w : List Nat} {fr : List Int} (h : Tr (as_.getD t dA) sz ks rows m 0 0 w fr) (hks : ks.length ≤ 15) : w.length ≤ 30 := by
 obtain ⟨q, hq, _, hA, _⟩ := hg.mach t ht
 have hsh := gf.sh
 have hz := gf.sz
 rw [hA] at hsh hz ho h
 exact wlen hq hsh hz ho h hks
theorem acc6 {k : Nat} (hk : k < 2) : Acc (auk (mk2 k)) 0 [6] := by
 rcases (show k = 0 ∨ k = 1 by omega) with rfl | rfl
 ·exact .step (k := 6) (by decide) (.done (by decide))
 ·exact .step (k := 6) (by decide) (.done (by decide))
def deadB (A : Au) : Bool := A.next.all fun r => decide (r.getD 3 (-1) < 0)
theorem dead_all : ([4, 5, 6].all fun k => deadB (auk k)) = true := by kernel_rfl
theorem dead3 {k : Nat} (hk : k < 3) : ∀ i, tr (auk (mk1 k)) i 3 < 0 := by
 have hm : mk1 k ∈ ([4, 5, 6] : List Nat) := by rcases (show k = 0 ∨ k = 1 ∨ k = 2 by omega) with rfl | rfl | rfl <;> decide
 have h := List.all_eq_true.1 dead_all _ hm
 intro i
 rcases Nat.lt_or_ge i (auk (mk1 k)).next.length with h1 | h1
 ·exact of_decide_eq_true (List.all_eq_true.1 h _ (getD_memG [] _ i h1))
 ·unfold tr; rw [List.getD_eq_getElem?_getD (l := (auk (mk1 k)).next), List.getElem?_eq_none h1]; simp
end Sch
end Go.Vl
end
section
namespace Go.Vl
open Go.RowKit (Below)
def tabM (g : Nat) (T : TypeId) (zs : List Int) : ME := .box g T (zs.map fun z => AV.lit (.int .u64 z))
theorem repL_tab {w : World} {N : List Nat} : ∀ {zs : List Int} {row : List Value}, RepL w N (zs.map fun z => AV.lit (.int .u64 z)) row ↔ row = zs.map (Value.int .u64)
 | [], row => by simp [RepL]
 | z :: zs, row => by
  simp only [List.map_cons, RepL]
  constructor
  ·rintro ⟨u, us, rfl, ⟨h1, h2, h3⟩, h4⟩
   rw [lit_cell h1 h3, repL_tab.1 h4]
  ·rintro rfl
   exact ⟨_, _, rfl, ⟨rfl, rfl, by simp only [RepC]; rfl⟩, repL_tab.2 rfl⟩
theorem laid_tl {P : Program} {x : String × DataW Unit} {r : List (String × DataW Unit)} {w : World} (h : laidMet P (x :: r) w) : laidMet P r w := by
 obtain ⟨ps, hv, hnd, hrows⟩ := h
 obtain ⟨n, d⟩ := x
 obtain ⟨g, t, cs, fuel, p, q, _, _, _, _, hq, rfl⟩ := hv
 exact ⟨q, hq, List.Nodup.sublist (List.sublist_append_right _ _) hnd, fun b off hm => hrows b off (List.mem_append_right _ hm)⟩
theorem tab_block {P : Program} {W : World} {name : String} {zs : List Int} {rest : List (String × DataW Unit)} {g : Nat} {t e : TypeId} {n : Nat}
 (hg : P.globalNamed name = some g) (hty : (P.globals[g]?).map (·.type) = some t) (ht : P.underlying t = some (.array n e)) (he : P.underlying e = some (.int .u64)) (hce : P.cellsOf e = 1) (hct : P.cellsOf t = n)
 (hz : 0 < zs.length) (h : laidMet P ((name, Lib.tabData .u64 zs) :: rest) W) : ∃ T, W.heap[g]? = some (.cells (zs.map (Value.int .u64)).toArray T (0, 0)) := by
 have htab := Lib.tabIs_of_head hg hty ht he hce hct h
 obtain ⟨ps, ⟨g', t', cs, fuel, p, q, hg', ht', hvar, hd, _, hps⟩, hnd, hrows⟩ := h
 obtain rfl := Option.some.inj (hg.symm.trans hg')
 have hcs : cs = (zs.map (Value.int .u64)).toArray := Option.some.inj (hvar.symm.trans htab)
 have hsz : 0 < cs.size := by rw [hcs]; simpa using hz
 obtain ⟨⟨c, T, hb⟩, _⟩ := hrows g 0 (by
  rw [hps]
  refine List.mem_append_left _ (List.mem_append_left _ ?_)
  unfold MemPlace.row
  exact List.mem_map.2 ⟨0, List.mem_range.2 hsz, rfl⟩)
 refine ⟨T, ?_⟩
 unfold Lib.TabIs World.var? at htab
 rw [hg, Option.bind_some, hb] at htab
 rw [hb, Option.some.inj htab]
theorem rep_apart {W : World} {g : Nat} {T : TypeId} {fr : Nat × Nat} {zs : List Int} (hg : W.heap[g]? = some (.cells (zs.map (Value.int .u64)).toArray T fr)) {l : List Int} {v : Value} (h : Rep W [] (.sl 1 (l.map AV.int)) v) : Rep W [g] (.sl 1 (l.map AV.int)) v := by
 refine ⟨h.1, ?_⟩
 have h2 := h.2
 simp only [RepC] at h2 ⊢
 obtain ⟨a, cap, e, h3, h4, h5⟩ := h2
 refine ⟨a, cap, e, h3, h4, ?_⟩
 rcases h5 with h5 | ⟨b, off, cur, T', fr', ha, hb, hc, he⟩
 ·exact .inl h5
 ·cases l with
  | nil => exact .inl rfl
  | cons n l =>
   have hi := RepE.toInts he
   refine .inr ⟨b, off, cur, T', fr', ha, ?_, hc, RepE.ints hi⟩
   intro hbg
   have hbg : b = g := by simpa using hbg
   subst hbg
   rw [hg] at hc
   cases hc
   have hmem : (Value.int .i64 n) ∈ ((zs.map (Value.int .u64)).toArray.toList.drop off) := List.mem_of_mem_take (i := (n :: l).length) (by rw [hi]; simp)
   have := List.mem_of_mem_drop hmem
   simp at this
theorem law_callsT {P : Program} {f : FuncId} {avs : List AV} {W : World} {vs : List Value} {g : Nat} {T : TypeId} {zs : List Int} (hg : W.heap[g]? = some (.cells (zs.map (Value.int .u64)).toArray T (0, 0)))
 (h : FnC P f avs [tabM g T zs] (fun r M => r = .lit (.bool true) ∧ M = [tabM g T zs])) (ha : RepT W [g] avs vs) :
 Calls P f vs.toArray W fun e W' => e = .returned (.bool true) ∧ Below W.heap.size W W' := by
 have hm : MOk W [tabM g T zs] [] := ⟨by simp [bl, ME.blks, tabM], by simp, fun m hm => by
  rw [List.mem_singleton.1 hm]
  exact ⟨_, hg, repL_tab.2 (by simp)⟩⟩
 refine (h.2 W [] vs (by simp) hm (by simpa [bl, ME.blks, tabM] using ha)).mono ?_
 rintro e W' ⟨v, r, M', rfl, ⟨rfl, rfl⟩, hm', hr, hf⟩
 have hv := Rep.lit_iff.1 hr
 subst hv
 refine ⟨rfl, hf.os, hf.tape, hf.output, hf.size, fun k hk => ?_⟩
 by_cases hkg : k = g
 ·subst hkg
  obtain ⟨cur, hc, hl⟩ := hm'.holds _ List.mem_cons_self
  rw [hc, hg]
  congr 2
  exact Array.toList_inj.1 (repL_tab.1 hl)
 ·exact (hf.block k hk (by simp [bl, ME.blks, tabM, hkg])).1
end Go.Vl
end
section
namespace Go.Proofs.YtphlkdbglpcikaaGreatDoor
open Go.Vl
open Y
namespace WLet
theorem c_sameInts (a b : List Int) (ha : a.length ≤ 1099511627776) : FnP Tryz.prog 16 [.sl 1 (a.map AV.int), .sl 1 (b.map AV.int)] (.bool (decide (a = b))) :=  by
 refine FnC.mk Tryz.func16 (by kernel_rfl) rfl Tryz.ntmps16 rfl (fun w0 F => ?_)
 have hla : (a.map AV.int).length = a.length := List.length_map ..
 have hlb : (b.map AV.int).length = b.length := List.length_map ..
 refine W.s (.r (.q (.assign .k) rfl (.n (.h (.s (.s (.r (.mv rfl rfl ?_))))))))
 first | refine W.q (.lensl (.t rfl) Tryz.underlying22) rfl ?_ | refine W.q (.lenar (i := 0) (.t rfl) rfl Tryz.underlying22) rfl ?_ | refine W.q (.lenar (i := 1) (.t rfl) rfl Tryz.underlying22) rfl ?_ | refine W.q (.lenar (i := 2) (.t rfl) rfl Tryz.underlying22) rfl ?_ | refine W.q (.lenar (i := 3) (.t rfl) rfl Tryz.underlying22) rfl ?_
 refine W.mv rfl rfl ?_
 first | refine W.q (.lensl (.t rfl) Tryz.underlying22) rfl ?_ | refine W.q (.lenar (i := 0) (.t rfl) rfl Tryz.underlying22) rfl ?_ | refine W.q (.lenar (i := 1) (.t rfl) rfl Tryz.underlying22) rfl ?_ | refine W.q (.lenar (i := 2) (.t rfl) rfl Tryz.underlying22) rfl ?_ | refine W.q (.lenar (i := 3) (.t rfl) rfl Tryz.underlying22) rfl ?_
 refine W.q (.nei (.t rfl) (.t rfl)) rfl ?_; refine W.n ?_; refine W.h ?_; refine W.cond (.t rfl) (fun hc_t10 => ?_) (fun hc_t10 => ?_)
 ·have hne : a ≠ b := by rintro rfl; simp at hc_t10
  refine W.s (.r (.q (.assign .k) rfl (.n (.h ?_)))); refine W.ret ?_; refine W.hr ?_; refine W.retn (M' := []) (rs := [.tmp 4]) (avs := [_]) Tryz.results16 ⟨rfl, trivial⟩ rfl (.refl _) ?_
  first | exact ⟨congrArg AV.bool (decide_eq_false hne).symm, rfl⟩ | exact ⟨congrArg AV.bool (decide_eq_true heq).symm, rfl⟩
 ·have hlen : a.length = b.length := by simp at hc_t10; omega
  refine W.k (.h (.s (.s (.r (.q (.assign .k) rfl (.n (.h (.b ?_)))))))); refine W.loop (D := []) (ι := Nat) (fun i => [(5, true, .int (i : Int)), (0, true, .sl 1 (a.map AV.int)), (1, true, .sl 1 (b.map AV.int))]) (fun _ => []) (fun i => i ≤ a.length ∧ ∀ j, j < i → a[j]? = b[j]?) (fun i => a.length - i) 0 ⟨rfl, rfl, rfl, trivial⟩ (.refl _) ⟨Nat.zero_le _, by intro j hj; omega⟩ ?_
  rintro i ⟨hi1, hi2⟩
  dsimp only at hi1 hi2 ⊢
  refine W.s (.s (.r (.mv rfl rfl (.mv rfl rfl ?_))))
  first | refine W.q (.lensl (.t rfl) Tryz.underlying22) rfl ?_ | refine W.q (.lenar (i := 0) (.t rfl) rfl Tryz.underlying22) rfl ?_ | refine W.q (.lenar (i := 1) (.t rfl) rfl Tryz.underlying22) rfl ?_ | refine W.q (.lenar (i := 2) (.t rfl) rfl Tryz.underlying22) rfl ?_ | refine W.q (.lenar (i := 3) (.t rfl) rfl Tryz.underlying22) rfl ?_
  refine W.q (.lti (.t rfl) (.t rfl)) rfl ?_; refine W.n ?_; refine W.h ?_; refine W.cond (.t rfl) (fun hc_t14 => ?_) (fun hc_t14 => ?_)
  ·have hlt : i < a.length := by simp at hc_t14; omega
   refine W.k (.h (.s (.b (.s ?_)))); refine W.drawn (by kernel_rfl) (by kernel_rfl) ?_
   have hga : (a.map AV.int)[i]? = some (AV.int a[i]) := by rw [List.getElem?_map, List.getElem?_eq_getElem hlt]; rfl
   have hgb : (b.map AV.int)[i]? = some (AV.int (b[i]'(by omega))) := by rw [List.getElem?_map, List.getElem?_eq_getElem (by omega)]; rfl
   refine DP.q (.move (.t rfl)) rfl (.q (.move (.t rfl)) rfl ?_); refine DP.q (.at (E := 3) (.t rfl) (.t rfl) Tryz.underlying22 ty3 (fun _ => ⟨by omega, hga⟩) rfl rfl) rfl ?_
   first | refine DP.q (.lde1 (.t rfl) ag3) rfl ?_ | refine DP.q (.ldb1 0 (.t rfl) rfl ag3 rfl) rfl ?_ | refine DP.q (.ldb1 1 (.t rfl) rfl ag3 rfl) rfl ?_ | refine DP.q (.ldb1 2 (.t rfl) rfl ag3 rfl) rfl ?_ | refine DP.q (.ldb1 3 (.t rfl) rfl ag3 rfl) rfl ?_
   refine DP.q (.move (.t rfl)) rfl (.q (.move (.t rfl)) rfl ?_); refine DP.q (.at (E := 3) (.t rfl) (.t rfl) Tryz.underlying22 ty3 (fun _ => ⟨by omega, hgb⟩) rfl rfl) rfl ?_
   first | refine DP.q (.lde1 (.t rfl) ag3) rfl ?_ | refine DP.q (.ldb1 0 (.t rfl) rfl ag3 rfl) rfl ?_ | refine DP.q (.ldb1 1 (.t rfl) rfl ag3 rfl) rfl ?_ | refine DP.q (.ldb1 2 (.t rfl) rfl ag3 rfl) rfl ?_ | refine DP.q (.ldb1 3 (.t rfl) rfl ag3 rfl) rfl ?_
   refine DP.q (.nei (.t rfl) (.t rfl)) rfl ?_; refine DP.nil ?_; refine W.h ?_; refine W.cond (.t rfl) (fun hc_t25 => ?_) (fun hc_t25 => ?_)
   ·have hne : a ≠ b := by rintro rfl; simp at hc_t25
    refine W.s (.r (.q (.assign .k) rfl (.n (.h ?_)))); refine W.ret ?_; refine W.br (.hr (.hr (.br (.hr ?_)))); refine W.retn (M' := []) (rs := [.tmp 4]) (avs := [_]) Tryz.results16 ⟨rfl, trivial⟩ rfl (.refl _) ?_
    first | exact ⟨congrArg AV.bool (decide_eq_false hne).symm, rfl⟩ | exact ⟨congrArg AV.bool (decide_eq_true heq).symm, rfl⟩
   ·have hsame : a[i]? = b[i]? := by simp at hc_t25; rw [List.getElem?_eq_getElem hlt, List.getElem?_eq_getElem (by omega), hc_t25]
    refine W.k (.bn (.h (.r (.mv rfl rfl ?_))))
    first | refine W.q (.add (.t rfl) .k (fun _ => by omega)) rfl ?_ | refine W.q (.addw (.t rfl) .k) rfl ?_
    refine W.q (.assign (.t rfl)) rfl ?_; refine W.n ?_; refine W.h ?_; refine W.reach (D := []) (i + 1) ⟨rfl, rfl, rfl, trivial⟩ (.refl _) ⟨⟨by omega, fun j hj => ?_⟩, by omega⟩
    rcases Nat.lt_or_ge j i with h | h
    ·exact hi2 j h
    ·obtain rfl : j = i := by omega
     exact hsame
  ·have hge : i = a.length := by simp at hc_t14; omega
   have heq : a = b := List.ext_getElem? (fun j => by cases Nat.lt_or_ge j a.length with | inl h => exact hi2 j (by omega) | inr h => rw [List.getElem?_eq_none h, List.getElem?_eq_none (by omega)])
   refine W.ex (.he (.he (.bh (.h (.s (.r (.q (.assign .k) rfl (.n (.h ?_))))))))); refine W.ret ?_; refine W.retn (M' := []) (rs := [.tmp 4]) (avs := [_]) Tryz.results16 ⟨rfl, trivial⟩ rfl (.refl _) ?_
   first | exact ⟨congrArg AV.bool (decide_eq_false hne).symm, rfl⟩ | exact ⟨congrArg AV.bool (decide_eq_true heq).symm, rfl⟩
end WLet
end Go.Proofs.YtphlkdbglpcikaaGreatDoor
end
section
namespace Go.Proofs.YtphlkdbglpcikaaGreatDoor
open Go.Vl
open Y
namespace WToGoF
end WToGoF
end Go.Proofs.YtphlkdbglpcikaaGreatDoor
end
section
namespace Go.Proofs.YtphlkdbglpcikaaGreatDoor
open Go.Vl
open Y
namespace WCheap
end WCheap
end Go.Proofs.YtphlkdbglpcikaaGreatDoor
end
section
namespace Go.Proofs.YtphlkdbglpcikaaGreatDoor
open Go.Vl
open Y
namespace WSTree
end WSTree
end Go.Proofs.YtphlkdbglpcikaaGreatDoor
end
section
namespace Go.Proofs.YtphlkdbglpcikaaGreatDoor
open Go.Vl
open Y
namespace WFill
theorem c_Sizes (ts : List Tp) (as_ : List Au) (hg : Sch.Good ts as_) (fin : List Int) (hfin : Sch.sizesOf ts as_ = some fin) (hall : (fin.any fun n => n == 0 || decide (150 < n)) = false) (M0 : List ME) (hI : ∀ n : Int, -1 ≤ n → n < 100 → FnC Tryz.prog 107 [.int n] M0 (fun r M => r = .str (itoa n) ∧ M = M0)) : FnC Tryz.prog 14 [.sl 3 (ts.map tpv)] M0 (fun r M => r = .tup [.sl 1 (fin.map AV.int), .int 0] ∧ M = M0) :=  by
 refine FnC.mk Tryz.func14 (by kernel_rfl) rfl Tryz.ntmps14 rfl (fun w0 F => ?_)
 refine W.s (.r (.q (.assign .k) rfl (.q (.assign .k) rfl (.n (.h (.s (.r (.mv rfl rfl ?_)))))))); refine W.call (WNew.c_New ts as_ hg fin hfin hall M0 hI) ⟨(.t rfl), trivial⟩ ((List.Perm.of_eq (List.append_nil M0).symm)) rfl ?_
 rintro _ M' ⟨b9, rfl, hM'⟩
 rw [hM']
 refine W.mv rfl rfl (.q (.extract (.t rfl) rfl) rfl (.q (.extract (.t rfl) rfl) rfl (.asg rfl rfl (.asg rfl rfl (.n (.h (.s (.s (.r (.mv rfl rfl (.q (.nei (.t rfl) .k) rfl (.n (.h (.isb 12 false rfl (by rfl) (.condF (.t rfl) (.k (.h (.s (.r (.mv rfl rfl (.q (.nilc (.t rfl)) rfl (.q (.fab (.t rfl) fa76_2) rfl (.q (.ldb1 0 (.t rfl) rfl ag22 rfl) rfl ?_))))))))))))))))))))))); refine W.asg rfl rfl (.q (.assign .k) rfl (.n (.h ?_))); refine W.ret ?_; refine W.retn (M' := M0) (D := [.box b9 76 [.sl 3 (ts.map tpv), .sl 2 (as_.map Au.avx), .sl 1 (fin.map AV.int)]]) (rs := [.tmp 2, .tmp 3]) (avs := [_, _]) Tryz.results14 ⟨rfl, rfl, trivial⟩ rfl (by rw [List.append_nil]; exact List.perm_append_comm (l₁ := [_])) ?_
 exact ⟨rfl, rfl⟩
end WFill
end Go.Proofs.YtphlkdbglpcikaaGreatDoor
end
