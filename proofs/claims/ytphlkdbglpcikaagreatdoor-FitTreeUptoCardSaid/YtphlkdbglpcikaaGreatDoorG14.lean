/-
  Merged: WKids FitL SchA SchV LawT.
-/
import Derived.Test.YtphlkdbglpcikaaGreatDoorG13
import Derived.Lib.LaidTab
set_option linter.unusedVariables false
set_option linter.unusedSimpArgs false
set_option maxRecDepth 100000

section
namespace Go.Proofs.YtphlkdbglpcikaaGreatDoor
open Go.Vl
open Y
namespace WKids
theorem kids_map (l : List Int) (n q : Nat) (hq : 0 < q) : ((l.take n).map fun z => z % (q : Int)).map AV.int = ((l.take n).map fun z => (z % (q : Int)).toNat).map fun k : Nat => AV.int (k : Int) := by
 rw [List.map_map, List.map_map]
 refine List.map_congr_left fun z _ => congrArg AV.int ?_
 have := Int.emod_nonneg z (by omega : (q : Int) ≠ 0)
 show z % (q : Int) = ((z % (q : Int)).toNat : Int)
 omega
theorem c_Kids (l : List Int) (n q : Nat) (hn : n ≤ 1000) (hq : 0 < q) (hq2 : q ≤ 1000) (hl : l.length ≤ 1099511627776) : FnC Tryz.prog 18 [.sl 1 (l.map AV.int), .int (n : Int), .int (q : Int)] [] (fun r M => ∃ v, r = .lit v ∧ M = [.arr v 3 1 (((l.take n).map fun z => (z % (q : Int)).toNat).map fun k : Nat => AV.int (k : Int))]) :=  by
 refine FnC.mk Tryz.func18 (by kernel_rfl) rfl Tryz.ntmps18 rfl (fun w0 F => ?_)
 have hll : (l.map AV.int).length = l.length := List.length_map ..
 refine W.s (.r (.q (.assign .k) rfl (.n (.h (.s (.r (.q (.assign .k) rfl (.n (.h (.s (.s (.r (.q (.assign .k) rfl (.n (.h (.b ?_)))))))))))))))); refine W.own_nil 3 1 ?_; refine W.loop (D := []) (ι := Nat × Value) (fun z => [(8, true, .int (z.1 : Int)), (7, true, .lit z.2), (0, true, .sl 1 (l.map AV.int)), (1, true, .int (n : Int)), (2, true, .int (q : Int))]) (fun z => [.arr z.2 3 1 (((l.take z.1).map fun z => z % (q : Int)).map AV.int)]) (fun z => z.1 ≤ l.length ∧ z.1 ≤ n) (fun z => l.length - z.1) (0, .slice none 0 0) ⟨rfl, rfl, rfl, rfl, rfl, trivial⟩ (.refl _) ⟨Nat.zero_le _, Nat.zero_le _⟩ ?_
 rintro ⟨i, v⟩ ⟨hi, hin⟩
 dsimp only at hi hin ⊢
 rcases (show (i < l.length ∧ i < n) ∨ i = l.length ∨ i = n from by omega) with ⟨hlt, hlt2⟩ | hend
 ·have hgl := getD_map l i hlt
  have htk := take_getDG 0 l i hlt
  refine W.s (.s (.r (.mv rfl rfl (.mv rfl rfl (.q (.lensl (.t rfl) Tryz.underlying22) rfl (.q (.lti (.t rfl) (.t rfl)) rfl (.mv rfl rfl (.qgT rfl rfl (.move (.t rfl)) rfl (.qgT rfl rfl (.move (.t rfl)) rfl (.qgT rfl rfl (.lti (.c rfl) (.c rfl)) rfl ?_)))))))))); refine W.q (.and (.t rfl) ⟨_, _, rfl, rfl, by ((simp; done))⟩) rfl ?_; refine W.n (.h ?_); refine W.isb 17 true rfl (by simp; omega) ?_; refine W.condT (.t rfl) (.k (.h (.s (.b (.r (.mv rfl rfl (.mv rfl rfl (.mv rfl rfl ?_)))))))); refine W.q (.at (E := 3) (.t rfl) (.t rfl) Tryz.underlying22 ty3 (fun _ => ⟨by omega, hgl⟩) rfl rfl) rfl ?_; refine W.q (.lde1 (.t rfl) ag3) rfl (.mv rfl rfl ?_); refine W.callp (Base.c_Picked (l.getD i 0) (q : Int) (by omega) (by omega)) ⟨(.t rfl), (.t rfl), trivial⟩ rfl ?_; refine W.bs (es := [_]) Tryz.underlying22 ty3 ⟨rfl, (.t rfl), rfl, rfl, trivial⟩ rfl (by decide) rfl rfl ?_; refine W.app 0 (.t rfl) rfl (.sl (.t rfl) (by ((simp [AV.okc, shV]; done)))) Tryz.underlying22 ni22 ty3 rfl rfl (by rw [List.length_map, List.length_map, List.length_take]; simp only [List.length_cons, List.length_nil]; omega) rfl ?_
  intro v28; refine W.q (.assign (.t rfl)) rfl ?_; refine W.n ?_; refine W.bn ?_; refine W.h ?_; refine W.r ?_; refine W.q (.move (.t rfl)) rfl ?_
  refine W.q (.add (.t rfl) .k (fun _ => by omega)) rfl ?_
  refine W.q (.assign (.t rfl)) rfl ?_; refine W.n ?_; refine W.h ?_; refine W.reach (D := []) (i + 1, v28) ⟨rfl, rfl, rfl, rfl, rfl, trivial⟩ (by rw [List.append_nil]; (try dsimp only); rw [htk, List.map_append, List.map_append]; exact .refl _) ⟨⟨hlt, hlt2⟩, by show l.length - (i + 1) < l.length - i; omega⟩
 ·have htk : l.take i = l.take n := by rcases hend with h | h; rw [List.take_of_length_le (by omega), List.take_of_length_le (by omega)]; rw [h]
  rw [htk, kids_map l n q hq]
  refine W.s (.s (.r (.mv rfl rfl (.mv rfl rfl (.q (.lensl (.t rfl) Tryz.underlying22) rfl (.q (.lti (.t rfl) (.t rfl)) rfl (.mv rfl rfl (.qgT rfl rfl (.move (.t rfl)) rfl (.qgT rfl rfl (.move (.t rfl)) rfl (.qgT rfl rfl (.lti (.c rfl) (.c rfl)) rfl ?_)))))))))); refine W.q (.and (.t rfl) ⟨_, _, rfl, rfl, by ((simp; done))⟩) rfl ?_; refine W.n (.h ?_); refine W.isb 17 false rfl (by simp; omega) ?_; refine W.condF (.t rfl) (.ex (.he (.he (.bh (.h (.s (.r (.mv rfl rfl (.asg rfl rfl (.n (.h ?_))))))))))); refine W.ret ?_; refine W.retn (M' := [.arr v 3 1 (((l.take n).map fun z => (z % (q : Int)).toNat).map fun k : Nat => AV.int (k : Int))]) (D := []) (rs := [.tmp 6]) (avs := [_]) Tryz.results18 ⟨rfl, trivial⟩ rfl (.refl _) ?_
  exact ⟨v, rfl, rfl⟩
end WKids
end Go.Proofs.YtphlkdbglpcikaaGreatDoor
end
section
namespace Go.Vl
namespace Fit
open Sch
section
variable {A : Au} {sz : List Int}
theorem Al.all {i : Nat} {f : Int} (h : Al A sz i [] 0 f) : ∀ ks : List Nat, Al A sz i ks (ks.length : Int) f
 | [] => h
 | k :: ks => by
  have := Al.drop (k := k) (Al.all h ks)
  rwa [show ((k :: ks).length : Int) = (ks.length : Int) + 1 from by simp] 
inductive Acc (A : Au) : Nat → List Nat → Prop
 | done {i : Nat} (h : A.final.getD i false = true) : Acc A i []
 | step {i k : Nat} {w : List Nat} (h : 0 ≤ tr A i k) (r : Acc A (tr A i k).toNat w) : Acc A i (k :: w)
theorem Al.end0 (hz : Sz A sz) {i : Nat} {ls : List Nat} {d f : Int} (h : Al A sz i ls d f) (hl : ls = []) (hf : f = 0) : A.final.getD i false = true := by
 cases h with
 | done h => exact h
 | keep h r => cases hl
 | drop r => cases hl
 | fill h r => have := r.nn hz; have := hz.lo _ _ h; omega
theorem Al.end_ (hz : Sz A sz) {i : Nat} (h : Al A sz i [] 0 0) : A.final.getD i false = true := h.end0 hz rfl rfl
end
section
variable {A : Au} {sz : List Int} {ks : List Nat} {rows : List (List Ct)}
theorem Opt.ok0 (hsh : A.Shape) (ho : Opt A sz ks rows) (hex : ∃ d f, Al A sz 0 ks d f) : (cel rows 0 0).ok = true := by
 obtain ⟨d, f, h⟩ := hex
 have := (ho.cel_best (Nat.zero_le _) hsh.pos).le d f (by rwa [List.drop_zero])
 exact this.1
theorem Opt.le0 (hsh : A.Shape) (ho : Opt A sz ks rows) {d f : Int} (h : Al A sz 0 ks d f) : (cel rows 0 0).Le d f := (ho.cel_best (Nat.zero_le _) hsh.pos).le d f (by rwa [List.drop_zero])
theorem Opt.al0 (hsh : A.Shape) (ho : Opt A sz ks rows) (hok : (cel rows 0 0).ok = true) : Al A sz 0 ks (cel rows 0 0).d (cel rows 0 0).f := by
 have := (ho.cel_best (Nat.zero_le _) hsh.pos).al hok
 rwa [List.drop_zero] at this
def Pot (A : Au) (sz : List Int) (o : List Int) : Prop := (∀ i, A.final.getD i false = true → o.getD i 0 ≤ 0) ∧ ∀ i n, 0 ≤ tr A i n → o.getD i 0 ≤ sz.getD n 0 + o.getD (tr A i n).toNat 0
theorem Tr.acc (hsh : A.Shape) (hz : Sz A sz) (ho : Opt A sz ks rows) {m i k : Nat} {w : List Nat} {fr : List Int} (h : Tr A sz ks rows m i k w fr) : k ≤ ks.length → i < A.next.length → (cel rows k i).ok = true → Acc A i w := by
 induction h with
 | @stop i k h hk =>
  intro hkl hi hok
  have := (ho.cel_best hkl hi).al hok
  rw [h.1, h.2, List.drop_of_length_le (by omega)] at this
  exact .done (this.end_ hz)
 | keep hk hg r ih =>
  intro _ hi hok
  have h2 := goesB_iff.1 hg
  exact .step h2.1 (ih hk (tr_lt hsh hi h2.1).1 h2.2.1)
 | fill hs hg hn r ih =>
  intro hk hi hok
  have h2 := fillP_iff.1 (firstN_some hn).1
  exact .step h2.1 (ih hk (tr_lt hsh hi h2.1).1 h2.2.1)
 | drop hk hg hn hc r ih =>
  intro _ hi hok
  exact ih hk hi hc.1
theorem Tr.letters {P : Nat → Prop} (hP : ∀ k ∈ ks, P k) (hn : ∀ i n, 0 ≤ tr A i n → P n) {m i k : Nat} {w : List Nat} {fr : List Int} (h : Tr A sz ks rows m i k w fr) : ∀ q ∈ w, P q := by
 induction h with
 | stop => intro q hq; cases hq
 | keep hk hg r ih =>
  intro q hq
  rcases List.mem_cons.1 hq with rfl | hq
  ·exact hn _ _ (goesB_iff.1 hg).1
  ·exact ih q hq
 | fill hs hg hf r ih =>
  intro q hq
  rcases List.mem_cons.1 hq with rfl | hq
  ·exact hn _ _ (fillP_iff.1 (firstN_some hf).1).1
  ·exact ih q hq
 | drop hk hg hn hc r ih => exact ih
def upto (k : Nat) : Nat → List Int
 | 0 => []
 | n + 1 => (k : Int) :: upto (k + 1) n
theorem Tr.short (hsh : A.Shape) (hz : Sz A sz) (hm : ∀ i n, 0 ≤ tr A i n → (i : Int) ≤ tr A i n) {m i k : Nat} {w : List Nat} {fr : List Int} (h : Tr A sz ks rows m i k w fr) : k ≤ ks.length → i < A.next.length → w.length + i + k + 1 ≤ ks.length + A.next.length := by
 induction h with
 | stop h hk => intro _ hi; simp; omega
 | keep hk hg r ih =>
  intro _ hi
  have h2 := goesB_iff.1 hg
  have := ih hk (tr_lt hsh hi h2.1).1
  have := hm _ _ h2.1
  simp only [List.length_cons]; omega
 | @fill m i k n w fr hs hg hn r ih =>
  intro hk hi
  have h2 := fillP_iff.1 (firstN_some hn).1
  have := ih hk (tr_lt hsh hi h2.1).1
  have h3 := hm _ _ h2.1
  have h4 := hz.lo _ _ h2.1
  have h5 : (tr A i n).toNat ≠ i := fun e => by have h6 := h2.2.2.2; rw [e] at h6; omega
  simp only [List.length_cons]; omega
 | drop hk hg hn hc r ih =>
  intro _ hi
  have := ih hk hi
  omega
theorem Tr.short2 (hsh : A.Shape) (hz : Sz A sz) (ho : Opt A sz ks rows) (h2s : A.next.length = 2) (hf : A.final.getD 0 false = true) (hsim : ∀ n, 0 ≤ tr A 1 n → tr A 0 n = tr A 1 n) {m i k : Nat} {w : List Nat} {fr : List Int} (h : Tr A sz ks rows m i k w fr) : k ≤ ks.length → i < A.next.length → w.length + 2 * k ≤ 2 * ks.length + i := by
 have dom : ∀ {ls : List Nat} {d f : Int}, Al A sz 1 ls d f → Al A sz 0 ls d f := by
  intro ls d f h
  generalize hj : (1 : Nat) = j at h
  induction h with
  | done h => exact .done hf
  | keep h r ih => subst hj; have e := hsim _ h; rw [← e] at h r; exact .keep h r
  | drop r ih => exact .drop (ih hj)
  | fill h r ih => subst hj; have e := hsim _ h; rw [← e] at h r; exact .fill h r
 induction h with
 | stop h hk => intro _ hi; simp; omega
 | keep hk hg r ih =>
  intro _ hi
  have h2 := goesB_iff.1 hg
  have ht := (tr_lt hsh hi h2.1).1
  have := ih hk ht
  simp only [List.length_cons]; omega
 | @fill m i k n w fr hs hg hn r ih =>
  intro hk hi
  have h2 := fillP_iff.1 (firstN_some hn).1
  have ht := (tr_lt hsh hi h2.1).1
  have := ih hk ht
  have h4 := hz.lo _ _ h2.1
  have h5 : (tr A i n).toNat ≠ i := fun e => by have h6 := h2.2.2.2; rw [e] at h6; omega
  have h7 : i ≠ 0 := by
   rintro rfl
   have e1 : (tr A 0 n).toNat = 1 := by omega
   rw [e1] at h2
   have h8 := (ho.cel_best hk hi).le _ _ (dom ((ho.cel_best hk (by omega)).al h2.2.1))
   have := h8.2
   omega
  simp only [List.length_cons]; omega
 | drop hk hg hn hc r ih =>
  intro _ hi
  have := ih hk hi
  omega
def used (fr : List Int) : Nat := fr.countP fun z => decide (0 ≤ z)
theorem Tr.from_ (hsh : A.Shape) (ho : Opt A sz ks rows) {m i k : Nat} {w : List Nat} {fr : List Int} (h : Tr A sz ks rows m i k w fr) : k ≤ ks.length → i < A.next.length → fr.length = w.length ∧ (cel rows k i).d + (used fr : Int) = (ks.length : Int) - k := by
 induction h with
 | stop h hk => intro _ _; simp [used]; omega
 | @keep m i k w fr hk hg r ih =>
  intro _ hi
  have h2 := goesB_iff.1 hg
  have h3 := ih hk (tr_lt hsh hi h2.1).1
  have e : used ((k : Int) :: fr) = used fr + 1 := by unfold used; rw [List.countP_cons, if_pos (decide_eq_true (Int.natCast_nonneg k))]
  rw [e]
  simp only [List.length_cons]
  omega
 | @fill m i k n w fr hs hg hn r ih =>
  intro hk hi
  have h2 := fillP_iff.1 (firstN_some hn).1
  have h3 := ih hk (tr_lt hsh hi h2.1).1
  have e : used (-1 :: fr) = used fr := by unfold used; rw [List.countP_cons, if_neg (by decide)]; rfl
  rw [e]
  simp only [List.length_cons]
  omega
 | drop hk hg hn hc r ih =>
  intro _ hi
  have := ih hk hi
  omega
end
end Fit
end Go.Vl
end
section
namespace Go.Vl
namespace Sch
open Fit
def pathW (A : Au) (sz : List Int) : Nat → List Int → Option Int
 | i, [] => if A.final.getD i false = true then some 0 else none
 | i, k :: w => if tr A i k.toNat < 0 then none else match pathW A sz (tr A i k.toNat).toNat w with
  | none => none
  | some f => some (f + sz.getD k.toNat 0)
theorem pathW_al {A : Au} {sz : List Int} : ∀ {w : List Int} {i : Nat} {f : Int}, pathW A sz i w = some f → Al A sz i [] 0 f
 | [], i, f, h => by
  simp only [pathW] at h
  split at h
  ·rename_i h1; rw [← Option.some.inj h]; exact .done h1
  ·cases h
 | k :: w, i, f, h => by
  simp only [pathW] at h
  split at h
  ·cases h
  ·split at h
   ·cases h
   ·rename_i g hg; rw [← Option.some.inj h]; exact .fill (by omega) (pathW_al hg)
def potB (A : Au) (sz : List Int) (o : List Int) : Bool := (List.range A.next.length).all fun i => (!(A.final.getD i false) || decide (o.getD i 0 ≤ 0)) && (List.range 8).all fun n => decide (tr A i n < 0) || decide (o.getD i 0 ≤ sz.getD n 0 + o.getD (tr A i n).toNat 0)
theorem potB_pot {A : Au} (hsh : A.Shape) {sz o : List Int} (h : potB A sz o = true) : Pot A sz o := by
 have h1 : ∀ i, i < A.next.length → (A.final.getD i false = true → o.getD i 0 ≤ 0) ∧ ∀ n, n < 8 → 0 ≤ tr A i n → o.getD i 0 ≤ sz.getD n 0 + o.getD (tr A i n).toNat 0 := fun i hi => by
  have h2 := List.all_eq_true.1 h i (List.mem_range.2 hi)
  simp only [Bool.and_eq_true, Bool.or_eq_true, Bool.not_eq_true', decide_eq_true_eq] at h2
  refine ⟨fun hf => ?_, fun n hn h0 => ?_⟩
  ·rcases h2.1 with h3 | h3
   ·rw [hf] at h3; cases h3
   ·exact h3
  ·have h3 := List.all_eq_true.1 h2.2 n (List.mem_range.2 hn)
   simp only [Bool.or_eq_true, decide_eq_true_eq] at h3
   omega
 refine ⟨fun i hf => ?_, fun i n h0 => ?_⟩
 ·rcases Nat.lt_or_ge i A.next.length with hi | hi
  ·exact (h1 i hi).1 hf
  ·have := hsh.fin
   rw [List.getD_eq_getElem?_getD, List.getElem?_eq_none (by omega)] at hf; cases hf
 ·have hi := tr_row h0
  exact (h1 i hi).2 n (tr_lt hsh hi h0).2 h0
def leastB (A : Au) (sz : List Int) (s : Int) : Bool := match toGo sz A, cheap sz A with
 | some o, some w => potB A sz o && decide (o.getD 0 0 = s - 1) && match pathW A sz 0 w with
  | some f => decide (f = s - 1)
  | none => false
 | _, _ => false
theorem leastB_out {A : Au} (hsh : A.Shape) {sz : List Int} {s : Int} (h : leastB A sz s = true) : ∃ o, Pot A sz o ∧ Al A sz 0 [] 0 (o.getD 0 0) ∧ o.getD 0 0 = s - 1 := by
 unfold leastB at h
 split at h
 ·rename_i o w ho hw
  simp only [Bool.and_eq_true, decide_eq_true_eq] at h
  refine ⟨o, potB_pot hsh h.1.1, ?_, h.1.2⟩
  have h2 := h.2
  split at h2
  ·rename_i f hf
   rw [h.1.2, ← of_decide_eq_true h2]; exact pathW_al hf
  ·cases h2
 ·cases h
def chkFit (m0 m1 m2 m3 m4 m5 : Nat) : Bool := match sizesOf (tyk m0 m1 m2 m3 m4 m5) (ask m0 m1 m2 m3 m4 m5) with
 | some a => (a.all fun n => decide (1 ≤ n) && decide (n ≤ 150)) && decide (a.getD 6 0 = 1) && (List.range 6).all fun t => leastB ((ask m0 m1 m2 m3 m4 m5).getD t dA) a (a.getD t 0)
 | none => false
theorem chkFit_fst (m0 m1 m2 m3 m4 m5 : Nat) : chkFit m0 m1 m2 m3 m4 m5 = chkFit m0 (fst_ m1) m2 (fst_ m3) m4 m5 := by
 unfold chkFit
 rw [ask_fst, sizesOf_congr (names7 m0 m1 m2 m3 m4 m5 m0 (fst_ m1) m2 (fst_ m3) m4 m5) rfl]
structure FitOk (ts : List Tp) (as_ : List Au) (a : List Int) : Prop where
 sizes : sizesOf ts as_ = some a
 pos : ∀ n ∈ a, 1 ≤ n ∧ n ≤ 150
 last : a.getD 6 0 = 1
 least : ∀ t, t < 6 → leastB (as_.getD t dA) a (a.getD t 0) = true
theorem chkFit_out {m0 m1 m2 m3 m4 m5 : Nat} (h : chkFit m0 m1 m2 m3 m4 m5 = true) : ∃ a, FitOk (tyk m0 m1 m2 m3 m4 m5) (ask m0 m1 m2 m3 m4 m5) a := by
 unfold chkFit at h
 split at h
 ·rename_i a ha
  simp only [Bool.and_eq_true, decide_eq_true_eq] at h
  refine ⟨a, ha, fun n hn => ?_, h.1.2, fun t ht => List.all_eq_true.1 h.2 t (List.mem_range.2 ht)⟩
  have := List.all_eq_true.1 h.1.1 n hn
  simpa using this
 ·cases h
theorem fit_0_11 : (([4, 6] : List Nat).all fun m1 => ([7, 6] : List Nat).all fun m2 => ([8, 10] : List Nat).all fun m3 => ([7, 6] : List Nat).all fun m5 => chkFit 0 m1 m2 m3 11 m5) = true := by kernel_rfl
theorem fit_0_6 : (([4, 6] : List Nat).all fun m1 => ([7, 6] : List Nat).all fun m2 => ([8, 10] : List Nat).all fun m3 => ([7, 6] : List Nat).all fun m5 => chkFit 0 m1 m2 m3 6 m5) = true := by kernel_rfl
theorem fit_0_2 : (([4, 6] : List Nat).all fun m1 => ([7, 6] : List Nat).all fun m2 => ([8, 10] : List Nat).all fun m3 => ([7, 6] : List Nat).all fun m5 => chkFit 0 m1 m2 m3 2 m5) = true := by kernel_rfl
theorem fit_1_11 : (([4, 6] : List Nat).all fun m1 => ([7, 6] : List Nat).all fun m2 => ([8, 10] : List Nat).all fun m3 => ([7, 6] : List Nat).all fun m5 => chkFit 1 m1 m2 m3 11 m5) = true := by kernel_rfl
theorem fit_1_6 : (([4, 6] : List Nat).all fun m1 => ([7, 6] : List Nat).all fun m2 => ([8, 10] : List Nat).all fun m3 => ([7, 6] : List Nat).all fun m5 => chkFit 1 m1 m2 m3 6 m5) = true := by kernel_rfl
theorem fit_1_2 : (([4, 6] : List Nat).all fun m1 => ([7, 6] : List Nat).all fun m2 => ([8, 10] : List Nat).all fun m3 => ([7, 6] : List Nat).all fun m5 => chkFit 1 m1 m2 m3 2 m5) = true := by kernel_rfl
theorem fit_2_11 : (([4, 6] : List Nat).all fun m1 => ([7, 6] : List Nat).all fun m2 => ([8, 10] : List Nat).all fun m3 => ([7, 6] : List Nat).all fun m5 => chkFit 2 m1 m2 m3 11 m5) = true := by kernel_rfl
theorem fit_2_6 : (([4, 6] : List Nat).all fun m1 => ([7, 6] : List Nat).all fun m2 => ([8, 10] : List Nat).all fun m3 => ([7, 6] : List Nat).all fun m5 => chkFit 2 m1 m2 m3 6 m5) = true := by kernel_rfl
theorem fit_2_2 : (([4, 6] : List Nat).all fun m1 => ([7, 6] : List Nat).all fun m2 => ([8, 10] : List Nat).all fun m3 => ([7, 6] : List Nat).all fun m5 => chkFit 2 m1 m2 m3 2 m5) = true := by kernel_rfl
theorem fit_3_11 : (([4, 6] : List Nat).all fun m1 => ([7, 6] : List Nat).all fun m2 => ([8, 10] : List Nat).all fun m3 => ([7, 6] : List Nat).all fun m5 => chkFit 3 m1 m2 m3 11 m5) = true := by kernel_rfl
theorem fit_3_6 : (([4, 6] : List Nat).all fun m1 => ([7, 6] : List Nat).all fun m2 => ([8, 10] : List Nat).all fun m3 => ([7, 6] : List Nat).all fun m5 => chkFit 3 m1 m2 m3 6 m5) = true := by kernel_rfl
theorem fit_3_2 : (([4, 6] : List Nat).all fun m1 => ([7, 6] : List Nat).all fun m2 => ([8, 10] : List Nat).all fun m3 => ([7, 6] : List Nat).all fun m5 => chkFit 3 m1 m2 m3 2 m5) = true := by kernel_rfl
theorem fit_all {k0 k1 k2 k3 k4 k5 : Nat} (h0 : k0 < 4) (h1 : k1 < 3) (h2' : k2 < 2) (h3 : k3 < 3) (h4 : k4 < 3) (h5 : k5 < 2) : chkFit (mk0 k0) (mk1 k1) (mk2 k2) (mk3 k3) (mk4 k4) (mk5 k5) = true := by
 rw [chkFit_fst]
 have a1 : fst_ (mk1 k1) ∈ ([4, 6] : List Nat) := by rcases (show k1 = 0 ∨ k1 = 1 ∨ k1 = 2 by omega) with rfl | rfl | rfl <;> decide
 have a2 : mk2 k2 ∈ ([7, 6] : List Nat) := by rcases (show k2 = 0 ∨ k2 = 1 by omega) with rfl | rfl <;> decide
 have a3 : fst_ (mk3 k3) ∈ ([8, 10] : List Nat) := by rcases (show k3 = 0 ∨ k3 = 1 ∨ k3 = 2 by omega) with rfl | rfl | rfl <;> decide
 have a5 : mk5 k5 ∈ ([7, 6] : List Nat) := by rcases (show k5 = 0 ∨ k5 = 1 by omega) with rfl | rfl <;> decide
 have h2 : ∀ {m0 m4 : Nat}, (([4, 6] : List Nat).all fun m1 => ([7, 6] : List Nat).all fun m2 => ([8, 10] : List Nat).all fun m3 => ([7, 6] : List Nat).all fun m5 => chkFit m0 m1 m2 m3 m4 m5) = true → chkFit m0 (fst_ (mk1 k1)) (mk2 k2) (fst_ (mk3 k3)) m4 (mk5 k5) = true := fun h => List.all_eq_true.1 (List.all_eq_true.1 (List.all_eq_true.1 (List.all_eq_true.1 h _ a1) _ a2) _ a3) _ a5
 rcases (show k0 = 0 ∨ k0 = 1 ∨ k0 = 2 ∨ k0 = 3 by omega) with rfl | rfl | rfl | rfl <;> rcases (show k4 = 0 ∨ k4 = 1 ∨ k4 = 2 by omega) with rfl | rfl | rfl
 ·exact h2 fit_0_11
 ·exact h2 fit_0_6
 ·exact h2 fit_0_2
 ·exact h2 fit_1_11
 ·exact h2 fit_1_6
 ·exact h2 fit_1_2
 ·exact h2 fit_2_11
 ·exact h2 fit_2_6
 ·exact h2 fit_2_2
 ·exact h2 fit_3_11
 ·exact h2 fit_3_6
 ·exact h2 fit_3_2
theorem name7 (m0 m1 m2 m3 m4 m5 : Nat) : ∀ t, t < 6 → ((tyk m0 m1 m2 m3 m4 m5).getD t dT).name ≠ []
 | 0, _ => (by decide : bDoc ≠ []) | 1, _ => (by decide : bP ≠ []) | 2, _ => (by decide : bH1 ≠ []) | 3, _ => (by decide : bUl ≠ []) | 4, _ => (by decide : bLi ≠ []) | 5, _ => (by decide : bEm ≠ []) | _ + 6, h => by omega
def monoB (A : Au) : Bool := decide (A.next.length ≤ 4) && (List.range A.next.length).all fun i => (List.range 8).all fun n => decide (tr A i n < 0) || decide ((i : Int) ≤ tr A i n)
def simB (A : Au) : Bool := decide (A.next.length = 2) && A.final.getD 0 false && (List.range 8).all fun n => decide (tr A 1 n < 0) || decide (tr A 0 n = tr A 1 n)
theorem short_all : ((List.range 14).all fun k => monoB (auk k) || simB (auk k)) = true := by kernel_rfl
theorem wlen {k : Nat} (hk : k < 14) {sz : List Int} {ks : List Nat} {rows : List (List Ct)} (hsh : (auk k).Shape) (hz : Sz (auk k) sz) (ho : Opt (auk k) sz ks rows) {m : Nat} {w : List Nat} {fr : List Int} (h : Tr (auk k) sz ks rows m 0 0 w fr) (hks : ks.length ≤ 15) : w.length ≤ 30 := by
 have h1 := List.all_eq_true.1 short_all k (List.mem_range.2 hk)
 rw [Bool.or_eq_true] at h1
 generalize auk k = A at *
 rcases h1 with h1 | h1
 ·unfold monoB at h1
  rw [Bool.and_eq_true, decide_eq_true_eq] at h1
  have := h.short hsh hz (fun i n h0 => by
   have hi := tr_row h0
   have h2 := List.all_eq_true.1 (List.all_eq_true.1 h1.2 i (List.mem_range.2 hi)) n (List.mem_range.2 (tr_lt hsh hi h0).2)
   simp only [Bool.or_eq_true, decide_eq_true_eq] at h2
   omega) (Nat.zero_le _) hsh.pos
  omega
 ·unfold simB at h1
  rw [Bool.and_eq_true, Bool.and_eq_true, decide_eq_true_eq] at h1
  have := h.short2 hsh hz ho h1.1.1 h1.1.2 (fun n h0 => by
   have h2 := List.all_eq_true.1 h1.2 n (List.mem_range.2 (tr_lt hsh (by omega) h0).2)
   simp only [Bool.or_eq_true, decide_eq_true_eq] at h2
   omega) (Nat.zero_le _) hsh.pos
  omega
theorem wlenG {ts : List Tp} {as_ : List Au} (hg : Good ts as_) {sz : List Int} {t : Nat} (gf : Gf as_ sz t) (ht : t < ts.length) {ks : List Nat} {rows : List (List Ct)} (ho : Opt (as_.getD t dA) sz ks rows) {m : Nat} {w : List Nat} {fr : List Int} (h : Tr (as_.getD t dA) sz ks rows m 0 0 w fr) (hks : ks.length ≤ 15) : w.length ≤ 30 := by
 obtain ⟨q, hq, _, hA, _⟩ := hg.mach t ht
 have hsh := gf.sh
 have hz := gf.sz
 rw [hA] at hsh hz ho h
 exact wlen hq hsh hz ho h hks
end Sch
end Go.Vl
end
section
namespace Go.Vl
namespace Fit
open Sch
theorem runP_acc {A : Au} : ∀ {w : List Nat} {i : Nat}, Acc A i w → ∃ j : Nat, A.final.getD j false = true ∧ (w.map fun k : Nat => (k : Int)).foldl (rstep A) ((i : Int), true) = ((j : Int), true)
 | [], i, .done h => ⟨i, h, rfl⟩
 | k :: w, i, .step h r => by
  obtain ⟨j, h1, h2⟩ := runP_acc r
  refine ⟨j, h1, ?_⟩
  rw [List.map_cons, List.foldl_cons]
  have e : rstep A ((i : Int), true) (k : Int) = ((((tr A i k).toNat : Nat) : Int), true) := by
   unfold rstep
   dsimp only
   rw [if_pos ⟨Int.natCast_nonneg _, Int.natCast_nonneg _⟩, decide_eq_true (Int.natCast_nonneg k)]
   refine Prod.ext ?_ rfl
   show (A.next.getD ((i : Int)).toNat []).getD ((k : Int)).toNat (-1) = ((tr A i k).toNat : Int)
   rw [Int.toNat_natCast, Int.toNat_natCast, Int.toNat_of_nonneg h]; rfl
  rw [e]; exact h2
theorem badEnd_acc {A : Au} {w : List Nat} (h : Acc A 0 w) : badEnd A (runP A (w.map fun k : Nat => (k : Int))) = false := by
 obtain ⟨j, h1, h2⟩ := runP_acc h
 unfold runP
 rw [show ((0 : Int), true) = (((0 : Nat) : Int), true) from rfl, h2]
 unfold badEnd
 dsimp only
 rw [Int.toNat_natCast, h1, decide_eq_false (by omega)]; rfl
theorem partsN_zero {g : Nd → Nat → Option Int} {ts : List Tp} {D : Nat → Nd} : ∀ {w : List Nat}, (∀ q ∈ w, g (D q) q = some 0 ∧ idxT ts (D q).name = (q : Int)) → partsN g ts (w.map D) = some 0
 | [], _ => rfl
 | q :: w, h => by
  have h1 := h q List.mem_cons_self
  rw [List.map_cons]
  simp only [partsN]
  rw [h1.2, if_neg (by omega), Int.toNat_natCast, h1.1]
  dsimp only
  rw [if_pos rfl]
  exact partsN_zero fun q' hq => h q' (List.mem_cons_of_mem _ hq)
theorem kinds_map {ts : List Tp} {D : Nat → Nd} {w : List Nat} (h : ∀ q ∈ w, idxT ts (D q).name = (q : Int)) : kinds ts (w.map D) = w.map fun k : Nat => (k : Int) := by
 unfold kinds
 rw [List.map_map]
 exact List.map_congr_left h
theorem fit_valid {ts : List Tp} {as_ : List Au} {D : Nat → Nd} {w : List Nat} (hp : 0 < ts.length) (hn : (ts.getD 0 dT).name ≠ []) (ha : Acc (as_.getD 0 dA) 0 w) (hl : w.length ≤ 1000) (hD : ∀ q ∈ w, faultN ts as_ 7 (D q) q = some 0 ∧ idxT ts (D q).name = (q : Int)) : treeFault ts as_ 8 (.mk (ts.getD 0 dT).name [] [] (w.map D)) = some 0 := by
 unfold treeFault
 rw [if_neg (by simp [Nd.name]), faultN_mk, if_neg (by rw [List.length_map, List.length_nil]; omega), if_neg hn, if_neg (by simp)]
 dsimp only
 rw [kinds_map fun q hq => (hD q hq).2, badEnd_acc ha, if_neg (by simp)]
 exact partsN_zero hD
theorem idx_name (m0 m1 m2 m3 m4 m5 : Nat) : ∀ q, q < 7 → idxT (tyk m0 m1 m2 m3 m4 m5) ((tyk m0 m1 m2 m3 m4 m5).getD q dT).name = (q : Int)
 | 0, _ => rfl | 1, _ => rfl | 2, _ => rfl | 3, _ => rfl | 4, _ => rfl | 5, _ => rfl | 6, _ => rfl | _ + 7, h => by omega
theorem treeN_nm {ts : List Tp} {as_ : List Au} {sz : List Int} : ∀ {f t : Nat} {d : Nd}, treeN ts as_ sz f t = some d → d.name = (ts.getD t dT).name
 | 0, t, d, h => by cases h
 | f + 1, t, d, h => by
  simp only [treeN] at h
  split at h
  ·cases h
  ·split at h
   ·rename_i h1; rw [← Option.some.inj h]; exact h1.symm
   ·split at h
    ·cases h
    ·split at h
     ·cases h
     ·rw [← Option.some.inj h]; rfl
def FrOk (ks : List Nat) : Int → List Nat → List Int → Prop
 | _, [], [] => True
 | last, n :: w, z :: fr => (0 ≤ z → last < z ∧ z < ks.length ∧ ks.getD z.toNat 0 = n) ∧ FrOk ks (if 0 ≤ z then z else last) w fr
 | _, _, _ => False
theorem Tr.frok {A : Au} {sz : List Int} {ks : List Nat} {rows : List (List Ct)} {m i k : Nat} {w : List Nat} {fr : List Int} (h : Tr A sz ks rows m i k w fr) : ∀ last : Int, last < k → FrOk ks last w fr := by
 induction h with
 | stop => intro last h; trivial
 | @keep m i k w fr hk hg r ih =>
  intro last h
  refine ⟨fun _ => ⟨h, by omega, by rw [Int.toNat_natCast]⟩, ?_⟩
  rw [if_pos (Int.natCast_nonneg k)]
  exact ih _ (by omega)
 | fill hs hg hn r ih =>
  intro last h
  refine ⟨fun h2 => absurd h2 (by decide), ?_⟩
  rw [if_neg (by decide)]
  exact ih _ h
 | drop hk hg hn hc r ih =>
  intro last h
  exact ih _ (by omega)
theorem FrOk.at_ {ks : List Nat} {last : Int} {w : List Nat} {fr : List Int} {i : Nat} (h : FrOk ks last (w.drop i) (fr.drop i)) (hi : i < w.length) (hi2 : i < fr.length) : (0 ≤ fr.getD i 0 → last < fr.getD i 0 ∧ fr.getD i 0 < ks.length ∧ ks.getD (fr.getD i 0).toNat 0 = w.getD i 0) ∧ FrOk ks (if 0 ≤ fr.getD i 0 then fr.getD i 0 else last) (w.drop (i + 1)) (fr.drop (i + 1)) := by
 rw [List.drop_eq_getElem_cons hi, List.drop_eq_getElem_cons hi2] at h
 rw [List.getD_eq_getElem?_getD, List.getElem?_eq_getElem hi2, List.getD_eq_getElem?_getD (l := w), List.getElem?_eq_getElem hi]
 exact h
theorem used_drop (fr : List Int) (i : Nat) (h : i < fr.length) : used (fr.take (i + 1)) = if 0 ≤ fr.getD i 0 then used (fr.take i) + 1 else used (fr.take i) := by
 unfold used
 rw [take_getDG 0 fr i h, List.countP_append, List.countP_cons, List.countP_nil]
 by_cases h1 : 0 ≤ fr.getD i 0
 ·rw [if_pos h1, if_pos (decide_eq_true h1)]
 ·rw [if_neg h1, if_neg (by rw [decide_eq_false h1]; simp)]; rfl
theorem used_le (fr : List Int) : used fr ≤ fr.length := List.countP_le_length
end Fit
end Go.Vl
end
section
namespace Go.Vl
open Go.RowKit (Below)
def tabM (g : Nat) (T : TypeId) (zs : List Int) : ME := .box g T (zs.map fun z => AV.lit (.int .u64 z))
theorem repL_tab {w : World} {N : List Nat} : ∀ {zs : List Int} {row : List Value}, RepL w N (zs.map fun z => AV.lit (.int .u64 z)) row ↔ row = zs.map (Value.int .u64)
 | [], row => by simp [RepL]
 | z :: zs, row => by
  simp only [List.map_cons, RepL]
  constructor
  ·rintro ⟨u, us, rfl, ⟨h1, h2, h3⟩, h4⟩
   rw [lit_cell h1 h3, repL_tab.1 h4]
  ·rintro rfl
   exact ⟨_, _, rfl, ⟨rfl, rfl, by simp only [RepC]; rfl⟩, repL_tab.2 rfl⟩
theorem laid_tl {P : Program} {x : String × DataW Unit} {r : List (String × DataW Unit)} {w : World} (h : laidMet P (x :: r) w) : laidMet P r w := by
 obtain ⟨ps, hv, hnd, hrows⟩ := h
 obtain ⟨n, d⟩ := x
 obtain ⟨g, t, cs, fuel, p, q, _, _, _, _, hq, rfl⟩ := hv
 exact ⟨q, hq, List.Nodup.sublist (List.sublist_append_right _ _) hnd, fun b off hm => hrows b off (List.mem_append_right _ hm)⟩
theorem tab_block {P : Program} {W : World} {name : String} {zs : List Int} {rest : List (String × DataW Unit)} {g : Nat} {t e : TypeId} {n : Nat}
 (hg : P.globalNamed name = some g) (hty : (P.globals[g]?).map (·.type) = some t) (ht : P.underlying t = some (.array n e)) (he : P.underlying e = some (.int .u64)) (hce : P.cellsOf e = 1) (hct : P.cellsOf t = n)
 (hz : 0 < zs.length) (h : laidMet P ((name, Lib.tabData .u64 zs) :: rest) W) : ∃ T, W.heap[g]? = some (.cells (zs.map (Value.int .u64)).toArray T (0, 0)) := by
 have htab := Lib.tabIs_of_head hg hty ht he hce hct h
 obtain ⟨ps, ⟨g', t', cs, fuel, p, q, hg', ht', hvar, hd, _, hps⟩, hnd, hrows⟩ := h
 obtain rfl := Option.some.inj (hg.symm.trans hg')
 have hcs : cs = (zs.map (Value.int .u64)).toArray := Option.some.inj (hvar.symm.trans htab)
 have hsz : 0 < cs.size := by rw [hcs]; simpa using hz
 obtain ⟨⟨c, T, hb⟩, _⟩ := hrows g 0 (by
  rw [hps]
  refine List.mem_append_left _ (List.mem_append_left _ ?_)
  unfold MemPlace.row
  exact List.mem_map.2 ⟨0, List.mem_range.2 hsz, rfl⟩)
 refine ⟨T, ?_⟩
 unfold Lib.TabIs World.var? at htab
 rw [hg, Option.bind_some, hb] at htab
 rw [hb, Option.some.inj htab]
theorem rep_apart {W : World} {g : Nat} {T : TypeId} {fr : Nat × Nat} {zs : List Int} (hg : W.heap[g]? = some (.cells (zs.map (Value.int .u64)).toArray T fr)) {l : List Int} {v : Value} (h : Rep W [] (.sl 1 (l.map AV.int)) v) : Rep W [g] (.sl 1 (l.map AV.int)) v := by
 refine ⟨h.1, ?_⟩
 have h2 := h.2
 simp only [RepC] at h2 ⊢
 obtain ⟨a, cap, e, h3, h4, h5⟩ := h2
 refine ⟨a, cap, e, h3, h4, ?_⟩
 rcases h5 with h5 | ⟨b, off, cur, T', fr', ha, hb, hc, he⟩
 ·exact .inl h5
 ·cases l with
  | nil => exact .inl rfl
  | cons n l =>
   have hi := RepE.toInts he
   refine .inr ⟨b, off, cur, T', fr', ha, ?_, hc, RepE.ints hi⟩
   intro hbg
   have hbg : b = g := by simpa using hbg
   subst hbg
   rw [hg] at hc
   cases hc
   have hmem : (Value.int .i64 n) ∈ ((zs.map (Value.int .u64)).toArray.toList.drop off) := List.mem_of_mem_take (i := (n :: l).length) (by rw [hi]; simp)
   have := List.mem_of_mem_drop hmem
   simp at this
theorem law_callsT {P : Program} {f : FuncId} {avs : List AV} {W : World} {vs : List Value} {g : Nat} {T : TypeId} {zs : List Int} (hg : W.heap[g]? = some (.cells (zs.map (Value.int .u64)).toArray T (0, 0)))
 (h : FnC P f avs [tabM g T zs] (fun r M => r = .lit (.bool true) ∧ M = [tabM g T zs])) (ha : RepT W [g] avs vs) :
 Calls P f vs.toArray W fun e W' => e = .returned (.bool true) ∧ Below W.heap.size W W' := by
 have hm : MOk W [tabM g T zs] [] := ⟨by simp [bl, ME.blks, tabM], by simp, fun m hm => by
  rw [List.mem_singleton.1 hm]
  exact ⟨_, hg, repL_tab.2 (by simp)⟩⟩
 refine (h.2 W [] vs (by simp) hm (by simpa [bl, ME.blks, tabM] using ha)).mono ?_
 rintro e W' ⟨v, r, M', rfl, ⟨rfl, rfl⟩, hm', hr, hf⟩
 have hv := Rep.lit_iff.1 hr
 subst hv
 refine ⟨rfl, hf.os, hf.tape, hf.output, hf.size, fun k hk => ?_⟩
 by_cases hkg : k = g
 ·subst hkg
  obtain ⟨cur, hc, hl⟩ := hm'.holds _ List.mem_cons_self
  rw [hc, hg]
  congr 2
  exact Array.toList_inj.1 (repL_tab.1 hl)
 ·exact (hf.block k hk (by simp [bl, ME.blks, tabM, hkg])).1
end Go.Vl
end
