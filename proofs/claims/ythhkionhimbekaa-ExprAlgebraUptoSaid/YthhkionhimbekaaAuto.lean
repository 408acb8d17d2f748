/-
  Machines, without a program: words that are read; machines in order; that there is one for each set of words.
-/
import Derived.Test.YthhkionhimbekaaExprL
set_option linter.unusedVariables false
set_option linter.unusedSimpArgs false
namespace Go.Vl
structure Au where
  next : List (List Int)
  final : List Bool
namespace Au
/-- where a letter leads -/
def to (a : Au) (i : Int) (c : Int) : Int := (a.next.getD i.toNat []).getD c.toNat (-1)
/-- words from a state on -/
def acc (a : Au) : Int → Lg
  | i, [] => 0 ≤ i ∧ a.final.getD i.toNat false = true
  | i, c :: w => 0 ≤ i ∧ 0 ≤ c ∧ c < 8 ∧ acc a (a.to i c) w
def av (a : Au) : AV := .agg [.sl 1 (a.next.map fun r => .sl 1 (r.map AV.int)), .sl 1 (a.final.map AV.bool)]
/-- as many rows as finals, rows of eight, that lead somewhere -/
structure Shape (a : Au) : Prop where
  pos : 0 < a.next.length
  fin : a.final.length = a.next.length
  row : ∀ i, i < a.next.length → (a.next.getD i []).length = 8
  ent : ∀ i, i < a.next.length → ∀ c, c < 8 → -1 ≤ (a.next.getD i []).getD c (-1) ∧ (a.next.getD i []).getD c (-1) < a.next.length
theorem acc_neg {a : Au} {i : Int} (h : i < 0) (w : List Int) : ¬ a.acc i w := by
  cases w <;> simp only [acc] <;> omega
theorem acc_cons {a : Au} {i c : Int} {w : List Int} (hi : 0 ≤ i) (h0 : 0 ≤ c) (h8 : c < 8) : a.acc i (c :: w) ↔ a.acc (a.to i c) w := by
  simp only [acc]; exact ⟨fun h => h.2.2.2, fun h => ⟨hi, h0, h8, h⟩⟩
theorem acc_over {a : Au} : ∀ {w : List Int} {i : Int}, a.acc i w → ∀ c ∈ w, 0 ≤ c ∧ c < 8
  | [], _, _, c, hc => by cases hc
  | d :: w, i, h, c, hc => by
    simp only [acc] at h
    rcases List.mem_cons.1 hc with rfl | hc
    · exact ⟨h.2.1, h.2.2.1⟩
    · exact acc_over h.2.2.2 c hc
/-- the state behind a word -/
def run (a : Au) (i : Int) (w : List Int) : Int := w.foldl (fun i c => if 0 ≤ i then a.to i c else i) i
theorem run_neg {a : Au} {i : Int} (h : i < 0) : ∀ w : List Int, a.run i w = i
  | [] => rfl
  | c :: w => by
    show a.run (if 0 ≤ i then a.to i c else i) w = i
    rw [if_neg (by omega)]; exact run_neg h w
theorem run_cons (a : Au) (i c : Int) (w : List Int) (hi : 0 ≤ i) : a.run i (c :: w) = a.run (a.to i c) w := by
  show a.run (if 0 ≤ i then a.to i c else i) w = _
  rw [if_pos hi]
theorem run_snoc (a : Au) (i c : Int) (w : List Int) : a.run i (w ++ [c]) = if 0 ≤ a.run i w then a.to (a.run i w) c else a.run i w := by
  rw [run, List.foldl_append]; rfl
theorem acc_run {a : Au} : ∀ (w : List Int) (i : Int), (∀ c ∈ w, 0 ≤ c ∧ c < 8) → (a.acc i w ↔ 0 ≤ a.run i w ∧ a.final.getD (a.run i w).toNat false = true)
  | [], i, _ => Iff.rfl
  | c :: w, i, h => by
    by_cases hi : 0 ≤ i
    · rw [acc_cons hi (h c List.mem_cons_self).1 (h c List.mem_cons_self).2, run_cons a i c w hi]
      exact acc_run w _ fun d hd => h d (List.mem_cons_of_mem _ hd)
    · rw [run_neg (by omega)]
      exact ⟨fun h' => absurd h' (acc_neg (by omega) _), fun h' => absurd h'.1 hi⟩
theorem to_range {a : Au} (h : a.Shape) {i c : Int} (hi0 : 0 ≤ i) (hi : i < a.next.length) (h0 : 0 ≤ c) (h8 : c < 8) : -1 ≤ a.to i c ∧ a.to i c < a.next.length :=
  h.ent i.toNat (by omega) c.toNat (by omega)
theorem run_range {a : Au} (h : a.Shape) : ∀ (w : List Int) (i : Int), -1 ≤ i → i < a.next.length → (∀ c ∈ w, 0 ≤ c ∧ c < 8) → -1 ≤ a.run i w ∧ a.run i w < a.next.length
  | [], i, h1, h2, _ => ⟨h1, h2⟩
  | c :: w, i, h1, h2, hw => by
    by_cases hi : 0 ≤ i
    · rw [run_cons a i c w hi]
      have h3 := to_range h hi h2 (hw c List.mem_cons_self).1 (hw c List.mem_cons_self).2
      exact run_range h w _ h3.1 h3.2 fun d hd => hw d (List.mem_cons_of_mem _ hd)
    · rw [run_neg (by omega)]; exact ⟨h1, h2⟩
/-- a machine in order, each of whose states leads to an end -/
structure Canon (a : Au) : Prop extends Shape a where
  live : ∀ i : Nat, i < a.next.length → ∃ w, a.acc (i : Int) w
  apart : ∀ i j : Nat, i < a.next.length → j < a.next.length → (∀ w, a.acc (i : Int) w ↔ a.acc (j : Int) w) → i = j
  first : ∀ k : Nat, 0 < k → k < a.next.length → ∃ i c : Nat, i < k ∧ c < 8 ∧ a.to (i : Int) (c : Int) = k ∧
    ∀ i' c' : Nat, (i' < i ∨ i' = i ∧ c' < c) → c' < 8 → a.to (i' : Int) (c' : Int) < k
def dead : Au := ⟨[List.replicate 8 (-1)], [false]⟩
theorem dead_to (c : Int) : dead.to 0 c = -1 := by
  simp only [to, dead, Int.toNat_zero, List.getD_cons_zero]
  rw [List.getD_eq_getElem?_getD, List.getElem?_replicate]
  split <;> rfl
theorem dead_acc (w : List Int) : ¬ dead.acc 0 w := by
  cases w with
  | nil => simp [acc, dead]
  | cons c w => simp only [acc, dead_to]; intro h; exact acc_neg (by decide) _ h.2.2.2
/-- a machine that belongs to its words -/
def Ord (a : Au) : Prop := a.Canon ∨ a = dead
theorem Ord.shape {a : Au} (h : a.Ord) : a.Shape := by
  rcases h with h | rfl
  · exact h.toShape
  · refine ⟨by decide, rfl, ?_, ?_⟩ <;> (intro i hi; obtain rfl : i = 0 := by simp [dead] at hi; omega)
    · rfl
    · intro c hc
      have := dead_to (c : Int)
      simp only [to, Int.toNat_zero, Int.toNat_natCast] at this
      rw [this]; decide
private theorem same_upto {a b : Au} (ha : a.Canon) (hb : b.Canon) (h0 : ∀ w, a.acc 0 w ↔ b.acc 0 w) :
    ∀ k, k ≤ a.next.length → (k ≤ b.next.length ∧ ∀ j, j < k → ∀ w, a.acc (j : Int) w ↔ b.acc (j : Int) w) := by
  have lem : ∀ {a b : Au}, a.Canon → b.Canon → ∀ k, 0 < k → k ≤ b.next.length → (∀ j, j < k → ∀ w, a.acc (j : Int) w ↔ b.acc (j : Int) w) →
      ∀ i c : Nat, i < k → c < 8 → a.to (i : Int) (c : Int) = (k : Int) → k < a.next.length →
      (k : Int) ≤ b.to (i : Int) (c : Int) := by
    intro a b ha hb k hk hkb hj i c hi hc he hka
    have hr := to_range hb.toShape (i := (i : Int)) (c := (c : Int)) (by omega) (by omega) (by omega) (by omega)
    rcases Int.lt_or_le (b.to (i : Int) (c : Int)) (k : Int) with h | h
    · exfalso
      have hw : ∀ w, a.acc (k : Int) w ↔ b.acc (b.to (i : Int) (c : Int)) w := fun w => by
        rw [← he, ← acc_cons (by omega) (by omega) (by omega), ← acc_cons (by omega) (by omega) (by omega)]
        exact hj i hi _
      rcases Int.lt_or_le (b.to (i : Int) (c : Int)) 0 with h1 | h1
      · obtain ⟨w, hl⟩ := ha.live k hka
        exact acc_neg h1 w ((hw w).1 hl)
      · obtain ⟨j, hjj⟩ : ∃ j : Nat, b.to (i : Int) (c : Int) = (j : Int) := ⟨_, (Int.toNat_of_nonneg h1).symm⟩
        rw [hjj] at hw h
        have := ha.apart k j hka (by omega) fun w => (hw w).trans (hj j (by omega) w).symm
        omega
    · exact h
  intro k
  induction k with
  | zero => exact fun _ => ⟨Nat.zero_le _, fun j hj => absurd hj (Nat.not_lt_zero _)⟩
  | succ k ih =>
    intro hk
    obtain ⟨h1, h2⟩ := ih (by omega)
    rcases Nat.eq_zero_or_pos k with rfl | hk0
    · refine ⟨hb.pos, fun j hj => ?_⟩
      obtain rfl : j = 0 := by omega
      exact h0
    · obtain ⟨i, c, hi, hc, he, hmin⟩ := ha.first k hk0 (by omega)
      have hge := lem ha hb k hk0 h1 h2 i c hi hc he (by omega)
      have hr := to_range hb.toShape (i := (i : Int)) (c := (c : Int)) (by omega) (by omega) (by omega) (by omega)
      have hkb : k < b.next.length := by omega
      obtain ⟨i2, c2, hi2, hc2, he2, hmin2⟩ := hb.first k hk0 hkb
      have hge2 := lem hb ha k hk0 (by omega) (fun j hj w => (h2 j hj w).symm) i2 c2 hi2 hc2 he2 hkb
      have heq : i = i2 ∧ c = c2 := by
        rcases Nat.lt_trichotomy i i2 with h | h | h
        · have := hmin2 i c (.inl h) hc; omega
        · subst h
          rcases Nat.lt_trichotomy c c2 with h | h | h
          · have := hmin2 i c (.inr ⟨rfl, h⟩) hc; omega
          · exact ⟨rfl, h⟩
          · have := hmin i c2 (.inr ⟨rfl, h⟩) hc2; omega
        · have := hmin i2 c2 (.inl h) hc2; omega
      obtain ⟨rfl, rfl⟩ := heq
      refine ⟨hkb, fun j hj w => ?_⟩
      rcases Nat.lt_or_ge j k with h | h
      · exact h2 j h w
      · obtain rfl : j = k := by omega
        have e1 := acc_cons (a := a) (i := (i : Int)) (c := (c : Int)) (w := w) (by omega) (by omega) (by omega)
        have e2 := acc_cons (a := b) (i := (i : Int)) (c := (c : Int)) (w := w) (by omega) (by omega) (by omega)
        rw [he] at e1
        rw [he2] at e2
        rw [← e1, ← e2]
        exact h2 i hi _
theorem list_ext {α : Type} (z : α) {l m : List α} (h : l.length = m.length) (hs : ∀ i, i < l.length → l.getD i z = m.getD i z) : l = m := by
  refine List.ext_getElem h fun i h1 h2 => ?_
  have := hs i h1
  rwa [List.getD_eq_getElem?_getD, List.getD_eq_getElem?_getD, List.getElem?_eq_getElem h1, List.getElem?_eq_getElem h2] at this
/-- TO EACH SET OF WORDS BELONGS JUST ONE MACHINE IN ORDER. -/
theorem Canon.unique {a b : Au} (ha : a.Canon) (hb : b.Canon) (h0 : ∀ w, a.acc 0 w ↔ b.acc 0 w) : a = b := by
  obtain ⟨h1, h2⟩ := same_upto ha hb h0 _ (Nat.le_refl _)
  obtain ⟨h3, _⟩ := same_upto hb ha (fun w => (h0 w).symm) _ (Nat.le_refl _)
  have hn : a.next.length = b.next.length := by omega
  have hto : ∀ i c : Nat, i < a.next.length → c < 8 → a.to (i : Int) (c : Int) = b.to (i : Int) (c : Int) := by
    intro i c hi hc
    have ra := to_range ha.toShape (i := (i : Int)) (c := (c : Int)) (by omega) (by omega) (by omega) (by omega)
    have rb := to_range hb.toShape (i := (i : Int)) (c := (c : Int)) (by omega) (by omega) (by omega) (by omega)
    have hw : ∀ w, a.acc (a.to (i : Int) (c : Int)) w ↔ b.acc (b.to (i : Int) (c : Int)) w := fun w => by
      rw [← acc_cons (by omega) (by omega) (by omega), ← acc_cons (by omega) (by omega) (by omega)]
      exact h2 i hi _
    rcases Int.lt_or_le (a.to (i : Int) (c : Int)) 0 with g1 | g1
    · rcases Int.lt_or_le (b.to (i : Int) (c : Int)) 0 with g2 | g2
      · omega
      · obtain ⟨j, hj⟩ : ∃ j : Nat, b.to (i : Int) (c : Int) = (j : Int) := ⟨_, (Int.toNat_of_nonneg g2).symm⟩
        obtain ⟨w, hl⟩ := hb.live j (by omega)
        rw [hj] at hw
        exact absurd ((hw w).2 hl) (acc_neg g1 w)
    · obtain ⟨j, hj⟩ : ∃ j : Nat, a.to (i : Int) (c : Int) = (j : Int) := ⟨_, (Int.toNat_of_nonneg g1).symm⟩
      obtain ⟨w, hl⟩ := ha.live j (by omega)
      rcases Int.lt_or_le (b.to (i : Int) (c : Int)) 0 with g2 | g2
      · rw [hj] at hw
        exact absurd ((hw w).1 hl) (acc_neg g2 w)
      · obtain ⟨k, hk⟩ : ∃ k : Nat, b.to (i : Int) (c : Int) = (k : Int) := ⟨_, (Int.toNat_of_nonneg g2).symm⟩
        rw [hj, hk] at hw
        have := hb.apart j k (by omega) (by omega) fun w => (h2 j (by omega) w).symm.trans (hw w)
        omega
  have e1 : a.next = b.next := by
    refine list_ext [] hn fun i hi => ?_
    refine list_ext (-1) ((ha.row i hi).trans (hb.row i (by omega)).symm) fun c hc => ?_
    rw [ha.row i hi] at hc
    have := hto i c hi hc
    simpa only [to, Int.toNat_natCast] using this
  have e2 : a.final = b.final := by
    refine list_ext false (by rw [ha.fin, hb.fin, hn]) fun i hi => ?_
    rw [ha.fin] at hi
    have := h2 i hi []
    simp only [acc, Int.toNat_natCast] at this
    have h4 : (a.final.getD i false = true) ↔ (b.final.getD i false = true) := ⟨fun h => (this.1 ⟨by omega, h⟩).2, fun h => (this.2 ⟨by omega, h⟩).2⟩
    exact Bool.eq_iff_iff.2 h4
  cases a; cases b; simp only at e1 e2; subst e1 e2; rfl
theorem Ord.unique {a b : Au} (ha : a.Ord) (hb : b.Ord) (h0 : ∀ w, a.acc 0 w ↔ b.acc 0 w) : a = b := by
  rcases ha with ha | rfl
  · rcases hb with hb | rfl
    · exact ha.unique hb h0
    · obtain ⟨w, hw⟩ := ha.live 0 ha.pos
      exact absurd ((h0 w).1 hw) (dead_acc w)
  · rcases hb with hb | rfl
    · obtain ⟨w, hw⟩ := hb.live 0 hb.pos
      exact absurd ((h0 w).2 hw) (dead_acc w)
    · rfl
end Au
end Go.Vl
