/-
  Merged: Norm Glu ExprR ExprP Reach Live Ord Cnt Que Plc Add.
-/
import Derived.Test.YtacaemfkdieocaaDoorG4
import Derived.Lib.SlicesCompact
import Derived.Lib.Join

section
set_option linter.unusedVariables false
set_option linter.unusedSimpArgs false
namespace Go.Vl
open Go.Lib
def srt (l : List Int) : List Int := l.mergeSort fun x y => decide (x ≤ y)
def norm (l : List Int) : List Int := compact (srt l)
theorem srt_len (l : List Int) : (srt l).length = l.length := by simp [srt]
theorem srt_mem (l : List Int) (x : Int) : x ∈ srt l ↔ x ∈ l := (List.mergeSort_perm l _).mem_iff
theorem srt_asc (l : List Int) : (srt l).Pairwise (· ≤ ·) := by
  have h := List.pairwise_mergeSort (le := fun x y : Int => decide (x ≤ y)) (fun a b c h1 h2 => by simp at h1 h2 ⊢; omega) (fun a b => by simp; omega) l
  exact h.imp fun h => by simpa using h
theorem compact_all' (zs : List Int) (hs : zs.Pairwise (· ≤ ·)) : ∀ m, m ≤ zs.length → (compactUpTo zs.toArray m).Pairwise (· < ·) ∧ (∀ x, x ∈ compactUpTo zs.toArray m ↔ ∃ j, j < m ∧ zs.toArray[j]! = x) ∧ (compactUpTo zs.toArray m).length ≤ m := by
  have hle : ∀ i j, i ≤ j → j < zs.length → zs.toArray[i]! ≤ zs.toArray[j]! := fun i j hij hj => by
    have hi : i < zs.length := by omega
    have e : ∀ k, (hk : k < zs.length) → zs.toArray[k]! = zs[k] := fun k hk => by simp [hk]
    rw [e i hi, e j hj]
    rcases Nat.lt_or_ge i j with h | h
    · exact List.pairwise_iff_getElem.1 hs i j hi hj h
    · obtain rfl : i = j := by omega
      exact Int.le_refl _
  intro m
  induction m with
  | zero => intro _; exact ⟨by simp [compactUpTo], by simp [compactUpTo], by simp [compactUpTo]⟩
  | succ m ih =>
    intro hm
    obtain ⟨h1, h2, h3⟩ := ih (by omega)
    rw [compactUpTo_succ]
    by_cases hk : keeps zs.toArray m = true
    · rw [if_pos hk]
      refine ⟨?_, fun x => ?_, by simp; omega⟩
      · refine List.pairwise_append.2 ⟨h1, by simp, fun x hx y hy => ?_⟩
        rw [List.mem_singleton.1 hy]
        obtain ⟨j, hj, rfl⟩ := (h2 x).1 hx
        have hkk : m = 0 ∨ zs.toArray[m]! ≠ zs.toArray[m - 1]! := by simpa [keeps] using hk
        have a1 := hle j (m - 1) (by omega) (by omega)
        have a2 := hle (m - 1) m (by omega) (by omega)
        rcases hkk with h | h
        · omega
        · have : zs.toArray[m]! ≠ zs.toArray[m - 1]! := h
          omega
      · rw [List.mem_append, List.mem_singleton, h2]
        constructor
        · rintro (⟨j, hj, e⟩ | e)
          · exact ⟨j, by omega, e⟩
          · exact ⟨m, by omega, e.symm⟩
        · rintro ⟨j, hj, e⟩
          rcases Nat.lt_or_ge j m with h | h
          · exact .inl ⟨j, h, e⟩
          · obtain rfl : j = m := by omega
            exact .inr e.symm
    · rw [if_neg hk, List.append_nil]
      have hkk : m ≠ 0 ∧ zs.toArray[m]! = zs.toArray[m - 1]! := by
        have : ¬ (m = 0 ∨ zs.toArray[m]! ≠ zs.toArray[m - 1]!) := by simpa [keeps] using hk
        exact ⟨fun h => this (.inl h), Classical.byContradiction fun h => this (.inr h)⟩
      refine ⟨h1, fun x => ?_, by omega⟩
      rw [h2]
      constructor
      · rintro ⟨j, hj, e⟩; exact ⟨j, by omega, e⟩
      · rintro ⟨j, hj, e⟩
        rcases Nat.lt_or_ge j m with h | h
        · exact ⟨j, h, e⟩
        · obtain rfl : j = m := by omega
          exact ⟨j - 1, by omega, by rw [← hkk.2]; exact e⟩
theorem norm_all (l : List Int) : (norm l).Pairwise (· < ·) ∧ (∀ x, x ∈ norm l ↔ x ∈ l) ∧ (norm l).length ≤ l.length := by
  obtain ⟨h1, h2, h3⟩ := compact_all' (srt l) (srt_asc l) (srt l).length (Nat.le_refl _)
  refine ⟨h1, fun x => ?_, by rw [← srt_len l]; exact h3⟩
  rw [← srt_mem l x]
  refine (h2 x).trans ⟨?_, fun hx => ?_⟩
  · rintro ⟨j, hj, e⟩
    rw [← e]
    simp [hj]
  · obtain ⟨j, hj, rfl⟩ := List.mem_iff_getElem.1 hx
    exact ⟨j, hj, by simp [hj]⟩
theorem norm_mem (l : List Int) (x : Int) : x ∈ norm l ↔ x ∈ l := (norm_all l).2.1 x
theorem norm_len (l : List Int) : (norm l).length ≤ l.length := (norm_all l).2.2
theorem compact_len (l : List Int) (hs : l.Pairwise (· ≤ ·)) : (compact l).length ≤ l.length := (compact_all' l hs l.length (Nat.le_refl _)).2.2
/-- rows that ascend and hold the same are the same -/
theorem asc_ext : ∀ {l m : List Int}, l.Pairwise (· < ·) → m.Pairwise (· < ·) → (∀ x, x ∈ l ↔ x ∈ m) → l = m
  | [], [], _, _, _ => rfl
  | [], b :: m, _, _, h => absurd ((h b).2 List.mem_cons_self) (by simp)
  | a :: l, [], _, _, h => absurd ((h a).1 List.mem_cons_self) (by simp)
  | a :: l, b :: m, hl, hm, h => by
    obtain ⟨l1, l2⟩ := List.pairwise_cons.1 hl
    obtain ⟨m1, m2⟩ := List.pairwise_cons.1 hm
    have hab : a = b := by
      rcases List.mem_cons.1 ((h a).1 List.mem_cons_self) with e | e
      · exact e
      · rcases List.mem_cons.1 ((h b).2 List.mem_cons_self) with e' | e'
        · exact e'.symm
        · have := m1 a e; have := l1 b e'; omega
    subst hab
    congr 1
    refine asc_ext l2 m2 fun x => ?_
    constructor
    · intro hx
      rcases List.mem_cons.1 ((h x).1 (List.mem_cons_of_mem _ hx)) with e | e
      · have := l1 x hx; omega
      · exact e
    · intro hx
      rcases List.mem_cons.1 ((h x).2 (List.mem_cons_of_mem _ hx)) with e | e
      · have := m1 x hx; omega
      · exact e
theorem norm_ext {l m : List Int} (h : ∀ x, x ∈ l ↔ x ∈ m) : norm l = norm m :=
  asc_ext (norm_all l).1 (norm_all m).1 fun x => (norm_mem l x).trans ((h x).trans (norm_mem m x).symm)
/-- digits as_ the library says them -/
theorem itoa_lib (n : Int) (h0 : -1 ≤ n) (h1 : n < 100) : Lib.itoa n = itoa n := by
  unfold Lib.itoa itoa
  by_cases h : n < 0
  · obtain rfl : n = -1 := by omega
    rw [if_pos h, if_pos h, Lib.decDigits, dif_pos (by decide)]; rfl
  · rw [if_neg h, if_neg h]
    by_cases h9 : n < 10
    · rw [if_pos h9, Lib.decDigits, dif_pos (by omega), dgt]
      congr 1
      rw [UInt8.ofNat_add]; rfl
    · rw [if_neg h9, Lib.decDigits, dif_neg (by omega), Lib.decDigits, dif_pos (by omega)]
      show [_, _] = [_, _]
      unfold dgt
      rw [UInt8.ofNat_add, UInt8.ofNat_add]; rfl
end Go.Vl
end

section
set_option linter.unusedVariables false
set_option linter.unusedSimpArgs false
namespace Go.Vl
/-- which places are first, which last, whether the word without letters is meant, which may follow which -/
structure Gl where
  F : Nat → Prop
  L : Nat → Prop
  N : Prop
  E : Nat → Nat → Prop
namespace Gl
/-- words behind a place -/
def rd (ty : Nat → Int) (g : Gl) : Nat → Lg
  | p, [] => g.L p
  | p, c :: w => ∃ q, g.E p q ∧ ty q = c ∧ rd ty g q w
def lg (ty : Nat → Int) (g : Gl) : Lg
  | [] => g.N
  | c :: w => ∃ q, g.F q ∧ ty q = c ∧ rd ty g q w
/-- all places lie from b on and ahead of e -/
structure In (g : Gl) (b e : Nat) : Prop where
  F : ∀ p, g.F p → b ≤ p ∧ p < e
  L : ∀ p, g.L p → b ≤ p ∧ p < e
  E : ∀ p q, g.E p q → (b ≤ p ∧ p < e) ∧ (b ≤ q ∧ q < e)
theorem rd_congr {ty : Nat → Int} {g h : Gl} (R : Nat → Prop) (hL : ∀ p, R p → (g.L p ↔ h.L p)) (hE : ∀ p q, R p → (g.E p q ↔ h.E p q)) (hR : ∀ p q, R p → g.E p q → R q) : ∀ (w : List Int) (p : Nat), R p → (g.rd ty p w ↔ h.rd ty p w)
  | [], p, hp => hL p hp
  | c :: w, p, hp => by
    simp only [rd]
    constructor
    · rintro ⟨q, h1, h2, h3⟩
      exact ⟨q, (hE p q hp).1 h1, h2, (rd_congr R hL hE hR w q (hR p q hp h1)).1 h3⟩
    · rintro ⟨q, h1, h2, h3⟩
      have h1' := (hE p q hp).2 h1
      exact ⟨q, h1', h2, (rd_congr R hL hE hR w q (hR p q hp h1')).2 h3⟩
def one (i : Nat) : Gl := ⟨fun p => p = i, fun p => p = i, False, fun _ _ => False⟩
theorem one_lg (ty : Nat → Int) (i : Nat) : (one i).lg ty = Lg.one (ty i) := Lg.ext fun w => by
  cases w with
  | nil => simp [lg, one, Lg.one]
  | cons c w =>
    simp only [lg, Lg.one, one]
    constructor
    · rintro ⟨q, rfl, rfl, h⟩
      cases w with
      | nil => rfl
      | cons d w => obtain ⟨_, h, _⟩ := h; exact h.elim
    · intro h
      obtain ⟨rfl, rfl⟩ : c = ty i ∧ w = [] := by simpa using h
      exact ⟨i, rfl, rfl, rfl⟩
def nothing (b : Prop) : Gl := ⟨fun _ => False, fun _ => False, b, fun _ _ => False⟩
theorem none_lg (ty : Nat → Int) : (nothing False).lg ty = Lg.none := Lg.ext fun w => by cases w <;> simp [lg, nothing, Lg.none]
theorem eps_lg (ty : Nat → Int) : (nothing True).lg ty = Lg.eps := Lg.ext fun w => by cases w <;> simp [lg, nothing, Lg.eps]
theorem nothing_in (b : Prop) (x : Nat) : (nothing b).In x x := ⟨fun _ h => h.elim, fun _ h => h.elim, fun _ _ h => h.elim⟩
section two
variable {ty : Nat → Int} {g h : Gl} {b m e : Nat}
def or (g h : Gl) : Gl := ⟨fun p => g.F p ∨ h.F p, fun p => g.L p ∨ h.L p, g.N ∨ h.N, fun p q => g.E p q ∨ h.E p q⟩
theorem or_in (hg : g.In b m) (hh : h.In m e) (h1 : b ≤ m) (h2 : m ≤ e) : (or g h).In b e := by
  refine ⟨fun p hp => ?_, fun p hp => ?_, fun p q hp => ?_⟩
  · rcases hp with hp | hp
    · have := hg.F p hp; omega
    · have := hh.F p hp; omega
  · rcases hp with hp | hp
    · have := hg.L p hp; omega
    · have := hh.L p hp; omega
  · rcases hp with hp | hp
    · have := hg.E p q hp; omega
    · have := hh.E p q hp; omega
theorem or_lg (hg : g.In b m) (hh : h.In m e) : (or g h).lg ty = Lg.alt (g.lg ty) (h.lg ty) := Lg.ext fun w => by
  have r1 : ∀ w p, p < m → ((or g h).rd ty p w ↔ g.rd ty p w) := fun w p hp => by
    refine rd_congr (fun p => p < m) (fun p hp => ?_) (fun p q hp => ?_) (fun p q hp hpq => ?_) w p hp
    · exact ⟨fun h' => h'.resolve_right fun h' => by have := hh.L p h'; omega, .inl⟩
    · exact ⟨fun h' => h'.resolve_right fun h' => by have := hh.E p q h'; omega, .inl⟩
    · rcases hpq with h' | h'
      · have := hg.E p q h'; omega
      · have := hh.E p q h'; omega
  have r2 : ∀ w p, m ≤ p → ((or g h).rd ty p w ↔ h.rd ty p w) := fun w p hp => by
    refine rd_congr (fun p => m ≤ p) (fun p hp => ?_) (fun p q hp => ?_) (fun p q hp hpq => ?_) w p hp
    · exact ⟨fun h' => h'.resolve_left fun h' => by have := hg.L p h'; omega, .inr⟩
    · exact ⟨fun h' => h'.resolve_left fun h' => by have := hg.E p q h'; omega, .inr⟩
    · rcases hpq with h' | h'
      · have := hg.E p q h'; omega
      · have := hh.E p q h'; omega
  cases w with
  | nil => exact Iff.rfl
  | cons c w =>
    simp only [lg, Lg.alt]
    constructor
    · rintro ⟨q, hq | hq, h2, h3⟩
      · exact .inl ⟨q, hq, h2, (r1 w q (hg.F q hq).2).1 h3⟩
      · exact .inr ⟨q, hq, h2, (r2 w q (hh.F q hq).1).1 h3⟩
    · rintro (⟨q, hq, h2, h3⟩ | ⟨q, hq, h2, h3⟩)
      · exact ⟨q, .inl hq, h2, (r1 w q (hg.F q hq).2).2 h3⟩
      · exact ⟨q, .inr hq, h2, (r2 w q (hh.F q hq).1).2 h3⟩
def seq (g h : Gl) : Gl := ⟨fun p => g.F p ∨ (g.N ∧ h.F p), fun p => (h.N ∧ g.L p) ∨ h.L p, g.N ∧ h.N, fun p q => (g.E p q ∨ h.E p q) ∨ (g.L p ∧ h.F q)⟩
theorem seq_in (hg : g.In b m) (hh : h.In m e) (h1 : b ≤ m) (h2 : m ≤ e) : (seq g h).In b e := by
  refine ⟨fun p hp => ?_, fun p hp => ?_, fun p q hp => ?_⟩
  · rcases hp with hp | ⟨_, hp⟩
    · have := hg.F p hp; omega
    · have := hh.F p hp; omega
  · rcases hp with ⟨_, hp⟩ | hp
    · have := hg.L p hp; omega
    · have := hh.L p hp; omega
  · rcases hp with (hp | hp) | ⟨hp, hq⟩
    · have := hg.E p q hp; omega
    · have := hh.E p q hp; omega
    · have := hg.L p hp; have := hh.F q hq; omega
theorem seq_lg (hg : g.In b m) (hh : h.In m e) : (seq g h).lg ty = Lg.cat (g.lg ty) (h.lg ty) := Lg.ext fun w => by
  have r2 : ∀ w p, m ≤ p → ((seq g h).rd ty p w ↔ h.rd ty p w) := fun w p hp => by
    refine rd_congr (fun p => m ≤ p) (fun p hp => ?_) (fun p q hp => ?_) (fun p q hp hpq => ?_) w p hp
    · exact ⟨fun h' => h'.resolve_left fun h' => by have := hg.L p h'.2; omega, .inr⟩
    · exact ⟨fun h' => (h'.resolve_right fun h' => by have := hg.L p h'.1; omega).resolve_left fun h' => by have := hg.E p q h'; omega, fun h' => .inl (.inr h')⟩
    · rcases hpq with (h' | h') | ⟨h', h''⟩
      · have := hg.E p q h'; omega
      · have := hh.E p q h'; omega
      · have := hg.L p h'; omega
  have r1 : ∀ w p, p < m → ((seq g h).rd ty p w ↔ ∃ u v, w = u ++ v ∧ g.rd ty p u ∧ h.lg ty v) := by
    intro w
    induction w with
    | nil =>
      intro p hp
      constructor
      · rintro (⟨h1, h2⟩ | h1)
        · exact ⟨[], [], rfl, h2, h1⟩
        · have := hh.L p h1; omega
      · rintro ⟨u, v, e, h1, h2⟩
        obtain ⟨rfl, rfl⟩ := List.append_eq_nil_iff.1 e.symm
        exact .inl ⟨h2, h1⟩
    | cons c w ih =>
      intro p hp
      simp only [rd]
      constructor
      · rintro ⟨q, (h1 | h1) | ⟨h1, h1'⟩, h2, h3⟩
        · obtain ⟨u, v, rfl, h4, h5⟩ := (ih q (hg.E p q h1).2.2).1 h3
          exact ⟨c :: u, v, rfl, ⟨q, h1, h2, h4⟩, h5⟩
        · have := hh.E p q h1; omega
        · exact ⟨[], c :: w, rfl, h1, q, h1', h2, (r2 w q (hh.F q h1').1).1 h3⟩
      · rintro ⟨u, v, e, h1, h2⟩
        cases u with
        | nil =>
          have e : c :: w = v := e
          subst e
          obtain ⟨q, h3, h4, h5⟩ := h2
          exact ⟨q, .inr ⟨h1, h3⟩, h4, (r2 w q (hh.F q h3).1).2 h5⟩
        | cons d u =>
          obtain ⟨rfl, rfl⟩ : c = d ∧ w = u ++ v := by simpa using e
          obtain ⟨q, h3, h4, h5⟩ := h1
          exact ⟨q, .inl (.inl h3), h4, (ih q (hg.E p q h3).2.2).2 ⟨u, v, rfl, h5, h2⟩⟩
  cases w with
  | nil =>
    constructor
    · rintro ⟨h1, h2⟩; exact ⟨[], [], rfl, h1, h2⟩
    · rintro ⟨u, v, e, h1, h2⟩
      obtain ⟨rfl, rfl⟩ := List.append_eq_nil_iff.1 e.symm
      exact ⟨h1, h2⟩
  | cons c w =>
    constructor
    · rintro ⟨q, h1 | ⟨h1, h1'⟩, h2, h3⟩
      · obtain ⟨u, v, rfl, h4, h5⟩ := (r1 w q (hg.F q h1).2).1 h3
        exact ⟨c :: u, v, rfl, ⟨q, h1, h2, h4⟩, h5⟩
      · exact ⟨[], c :: w, rfl, h1, q, h1', h2, (r2 w q (hh.F q h1').1).1 h3⟩
    · rintro ⟨u, v, e, h1, h2⟩
      cases u with
      | nil =>
        have e : c :: w = v := e
        subst e
        obtain ⟨q, h3, h4, h5⟩ := h2
        exact ⟨q, .inr ⟨h1, h3⟩, h4, (r2 w q (hh.F q h3).1).2 h5⟩
      | cons d u =>
        obtain ⟨rfl, rfl⟩ : c = d ∧ w = u ++ v := by simpa using e
        obtain ⟨q, h3, h4, h5⟩ := h1
        exact ⟨q, .inl h3, h4, (r1 (u ++ v) q (hg.F q h3).2).2 ⟨u, v, rfl, h5, h2⟩⟩
/-- what is last may be followed by what is first -/
def loop (g : Gl) (n : Prop) : Gl := ⟨g.F, g.L, n, fun p q => g.E p q ∨ (g.L p ∧ g.F q)⟩
theorem loop_in {n : Prop} (hg : g.In b e) : (loop g n).In b e := by
  refine ⟨hg.F, hg.L, fun p q hp => ?_⟩
  rcases hp with hp | ⟨hp, hq⟩
  · exact hg.E p q hp
  · exact ⟨hg.L p hp, hg.F q hq⟩
theorem star_cons {A : Lg} {z : List Int} (hz : Lg.star A z) : ∀ c w, z = c :: w → ∃ u v, w = u ++ v ∧ A (c :: u) ∧ Lg.star A v := by
  induction hz with
  | nil => intro c w e; cases e
  | cons u v hu hv ih =>
    intro c w e
    cases u with
    | nil => exact ih c w e
    | cons d u =>
      obtain ⟨rfl, rfl⟩ : d = c ∧ u ++ v = w := by simpa using e
      exact ⟨u, v, rfl, hu, hv⟩
theorem loop_rd {n : Prop} : ∀ (w : List Int) (p : Nat), (loop g n).rd ty p w ↔ ∃ u v, w = u ++ v ∧ g.rd ty p u ∧ Lg.star (g.lg ty) v
  | [], p => by
    constructor
    · intro h1; exact ⟨[], [], rfl, h1, .nil⟩
    · rintro ⟨u, v, e, h1, h2⟩
      obtain ⟨rfl, rfl⟩ := List.append_eq_nil_iff.1 e.symm
      exact h1
  | c :: w, p => by
    have ih := loop_rd (n := n) w
    simp only [rd]
    constructor
    · rintro ⟨q, h1 | ⟨h1, h1'⟩, h2, h3⟩
      · obtain ⟨u, v, rfl, h4, h5⟩ := (ih q).1 h3
        exact ⟨c :: u, v, rfl, ⟨q, h1, h2, h4⟩, h5⟩
      · obtain ⟨u, v, rfl, h4, h5⟩ := (ih q).1 h3
        exact ⟨[], c :: (u ++ v), rfl, h1, .cons (c :: u) v ⟨q, h1', h2, h4⟩ h5⟩
    · rintro ⟨u, v, e, h1, h2⟩
      cases u with
      | nil =>
        have e : c :: w = v := e
        obtain ⟨u, v, rfl, ⟨q, h3, h4, h5⟩, h6⟩ := star_cons h2 c w e.symm
        exact ⟨q, .inr ⟨h1, h3⟩, h4, (ih q).2 ⟨u, v, rfl, h5, h6⟩⟩
      | cons d u =>
        obtain ⟨rfl, rfl⟩ : c = d ∧ w = u ++ v := by simpa using e
        obtain ⟨q, h3, h4, h5⟩ := h1
        exact ⟨q, .inl h3, h4, (ih q).2 ⟨u, v, rfl, h5, h2⟩⟩
theorem loop_lg_cons {n : Prop} (c : Int) (w : List Int) : (loop g n).lg ty (c :: w) ↔ Lg.star (g.lg ty) (c :: w) := by
  constructor
  · rintro ⟨q, h1, h2, h3⟩
    obtain ⟨u, v, rfl, h4, h5⟩ := (loop_rd w q).1 h3
    exact .cons (c :: u) v ⟨q, h1, h2, h4⟩ h5
  · intro h1
    obtain ⟨u, v, rfl, ⟨q, h3, h4, h5⟩, h6⟩ := star_cons h1 c w rfl
    exact ⟨q, h3, h4, (loop_rd (u ++ v) q).2 ⟨u, v, rfl, h5, h6⟩⟩
theorem star_lg : (loop g True).lg ty = Lg.star (g.lg ty) := Lg.ext fun w => by
  cases w with
  | nil => exact ⟨fun _ => .nil, fun _ => trivial⟩
  | cons c w => exact loop_lg_cons c w
theorem plus_lg : (loop g g.N).lg ty = Lg.cat (g.lg ty) (Lg.star (g.lg ty)) := Lg.ext fun w => by
  cases w with
  | nil =>
    constructor
    · intro h1; exact ⟨[], [], rfl, h1, .nil⟩
    · rintro ⟨u, v, e, h1, h2⟩
      obtain ⟨rfl, rfl⟩ := List.append_eq_nil_iff.1 e.symm
      exact h1
  | cons c w =>
    rw [loop_lg_cons]
    constructor
    · intro h1
      obtain ⟨u, v, rfl, h2, h3⟩ := star_cons h1 c w rfl
      exact ⟨c :: u, v, rfl, h2, h3⟩
    · rintro ⟨u, v, e, h1, h2⟩
      rw [e]; exact .cons u v h1 h2
def opt (g : Gl) : Gl := ⟨g.F, g.L, True, g.E⟩
theorem opt_in (hg : g.In b e) : (opt g).In b e := ⟨hg.F, hg.L, hg.E⟩
theorem opt_lg : (opt g).lg ty = Lg.alt Lg.eps (g.lg ty) := Lg.ext fun w => by
  cases w with
  | nil => exact ⟨fun _ => .inl rfl, fun _ => trivial⟩
  | cons c w =>
    have hr : ∀ w p, (opt g).rd ty p w ↔ g.rd ty p w := fun w p => rd_congr (g := opt g) (h := g) (fun _ => True) (fun _ _ => Iff.rfl) (fun _ _ _ => Iff.rfl) (fun _ _ _ _ => trivial) w p trivial
    constructor
    · rintro ⟨q, h1, h2, h3⟩; exact .inr ⟨q, h1, h2, (hr w q).1 h3⟩
    · rintro (h1 | ⟨q, h1, h2, h3⟩)
      · cases h1
      · exact ⟨q, h1, h2, (hr w q).2 h3⟩
/-- other letters elsewhere do not count -/
theorem lg_ty {ty' : Nat → Int} (hg : g.In b e) (ht : ∀ p, b ≤ p → p < e → ty p = ty' p) : g.lg ty = g.lg ty' := Lg.ext fun w => by
  have hr : ∀ w p, g.rd ty p w ↔ g.rd ty' p w := by
    intro w
    induction w with
    | nil => intro p; exact Iff.rfl
    | cons c w ih =>
      intro p
      simp only [rd]
      constructor
      · rintro ⟨q, h1, h2, h3⟩
        have := (hg.E p q h1).2
        exact ⟨q, h1, by rw [← ht q this.1 this.2]; exact h2, (ih q).1 h3⟩
      · rintro ⟨q, h1, h2, h3⟩
        have := (hg.E p q h1).2
        exact ⟨q, h1, by rw [ht q this.1 this.2]; exact h2, (ih q).2 h3⟩
  cases w with
  | nil => exact Iff.rfl
  | cons c w =>
    simp only [lg]
    constructor
    · rintro ⟨q, h1, h2, h3⟩
      have := hg.F q h1
      exact ⟨q, h1, by rw [← ht q this.1 this.2]; exact h2, (hr w q).1 h3⟩
    · rintro ⟨q, h1, h2, h3⟩
      have := hg.F q h1
      exact ⟨q, h1, by rw [ht q this.1 this.2]; exact h2, (hr w q).2 h3⟩
theorem ext' {g h : Gl} (hF : ∀ p, g.F p ↔ h.F p) (hL : ∀ p, g.L p ↔ h.L p) (hN : g.N ↔ h.N) (hE : ∀ p q, g.E p q ↔ h.E p q) : g = h := by
  cases g; cases h
  simp only [Gl.mk.injEq]
  exact ⟨funext fun p => propext (hF p), funext fun p => propext (hL p), propext hN, funext fun p => funext fun q => propext (hE p q)⟩
end two
end Gl
end Go.Vl
end

section
set_option linter.unusedVariables false
set_option linter.unusedSimpArgs false
namespace Go.Vl
namespace Lg
def over (N : Int) (A : Lg) : Prop := ∀ w, A w → ∀ c ∈ w, 0 ≤ c ∧ c < N
def live (A : Lg) : Prop := ∃ w, A w
section closed
variable {N : Int} {A B : Lg}
theorem over_eps : over N eps := fun w h c hc => by rw [show w = [] from h] at hc; cases hc
theorem over.cat (ha : over N A) (hb : over N B) : over N (cat A B) := by
  rintro _ ⟨u, v, rfl, hu, hv⟩ c hc
  rcases List.mem_append.1 hc with hc | hc
  · exact ha u hu c hc
  · exact hb v hv c hc
theorem over.alt (ha : over N A) (hb : over N B) : over N (alt A B) := by
  rintro w (h | h)
  · exact ha w h
  · exact hb w h
theorem over.star (ha : over N A) : over N (star A) := by
  intro w hw
  induction hw with
  | nil => intro c hc; cases hc
  | cons u v hu _ ih =>
    intro c hc
    rcases List.mem_append.1 hc with hc | hc
    · exact ha u hu c hc
    · exact ih c hc
theorem over.sfl (ha : over N A) (k : Nat) : over N (sfl A k) := by
  unfold Lg.sfl
  split
  · exact ha.star
  · split
    · exact ha.cat ha.star
    · exact over_eps.alt ha
theorem over.foldl : ∀ (sf : List Nat) {A : Lg}, over N A → over N (sf.foldl Lg.sfl A)
  | [], _, h => h
  | k :: sf, _, h => over.foldl sf (h.sfl k)
theorem live.cat (ha : live A) (hb : live B) : live (cat A B) := by
  obtain ⟨u, hu⟩ := ha; obtain ⟨v, hv⟩ := hb; exact ⟨u ++ v, u, v, rfl, hu, hv⟩
theorem live.sfl (ha : live A) (k : Nat) : live (sfl A k) := by
  unfold Lg.sfl
  split
  · exact ⟨[], .nil⟩
  · split
    · exact ha.cat ⟨[], .nil⟩
    · exact ⟨[], .inl rfl⟩
theorem live.foldl : ∀ (sf : List Nat) {A : Lg}, live A → live (sf.foldl Lg.sfl A)
  | [], _, h => h
  | k :: sf, _, h => live.foldl sf (h.sfl k)
end closed
/-- all letters changed by so much -/
def shift (k : Int) (A : Lg) : Lg := fun w => ∃ v, w = v.map (· + k) ∧ A v
end Lg
namespace It
mutual
/-- letters blw N -/
def blw (N : Nat) : It → Prop
  | ch n _ => n < N
  | gr s a _ => blws N s ∧ blwa N a
def blws (N : Nat) : List It → Prop
  | [] => True
  | i :: s => blw N i ∧ blws N s
def blwa (N : Nat) : List (List It) → Prop
  | [] => True
  | s :: a => blws N s ∧ blwa N a
end
theorem blws_iff (N : Nat) (s : List It) : blws N s ↔ ∀ i ∈ s, blw N i := by
  induction s with
  | nil => simp [blws]
  | cons d l ih => simp [blws, ih]
theorem blws_append {N : Nat} {s t : List It} (hs : blws N s) (ht : blws N t) : blws N (s ++ t) :=
  (blws_iff N _).2 fun i hi => (List.mem_append.1 hi).elim ((blws_iff N s).1 hs i) ((blws_iff N t).1 ht i)
theorem oks_append {s t : List It} (hs : oks s) (ht : oks t) : oks (s ++ t) :=
  (oks_iff _).2 fun i hi => (List.mem_append.1 hi).elim ((oks_iff s).1 hs i) ((oks_iff t).1 ht i)
mutual
/-- letters that are changed -/
def ren (k : Nat) : It → It
  | ch n sf => ch (n + k) sf
  | gr s a sf => gr (rens k s) (rena k a) sf
def rens (k : Nat) : List It → List It
  | [] => []
  | i :: s => ren k i :: rens k s
def rena (k : Nat) : List (List It) → List (List It)
  | [] => []
  | s :: a => rens k s :: rena k a
end
/-- .. and their texts -/
def rc (k : Nat) (c : UInt8) : UInt8 := if 97 ≤ c.toNat ∧ c.toNat ≤ 99 then c + UInt8.ofNat k else c
end It
end Go.Vl
end

section
set_option linter.unusedVariables false
set_option linter.unusedSimpArgs false
namespace Go.Vl
namespace It
/-- what may stand behind alternatives; a sequence; an item -/
def endA (r : List UInt8) : Prop := r = [] ∨ ∃ t, r = 41 :: t
def endS (r : List UInt8) : Prop := r = [] ∨ ∃ t, r = 41 :: t ∨ r = 124 :: t
def endI (r : List UInt8) : Prop := ∀ c t, r = c :: t → c ≠ 42 ∧ c ≠ 43 ∧ c ≠ 63
theorem ch_nat (n : Nat) (h : n < 8) : (97 + UInt8.ofNat n).toNat = 97 + n := by
  rcases (show n = 0 ∨ n = 1 ∨ n = 2 ∨ n = 3 ∨ n = 4 ∨ n = 5 ∨ n = 6 ∨ n = 7 from by omega) with rfl | rfl | rfl | rfl | rfl | rfl | rfl | rfl <;> rfl
theorem tx_head (i : It) (h : ok i) : ∃ c t, tx i = c :: t ∧ ((97 ≤ c.toNat ∧ c.toNat ≤ 104) ∨ c = 40) := by
  cases i with
  | ch n sf =>
    simp only [ok] at h
    refine ⟨_, _, by rw [tx], .inl ?_⟩
    rw [ch_nat n h.1]; omega
  | gr s a sf => exact ⟨_, _, by rw [tx], .inr rfl⟩
theorem endA.s {r : List UInt8} (h : endA r) : endS r := by
  rcases h with h | ⟨t, h⟩
  · exact .inl h
  · exact .inr ⟨t, .inl h⟩
theorem endS.i {r : List UInt8} (h : endS r) : endI r := by
  rintro c t rfl
  rcases h with h | ⟨t', h | h⟩
  · cases h
  · obtain ⟨rfl, rfl⟩ := List.cons.inj h; decide
  · obtain ⟨rfl, rfl⟩ := List.cons.inj h; decide
theorem endS_atl (a : List (List It)) {r : List UInt8} (h : endA r) : endS (atl a ++ r) := by
  cases a with
  | nil => exact h.s
  | cons s a => exact .inr ⟨_, .inr rfl⟩
theorem endA_close (r : List UInt8) : endA (41 :: r) := .inr ⟨r, rfl⟩
theorem endI_stx (s : List It) (hs : oks s) {r : List UInt8} (h : endS r) : endI (stx s ++ r) := by
  cases s with
  | nil => exact h.i
  | cons i s =>
    obtain ⟨c, t, e, hc⟩ := tx_head i hs.1
    intro c' t' e'
    rw [stx, e] at e'
    obtain ⟨rfl, rfl⟩ := List.cons.inj e'
    rcases hc with hc | rfl
    · refine ⟨?_, ?_, ?_⟩ <;> (rintro rfl; simp at hc)
    · decide
theorem sg_idx (k : Nat) (h : k < 3) : idxI (fun b => b == sg k) [42, 43, 63] = (k : Int) := by
  rcases (show k = 0 ∨ k = 1 ∨ k = 2 from by omega) with rfl | rfl | rfl <;> rfl
theorem idx_no (c : UInt8) (h : c ≠ 42 ∧ c ≠ 43 ∧ c ≠ 63) : idxI (fun b => b == c) [42, 43, 63] = -1 := by
  refine idxI_miss _ _ fun d hd => ?_
  simp only [List.mem_cons, List.not_mem_nil, or_false] at hd
  rcases hd with rfl | rfl | rfl
  · exact beq_eq_false_iff_ne.2 (Ne.symm h.1)
  · exact beq_eq_false_iff_ne.2 (Ne.symm h.2.1)
  · exact beq_eq_false_iff_ne.2 (Ne.symm h.2.2)
theorem drop_cons (s : List It) (k : Nat) (h : k < s.length) : stx (s.drop k) = tx (s.getD k (ch 0 [])) ++ stx (s.drop (k + 1)) := by
  rw [drop_getDG (ch 0 []) s k h, stx]
theorem sfdrop (sf : List Nat) (k : Nat) (h : k < sf.length) (r : List UInt8) : (sf.drop k).map sg ++ r = sg (sf.getD k 0) :: ((sf.drop (k + 1)).map sg ++ r) := by
  rw [drop_getDG 0 sf k h]; rfl
theorem tail1 (c : UInt8) (r : List UInt8) : List.drop (Int.toNat 1) (List.take (((c :: r).length : Nat) : Int).toNat (c :: r)) = r := by simp
theorem u8ne {c : UInt8} {n : Nat} (hn : n < 256) (h : c ≠ UInt8.ofNat n) : ((c.toNat : Nat) : Int) ≠ (n : Int) := by
  intro h'; apply h; apply UInt8.toNat_inj.1; simp [Nat.mod_eq_of_lt hn]; omega
/-- the pieces of an alternative's text -/
theorem atl_drop (a : List (List It)) (k : Nat) (h : k < a.length) : atl (a.drop k) = 124 :: (stx (a.getD k []) ++ atl (a.drop (k + 1))) := by
  rw [drop_getDG [] a k h, atl]
end It
theorem Ex.joinW_lib (sep : List UInt8) : ∀ l : List (List UInt8), Ex.joinW sep l = Lib.join l sep
  | [] => rfl
  | [s] => by simp [Ex.joinW, Lib.join, List.intercalate]
  | s :: t :: l => by
    rw [Ex.joinW, Ex.joinW_lib sep (t :: l)]
    simp [Lib.join, List.intercalate]
theorem Ex.letter8 (t : Int) (h0 : 0 ≤ t) (h8 : t < 8) : List.drop t.toNat (List.take (t + 1).toNat [97, 98, 99, 100, 101, 102, 103, 104]) = [97 + UInt8.ofNat t.toNat] := by
  obtain ⟨n, rfl⟩ : ∃ n : Nat, t = (n : Int) := ⟨t.toNat, by omega⟩
  rw [show ((n : Int) + 1).toNat = n + 1 from by omega, Int.toNat_natCast]
  rcases (show n = 0 ∨ n = 1 ∨ n = 2 ∨ n = 3 ∨ n = 4 ∨ n = 5 ∨ n = 6 ∨ n = 7 from by omega) with rfl | rfl | rfl | rfl | rfl | rfl | rfl | rfl <;> rfl
theorem Ex.join0_le (x : Ex) : (Ex.joinW [] (x.parts.map (Ex.ptx1 x.kind))).length = Ex.sumL (x.parts.map (Ex.ptx1 x.kind)) := by
  rw [Ex.joinW_nil, List.length_flatten]; rfl
theorem Ex.join1_le (x : Ex) : (Ex.joinW [124] (x.parts.map (Ex.ptx1 x.kind))).length ≤ Ex.sumL (x.parts.map (Ex.ptx1 x.kind)) + x.parts.length := by
  have := Ex.joinW_len [124] (x.parts.map (Ex.ptx1 x.kind))
  simp only [List.length_singleton, List.length_map, Nat.mul_one] at this
  split at this <;> omega
/-- how long the parts' texts are -/
def Ex.wz (x : Ex) : Nat := Ex.sumL (x.parts.map (Ex.ptx1 x.kind)) + x.parts.length + 2
theorem Ex.ptx_len (x : Ex) : ∀ d ∈ x.parts, (Ex.txt d).length ≤ Ex.wz x := by
  intro d hd
  have h1 : (Ex.txt d).length ≤ (Ex.ptx1 x.kind d).length := by unfold Ex.ptx1; split <;> simp; omega
  have h2 : ∀ l : List Ex, d ∈ l → (Ex.ptx1 x.kind d).length ≤ Ex.sumL (l.map (Ex.ptx1 x.kind)) := by
    intro l
    induction l with
    | nil => intro h; cases h
    | cons e l ih =>
      intro h
      rw [List.map_cons, Ex.sumL_cons]
      rcases List.mem_cons.1 h with rfl | h
      · omega
      · have := ih h; omega
  have := h2 _ hd
  unfold Ex.wz; omega
theorem Ex.sign3 (k : Int) (j : Nat) (h : k - 4 = (j : Int)) (hj : j < 3) : List.drop ((j : Nat) : Int).toNat (List.take (((j : Nat) : Int) + 1).toNat [42, 43, 63]) = [Ex.sgn k] := by
  rw [show (((j : Nat) : Int) + 1).toNat = j + 1 from by omega, Int.toNat_natCast]
  obtain rfl : k = 4 + (j : Int) := by omega
  rcases (show j = 0 ∨ j = 1 ∨ j = 2 from by omega) with rfl | rfl | rfl <;> rfl
theorem Ex.part_txt (x : Ex) (h1 : Ex.ok1 x) : ∀ d ∈ x.parts, (Ex.txt d).length ≤ (Ex.txt x).length := by
  intro d hd
  have hp : (Ex.txt d).length ≤ (Ex.ptx1 x.kind d).length := by unfold Ex.ptx1; split <;> simp; omega
  have hm : ∀ (sep : List UInt8) (l : List Ex), d ∈ l → (Ex.ptx1 x.kind d).length ≤ (Ex.joinW sep (l.map (Ex.ptx1 x.kind))).length := by
    intro sep l
    induction l with
    | nil => intro h; cases h
    | cons e l ih =>
      intro h
      rw [List.map_cons, Ex.joinW_cons, List.length_append]
      rcases List.mem_cons.1 h with rfl | h
      · omega
      · have := ih h
        cases l with
        | nil => cases h
        | cons f l =>
          rw [List.map_cons, Ex.joinW_cons, List.length_append] at this
          rw [List.map_cons, List.flatMap_cons, List.length_append, List.length_append]; omega
  rw [Ex.txt_eq x]
  split
  · rename_i e
    rcases h1 with h1 | h1 | h1 | h1
    · rw [h1.2.1] at hd; cases hd
    · omega
    · omega
    · omega
  · split
    · have := hm [] _ hd; omega
    · split
      · have := hm [124] _ hd; omega
      · have := hm [] _ hd; rw [List.length_append]; omega
theorem Ex.wz_le (x : Ex) (h1 : Ex.ok1 x) : Ex.wz x ≤ (Ex.txt x).length + x.parts.length + 2 := by
  have h0 := Ex.join0_le x
  have h3 := Ex.joinW_len [124] (x.parts.map (Ex.ptx1 x.kind))
  unfold Ex.wz
  rw [Ex.txt_eq x]
  simp only [List.length_singleton, List.length_map, Nat.mul_one] at h3
  split
  · rename_i e
    have : x.parts = [] := by
      rcases h1 with h1 | h1 | h1 | h1
      · exact h1.2.1
      · omega
      · omega
      · omega
    rw [this]; simp [Ex.sumL]
  · split
    · omega
    · split
      · rename_i e
        have hn : x.parts.map (Ex.ptx1 x.kind) ≠ [] := by
          intro h'
          have : x.parts = [] := by simpa using h'
          rcases h1 with h1 | h1 | h1 | h1
          · omega
          · omega
          · rw [this] at h1; simp at h1
          · omega
        rw [if_neg hn] at h3
        have : x.parts.length ≠ 0 := fun h => hn (by rw [List.eq_nil_of_length_eq_zero h]; rfl)
        omega
      · rw [List.length_append]; omega
theorem Ex.ok1_facts {x : Ex} (h : Ex.ok1 x) : (1 ≤ x.kind ∧ x.kind ≤ 6) ∧ (0 ≤ x.type ∧ x.type < 8) ∧ (x.kind = 1 → x.parts.length = 0) ∧ (x.kind ≠ 1 → x.type = 0) ∧ ((x.kind = 2 ∨ x.kind = 3) → x.parts.length ≠ 1) ∧ (x.kind = 3 → x.parts.length ≠ 0) ∧
    (4 ≤ x.kind → x.parts.length = 1) ∧ ((x.kind == 2 || x.kind == 3) = true → (x.parts.any fun d => d.kind == x.kind) = false) := by
  have hany : ∀ k : Int, (∀ q ∈ x.parts, q.kind ≠ k) → (x.parts.any fun d => d.kind == k) = false := fun k hk => by
    rw [List.any_eq_false]; intro q hq; simpa using hk q hq
  rcases h with ⟨h1, h2, h3, h4⟩ | ⟨h1, h2, h3, h4⟩ | ⟨h1, h2, h3, h4⟩ | ⟨h1, h2, h3, h4⟩
  · have hl : x.parts.length = 0 := by rw [h2]; rfl
    refine ⟨by omega, by omega, by omega, by omega, by omega, by omega, by omega, fun h => ?_⟩
    rw [h1] at h; simp at h
  · refine ⟨by omega, by omega, by omega, by omega, by omega, by omega, by omega, fun _ => ?_⟩
    rw [h1]; exact hany 2 h4
  · refine ⟨by omega, by omega, by omega, by omega, by omega, by omega, by omega, fun _ => ?_⟩
    rw [h1]; exact hany 3 h4
  · refine ⟨by omega, by omega, by omega, by omega, by omega, by omega, by omega, fun h => ?_⟩
    have : x.kind = 2 ∨ x.kind = 3 := by simpa using h
    omega
theorem Ex.tog_sz (k : Int) (l : List Ex) : (tog k l).sz ≤ 1 + szs l := by
  rcases tog_cases k l with ⟨x, rfl, e⟩ | ⟨h1, y, h2, e⟩ | ⟨h1, h2, e⟩
  · rw [e]; simp [szs]
  · have := flat_szs k l
    rw [h2] at this
    rw [e]; simp only [szs] at this; omega
  · rw [e, sz]
    have := flat_szs k l; omega
theorem Ex.sfe_sz : ∀ (sf : List Nat) (x : Ex), (sfe x sf).sz = x.sz + sf.length
  | [], x => rfl
  | k :: sf, x => by
    show (sfe (.mk (4 + (k : Int)) 0 [x]) sf).sz = _
    rw [Ex.sfe_sz sf, sz]; simp only [szs, List.length_cons]; omega
namespace It
theorem sev_big' (s : List It) (h : ∀ i ∈ s, Ex.sz i.ev ≤ 2 * (tx i).length) : Ex.szs (sev s) ≤ 2 * (stx s).length := by
  induction s with
  | nil => exact Nat.le_refl _
  | cons i s ih =>
    have h1 := h i List.mem_cons_self
    have h2 := ih fun j hj => h j (List.mem_cons_of_mem _ hj)
    rw [sev, Ex.szs, stx, List.length_append]; omega
theorem aev_big' (a : List (List It)) (h : ∀ t ∈ a, Ex.szs (sev t) ≤ 2 * (stx t).length) : Ex.szs (aev a) ≤ 2 * (atl a).length := by
  induction a with
  | nil => exact Nat.le_refl _
  | cons t a ih =>
    have h1 := h t List.mem_cons_self
    have h2 := ih fun j hj => h j (List.mem_cons_of_mem _ hj)
    have h3 := Ex.tog_sz 2 (sev t)
    rw [aev, Ex.szs, atl, List.length_cons, List.length_append]; omega
theorem ev_big : ∀ i : It, Ex.sz i.ev ≤ 2 * (tx i).length := by
  refine rec' ?_ ?_
  · intro n sf
    rw [ev, Ex.sfe_sz, tx, List.length_cons, List.length_map, Ex.sz]; simp only [Ex.szs]; omega
  · intro s a sf h1 h2
    have h3 := sev_big' s h1
    have h4 := aev_big' a fun t ht => sev_big' t (h2 t ht)
    have h5 := Ex.tog_sz 2 (sev s)
    have h6 := Ex.tog_sz 3 (Ex.tog 2 (sev s) :: aev a)
    rw [ev, Ex.sfe_sz, tx]
    simp only [List.length_cons, List.length_append, List.length_map, Ex.szs] at *
    omega
theorem sev_big (s : List It) : Ex.szs (sev s) ≤ 2 * (stx s).length := sev_big' s fun i _ => ev_big i
theorem al_big (s : List It) (a : List (List It)) : Ex.szs (sq s :: aev a) ≤ 1 + 2 * (stx s ++ atl a).length := by
  have h1 := sev_big s
  have h2 := aev_big' a fun t _ => sev_big t
  have h3 : (sq s).sz ≤ 1 + Ex.szs (sev s) := Ex.tog_sz 2 (sev s)
  rw [Ex.szs, List.length_append]; omega
theorem al_sz (s : List It) (a : List (List It)) : (al s a).sz ≤ 2 + 2 * (stx s ++ atl a).length := by
  have h1 := Ex.tog_sz 3 (sq s :: aev a)
  have h2 := al_big s a
  show (Ex.tog 3 (sq s :: aev a)).sz ≤ _
  omega
theorem stx_mem {s : List It} {i : It} (h : i ∈ s) : (tx i).length ≤ (stx s).length := by
  induction s with
  | nil => cases h
  | cons e l ih =>
    rw [stx, List.length_append]
    rcases List.mem_cons.1 h with rfl | h
    · omega
    · have := ih h; omega
theorem atl_mem {a : List (List It)} {t : List It} (h : t ∈ a) : (stx t).length ≤ (atl a).length := by
  induction a with
  | nil => cases h
  | cons e l ih =>
    rw [atl, List.length_cons, List.length_append]
    rcases List.mem_cons.1 h with rfl | h
    · omega
    · have := ih h; omega
theorem al_mem {s : List It} {a : List (List It)} {t : List It} (h : t = s ∨ t ∈ a) : (stx t).length ≤ (stx s ++ atl a).length := by
  rw [List.length_append]
  rcases h with rfl | h
  · omega
  · have := atl_mem h; omega
end It
end Go.Vl
end

section
set_option linter.unusedVariables false
set_option linter.unusedSimpArgs false
namespace Go.Vl
/-- a word's part -/
def seg (w : List Int) (i j : Nat) : List Int := (w.take j).drop i
theorem seg_self (w : List Int) (i : Nat) : seg w i i = [] := by simp [seg]
theorem seg_len (w : List Int) {i j : Nat} (hj : j ≤ w.length) : (seg w i j).length = j - i := by simp [seg]; omega
theorem seg_app (w : List Int) {i j k : Nat} (h1 : i ≤ j) (h2 : j ≤ k) (h3 : k ≤ w.length) : seg w i j ++ seg w j k = seg w i k := by
  have e : w.take j = (w.take k).take j := by rw [List.take_take]; congr 1; omega
  simp only [seg]
  rw [e]
  have h4 : i ≤ ((w.take k).take j).length := by simp; omega
  rw [← List.drop_append_of_le_length h4, List.take_append_drop]
theorem seg_split (w : List Int) {i k : Nat} (h1 : i ≤ k) (h3 : k ≤ w.length) (u v : List Int) (h : seg w i k = u ++ v) : ∃ j, i ≤ j ∧ j ≤ k ∧ seg w i j = u ∧ seg w j k = v := by
  have hl : (seg w i k).length = u.length + v.length := by rw [h, List.length_append]
  rw [seg_len w h3] at hl
  refine ⟨i + u.length, by omega, by omega, ?_, ?_⟩
  · have := seg_app w (i := i) (j := i + u.length) (k := k) (by omega) (by omega) h3
    rw [h] at this
    exact (List.append_inj this (by rw [seg_len w (by omega)]; omega)).1
  · have := seg_app w (i := i) (j := i + u.length) (k := k) (by omega) (by omega) h3
    rw [h] at this
    exact (List.append_inj this (by rw [seg_len w (by omega)]; omega)).2
theorem seg_one (w : List Int) (i : Nat) (h : i < w.length) : seg w i (i + 1) = [w.getD i 0] := by
  simp only [seg]
  rw [take_getDG 0 w i h, List.drop_append_of_le_length (by rw [List.length_take]; omega), List.drop_of_length_le (by rw [List.length_take]; omega)]; rfl
/-- g: the places that words of A lead to from f's places -/
def Rch (A : Lg) (w : List Int) (f g : Nat → Bool) : Prop := ∀ j, j ≤ w.length → (g j = true ↔ ∃ i, i ≤ j ∧ f i = true ∧ A (seg w i j))
section rch
variable {A B : Lg} {w : List Int} {f g h : Nat → Bool}
theorem Rch.congr (hr : Rch A w f g) (he : ∀ j, j ≤ w.length → h j = g j) : Rch A w f h := fun j hj => by rw [he j hj]; exact hr j hj
theorem Rch.eps : Rch Lg.eps w f f := fun j hj => by
  constructor
  · intro h; exact ⟨j, Nat.le_refl _, h, seg_self w j⟩
  · rintro ⟨i, hi, h, e⟩
    have : (seg w i j).length = 0 := by rw [show seg w i j = [] from e]; rfl
    rw [seg_len w hj] at this
    obtain rfl : i = j := by omega
    exact h
theorem Rch.none : Rch Lg.none w f (fun _ => false) := fun j hj => by simp [Lg.none]
theorem Rch.one (n : Int) : Rch (Lg.one n) w f (fun j => decide (0 < j ∧ j ≤ w.length) && (f (j - 1) && (w.getD (j - 1) 0 == n))) := fun j hj => by
  simp only [Bool.and_eq_true, decide_eq_true_eq, beq_iff_eq]
  constructor
  · rintro ⟨⟨h1, _⟩, h2, h3⟩
    refine ⟨j - 1, by omega, h2, ?_⟩
    have := seg_one w (j - 1) (by omega)
    rw [show j - 1 + 1 = j from by omega] at this
    rw [this, h3]; rfl
  · rintro ⟨i, hi, h2, h3⟩
    have h3 : seg w i j = [n] := h3
    have hl : (seg w i j).length = 1 := by rw [h3]; rfl
    rw [seg_len w hj] at hl
    obtain rfl : j = i + 1 := by omega
    rw [seg_one w i (by omega)] at h3
    exact ⟨⟨by omega, hj⟩, h2, by simpa using h3⟩
theorem Rch.cat (ha : Rch A w f g) (hb : Rch B w g h) : Rch (Lg.cat A B) w f h := fun k hk => by
  rw [hb k hk]
  constructor
  · rintro ⟨j, hj, h1, h2⟩
    obtain ⟨i, hi, h3, h4⟩ := (ha j (by omega)).1 h1
    exact ⟨i, by omega, h3, _, _, (seg_app w hi hj hk).symm, h4, h2⟩
  · rintro ⟨i, hi, h1, u, v, e, h2, h3⟩
    obtain ⟨j, h4, h5, rfl, rfl⟩ := seg_split w hi hk u v e
    exact ⟨j, h5, (ha j (by omega)).2 ⟨i, h4, h1, h2⟩, h3⟩
theorem Rch.alt (ha : Rch A w f g) (hb : Rch B w f h) : Rch (Lg.alt A B) w f (fun j => g j || h j) := fun j hj => by
  simp only [Bool.or_eq_true]
  rw [ha j hj, hb j hj]
  constructor
  · rintro (⟨i, hi, h1, h2⟩ | ⟨i, hi, h1, h2⟩)
    · exact ⟨i, hi, h1, .inl h2⟩
    · exact ⟨i, hi, h1, .inr h2⟩
  · rintro ⟨i, hi, h1, h2 | h2⟩
    · exact .inl ⟨i, hi, h1, h2⟩
    · exact .inr ⟨i, hi, h1, h2⟩
/-- on the way to all that is led to: f's places are there, and what is there is led to -/
structure WayR (A : Lg) (w : List Int) (f o : Nat → Bool) : Prop where
  all : ∀ j, j ≤ w.length → f j = true → o j = true
  some : ∀ j, j ≤ w.length → o j = true → ∃ i, i ≤ j ∧ f i = true ∧ Lg.star A (seg w i j)
theorem WayR.start : WayR A w f f := ⟨fun _ _ h => h, fun j hj h => ⟨j, Nat.le_refl _, h, by rw [seg_self]; exact .nil⟩⟩
theorem WayR.step {o n : Nat → Bool} (hw : WayR A w f o) (hr : Rch A w o n) : WayR A w f (fun j => o j || n j) := by
  refine ⟨fun j hj h => by rw [hw.all j hj h]; rfl, fun k hk h => ?_⟩
  rcases Bool.or_eq_true _ _ |>.mp h with h | h
  · exact hw.some k hk h
  · obtain ⟨j, hj, h1, h2⟩ := (hr k hk).1 h
    obtain ⟨i, hi, h3, h4⟩ := hw.some j (by omega) h1
    refine ⟨i, by omega, h3, ?_⟩
    rw [← seg_app w hi hj hk]
    exact Lg.star_append h4 (Lg.star_one h2)
theorem WayR.done {o n : Nat → Bool} (hw : WayR A w f o) (hr : Rch A w o n) (he : ∀ j, j ≤ w.length → (o j || n j) = o j) : Rch (Lg.star A) w f o := fun k hk => by
  refine ⟨hw.some k hk, ?_⟩
  rintro ⟨i, hi, h1, h2⟩
  have key : ∀ z, Lg.star A z → ∀ i, i ≤ k → o i = true → seg w i k = z → o k = true := by
    intro z hz
    induction hz with
    | nil =>
      intro i hi ho e
      have : (seg w i k).length = 0 := by rw [e]; rfl
      rw [seg_len w hk] at this
      obtain rfl : i = k := by omega
      exact ho
    | cons u v hu _ ih =>
      intro i hi ho e
      obtain ⟨j, h4, h5, rfl, rfl⟩ := seg_split w hi hk u v e
      have hn := (hr j (by omega)).2 ⟨i, h4, ho, hu⟩
      have := he j (by omega)
      rw [hn, Bool.or_true] at this
      exact ih j h5 this.symm rfl
  exact key _ h2 i hi (hw.all i (by omega) h1) rfl
/-- how many places are not there -/
def outs (n : Nat) (o : Nat → Bool) : Nat := ((List.range n).filter fun j => !o j).length
theorem outs_lt (n : Nat) (o p : Nat → Bool) (h : ∀ j, j < n → o j = true → p j = true) (hne : ¬ ∀ j, j < n → p j = o j) : outs n p < outs n o := by
  induction n with
  | zero => exact absurd (fun j hj => absurd hj (Nat.not_lt_zero _)) hne
  | succ n ih =>
    have hle : ∀ m, m ≤ n → outs m p ≤ outs m o := by
      intro m
      induction m with
      | zero => intro _; exact Nat.le_refl _
      | succ m ih2 =>
        intro hm
        have := ih2 (by omega)
        simp only [outs, List.range_succ, List.filter_append, List.length_append] at this ⊢
        have h2 := h m (by omega)
        cases h3 : o m <;> cases h4 : p m <;> simp_all <;> omega
    simp only [outs, List.range_succ, List.filter_append, List.length_append]
    by_cases hn : p n = o n
    · have := ih (fun j hj => h j (by omega)) fun hall => hne fun j hj => by
        rcases Nat.lt_or_ge j n with h1 | h1
        · exact hall j h1
        · obtain rfl : j = n := by omega
          exact hn
      simp only [outs] at this
      simp only [List.filter_cons, List.filter_nil, hn]
      omega
    · have h1 := hle n (Nat.le_refl _)
      have h2 := h n (by omega)
      simp only [outs] at h1
      cases h3 : o n <;> cases h4 : p n <;> simp_all
      omega
end rch
/-- is a word meant? -/
noncomputable def Lg.dec (A : Lg) (w : List Int) : Bool := @decide (A w) (Classical.propDecidable _)
theorem Lg.dec_iff (A : Lg) (w : List Int) : Lg.dec A w = true ↔ A w := @decide_eq_true_iff (A w) (Classical.propDecidable _)
theorem Lg.dec_eq {A B : Lg} {u v : List Int} (h : A u ↔ B v) : Lg.dec A u = Lg.dec B v := Bool.eq_iff_iff.2 (by rw [Lg.dec_iff, Lg.dec_iff]; exact h)
theorem seg_all (w : List Int) : seg w 0 w.length = w := by simp [seg]
theorem Rch.whole {A : Lg} {w : List Int} {g : Nat → Bool} (h : Rch A w (fun j => j == 0) g) : g w.length = Lg.dec A w := Bool.eq_iff_iff.2 (by
  rw [h w.length (Nat.le_refl _), Lg.dec_iff]
  constructor
  · rintro ⟨i, _, hi, h2⟩
    obtain rfl : i = 0 := by simpa using hi
    rwa [seg_all] at h2
  · intro h2
    exact ⟨0, Nat.zero_le _, rfl, by rwa [seg_all]⟩)
/-- a word of raw numbers -/
def wordOf (l : List Int) (n : Nat) : List Int := (l.take n).map (· % 3)
theorem wordOf_len (l : List Int) (n : Nat) : (wordOf l n).length ≤ n := by unfold wordOf; rw [List.length_map, List.length_take]; omega
theorem wordOf_in (l : List Int) (n : Nat) : ∀ c ∈ wordOf l n, 0 ≤ c ∧ c < 3 := by
  intro c hc
  unfold wordOf at hc
  obtain ⟨x, _, rfl⟩ := List.mem_map.1 hc
  exact ⟨Int.emod_nonneg x (by decide), Int.emod_lt_of_pos x (by decide)⟩
/-- how long a drawn text is at most; how many letters it has -/
def tb : Nat → Nat
  | 0 => 2
  | 1 => 2
  | d + 2 => 2 * tb (d + 1) + 4
def nb : Nat → Nat
  | 0 => 1
  | 1 => 1
  | d + 2 => 2 * nb (d + 1)
/-- a text of an expression that is drawn -/
structure Dx (d : Nat) (s : List It) : Prop where
  ok : It.oks s
  abc : It.blws 3 s
  len : (It.stx s).length ≤ tb d
  nl : It.snl s ≤ nb d
theorem tb_ge : ∀ d, 2 ≤ tb d
  | 0 => Nat.le_refl _
  | 1 => Nat.le_refl _
  | d + 2 => by have := tb_ge (d + 1); simp only [tb]; omega
theorem nb_ge : ∀ d, 1 ≤ nb d
  | 0 => Nat.le_refl _
  | 1 => Nat.le_refl _
  | d + 2 => by have := nb_ge (d + 1); simp only [nb]; omega
theorem tb_step (d : Nat) (h : 2 ≤ d) : tb d = 2 * tb (d - 1) + 4 ∧ nb d = 2 * nb (d - 1) := by
  obtain ⟨k, rfl⟩ : ∃ k, d = k + 2 := ⟨d - 2, by omega⟩
  exact ⟨rfl, rfl⟩
theorem Dx.leaf (d n : Nat) (sf : List Nat) (hn : n < 3) (hs : sf = [] ∨ sf = [0] ∨ sf = [2]) : Dx d [It.ch n sf] := by
  have h1 := tb_ge d
  have h2 := nb_ge d
  refine ⟨?_, ?_, ?_, ?_⟩
  · simp only [It.oks, It.ok, and_true]
    refine ⟨by omega, ?_⟩
    rcases hs with rfl | rfl | rfl <;> simp
  · simp only [It.blws, It.blw, and_true]; exact hn
  · simp only [It.stx, It.tx, List.append_nil, List.length_cons, List.length_map]
    rcases hs with rfl | rfl | rfl <;> simp <;> omega
  · simp only [It.snl, It.nl]; omega
def Dx.sf4 (p : Nat) : List Nat := if p = 2 then [0] else if p = 3 then [2] else []
theorem Dx.sf4_in (p : Nat) : Dx.sf4 p = [] ∨ Dx.sf4 p = [0] ∨ Dx.sf4 p = [2] := by
  unfold Dx.sf4; split
  · exact .inr (.inl rfl)
  · split
    · exact .inr (.inr rfl)
    · exact .inl rfl
theorem Dx.leaf_tx (n p : Nat) (hn : n < 3) (hp : p < 4) : List.drop 0 (List.take (Int.toNat 1) (List.drop ((n : Nat) : Int).toNat (List.take 3 [97, 98, 99]))) ++ [[], [], [42], [63]].getD p [] = It.stx [It.ch n (Dx.sf4 p)] := by
  rcases (show n = 0 ∨ n = 1 ∨ n = 2 from by omega) with rfl | rfl | rfl <;> rcases (show p = 0 ∨ p = 1 ∨ p = 2 ∨ p = 3 from by omega) with rfl | rfl | rfl | rfl <;> rfl
theorem Dx.alt_tx (s t : List It) : ([40] ++ It.stx s ++ [124]) ++ It.stx t ++ [41] = It.stx [It.gr s [t] []] := by simp [It.stx, It.tx, It.atl]
theorem Dx.alts_tx (s t : List It) : ([40] ++ It.stx s ++ [124]) ++ It.stx t ++ [41, 42] = It.stx [It.gr s [t] [0]] := by simp [It.stx, It.tx, It.atl, sg]
theorem Dx.grp_tx (s t : List It) (q : Nat) (hq : q < 2) : ([40] ++ It.stx s ++ It.stx t ++ [41]) ++ [[43], [63]].getD q [] = It.stx [It.gr (s ++ t) [] [q + 1]] := by
  rcases (show q = 0 ∨ q = 1 from by omega) with rfl | rfl <;> simp [It.stx, It.tx, It.atl, It.stx_append, sg]
theorem tb_small (d : Nat) (h : d ≤ 10) : tb d ≤ 3100 := by
  rcases (show d = 0 ∨ d = 1 ∨ d = 2 ∨ d = 3 ∨ d = 4 ∨ d = 5 ∨ d = 6 ∨ d = 7 ∨ d = 8 ∨ d = 9 ∨ d = 10 from by omega) with rfl | rfl | rfl | rfl | rfl | rfl | rfl | rfl | rfl | rfl | rfl <;> decide
section dx
variable {d : Nat} {s t : List It}
theorem Dx.cat (hd : 2 ≤ d) (hs : Dx (d - 1) s) (ht : Dx (d - 1) t) : Dx d (s ++ t) := by
  have h := tb_step d hd
  refine ⟨It.oks_append hs.ok ht.ok, It.blws_append hs.abc ht.abc, ?_, ?_⟩
  · rw [It.stx_append, List.length_append]; have := hs.len; have := ht.len; omega
  · rw [It.snl_append]; have := hs.nl; have := ht.nl; omega
theorem Dx.alt (hd : 2 ≤ d) (hs : Dx (d - 1) s) (ht : Dx (d - 1) t) (sf : List Nat) (hf : sf = [] ∨ sf = [0]) : Dx d [It.gr s [t] sf] := by
  have h := tb_step d hd
  refine ⟨?_, ?_, ?_, ?_⟩
  · simp only [It.oks, It.ok, It.oka, and_true]
    exact ⟨⟨hs.ok, ht.ok⟩, by rcases hf with rfl | rfl <;> simp⟩
  · simp only [It.blws, It.blw, It.blwa, and_true]; exact ⟨hs.abc, ht.abc⟩
  · simp only [It.stx, It.tx, It.atl, List.append_nil, List.length_cons, List.length_append, List.length_map]
    have := hs.len; have := ht.len
    rcases hf with rfl | rfl <;> simp <;> omega
  · simp only [It.snl, It.nl, It.anl]; have := hs.nl; have := ht.nl; omega
theorem Dx.grp (hd : 2 ≤ d) (hs : Dx (d - 1) s) (ht : Dx (d - 1) t) (k : Nat) (hk : k = 1 ∨ k = 2) : Dx d [It.gr (s ++ t) [] [k]] := by
  have h := tb_step d hd
  refine ⟨?_, ?_, ?_, ?_⟩
  · simp only [It.oks, It.ok, It.oka, and_true]
    exact ⟨It.oks_append hs.ok ht.ok, by rcases hk with rfl | rfl <;> simp⟩
  · simp only [It.blws, It.blw, It.blwa, and_true]; exact It.blws_append hs.abc ht.abc
  · simp only [It.stx, It.tx, It.atl, List.append_nil, List.nil_append, List.length_cons, List.length_append, List.length_map, It.stx_append, List.length_nil]
    have := hs.len; have := ht.len; omega
  · simp only [It.snl, It.nl, It.anl, It.snl_append]; have := hs.nl; have := ht.nl; omega
end dx
/-- can a word be cut so, at one of the first places? -/
noncomputable def cutB (A B : Lg) (w : List Int) (i : Nat) : Bool := (List.range i).any fun j => Lg.dec A (w.take j) && Lg.dec B (w.drop j)
theorem Lg.dec_true {A : Lg} {w : List Int} (h : A w) : Lg.dec A w = true := (Lg.dec_iff _ _).2 h
/-- a letter's row, step by step -/
def oneF (f : Nat → Bool) (w : List Int) (n : Int) (i : Nat) (j : Nat) : Bool := decide (0 < j ∧ j ≤ i) && (f (j - 1) && (w.getD (j - 1) 0 == n))
end Go.Vl
end

section
set_option linter.unusedVariables false
set_option linter.unusedSimpArgs false
namespace Go.Vl
theorem outs_congr {n : Nat} {f g : Nat → Bool} (h : ∀ k, k < n → f k = g k) : outs n f = outs n g := by
  unfold outs
  congr 1
  exact List.filter_congr fun k hk => by rw [h k (List.mem_range.1 hk)]
namespace Au
/-- f: what is known; f0: what was known as_ the round began; m: has more come in? rows ahead of i, and letters of i ahead of c, are looked at -/
structure Lv (w : Au) (f0 f : Nat → Bool) (m : Bool) (i c : Nat) : Prop where
  sound : ∀ k, k < w.next.length → f k = true → w.lives k
  fin : ∀ k, k < w.next.length → w.final.getD k false = true → f k = true
  up : ∀ k, k < w.next.length → f0 k = true → f k = true
  still : m = false → (∀ k, k < w.next.length → f k = f0 k) ∧ ∀ k d, k < w.next.length → d < 8 → (k < i ∨ (k = i ∧ d < c)) → ∀ t : Nat, w.to (k : Int) (d : Int) = (t : Int) → f t = true → f k = true
  less : m = true → outs w.next.length f < outs w.next.length f0
variable {w : Au} {f0 f : Nat → Bool} {m : Bool} {i c : Nat}
theorem Lv.start : Lv w (fun k => w.final.getD k false) (fun k => w.final.getD k false) false 0 0 := by
  refine ⟨fun k hk h => ⟨[], ?_⟩, fun k _ h => h, fun k _ h => h, fun _ => ⟨fun _ _ => rfl, fun k d _ _ h => by omega⟩, fun h => by cases h⟩
  simp only [acc, Int.toNat_natCast]
  exact ⟨by omega, h⟩
theorem Lv.again (h : Lv w f0 f m i c) : Lv w f f false 0 0 :=
  ⟨h.sound, h.fin, fun k _ h => h, fun _ => ⟨fun _ _ => rfl, fun k d _ _ h => by omega⟩, fun h => by cases h⟩
theorem Lv.row (h : Lv w f0 f m i 8) : Lv w f0 f m (i + 1) 0 :=
  ⟨h.sound, h.fin, h.up, fun hm => ⟨(h.still hm).1, fun k d hk hd hx => (h.still hm).2 k d hk hd (by omega)⟩, h.less⟩
theorem Lv.skip (h : Lv w f0 f m i c) (hn : ∀ t : Nat, w.to (i : Int) (c : Int) = (t : Int) → f t = true → f i = true) : Lv w f0 f m i (c + 1) := by
  refine ⟨h.sound, h.fin, h.up, fun hm => ⟨(h.still hm).1, fun k d hk hd hx t ht hf => ?_⟩, h.less⟩
  by_cases h1 : k < i ∨ (k = i ∧ d < c)
  · exact (h.still hm).2 k d hk hd h1 t ht hf
  · obtain ⟨rfl, rfl⟩ : k = i ∧ d = c := by omega
    exact hn t ht hf
theorem Lv.set (h : Lv w f0 f m i c) (hi : i < w.next.length) (hc : c < 8) {t : Nat} (htl : t < w.next.length) (ht : w.to (i : Int) (c : Int) = (t : Int)) (hft : f t = true) (hfi : f i = false) : Lv w f0 (fun k => if k = i then true else f k) true i (c + 1) := by
  refine ⟨fun k hk hf => ?_, fun k hk hf => ?_, fun k hk hf => ?_, (fun h => by cases h), fun _ => ?_⟩
  · by_cases hki : k = i
    · subst hki
      obtain ⟨u, hu⟩ := h.sound t htl hft
      exact ⟨(c : Int) :: u, by rw [acc_step k c hc, ht]; exact hu⟩
    · rw [if_neg hki] at hf; exact h.sound k hk hf
  · split
    · rfl
    · exact h.fin k hk hf
  · split
    · rfl
    · exact h.up k hk hf
  · have h1 : outs w.next.length (fun k => if k = i then true else f k) < outs w.next.length f := by
      refine outs_lt _ _ _ (fun k _ hk => ?_) (fun hall => ?_)
      · split
        · rfl
        · exact hk
      · have := hall i hi
        rw [if_pos rfl, hfi] at this; cases this
    cases m with
    | true => have := h.less rfl; omega
    | false =>
      have h2 : outs w.next.length f = outs w.next.length f0 := by
        unfold outs
        congr 1
        refine List.filter_congr fun k hk => ?_
        rw [(h.still rfl).1 k (List.mem_range.1 hk)]
      omega
theorem Lv.done (hs : w.Shape) (h : Lv w f0 f false w.next.length 0) : ∀ k, k < w.next.length → (f k = true ↔ w.lives k) := by
  have key : ∀ (u : List Int) (k : Nat), k < w.next.length → w.acc (k : Int) u → f k = true := by
    intro u
    induction u with
    | nil =>
      intro k hk ha
      simp only [acc, Int.toNat_natCast] at ha
      exact h.fin k hk ha.2
    | cons c u ih =>
      intro k hk ha
      have hc : 0 ≤ c ∧ c < 8 := by simp only [acc] at ha; exact ⟨ha.2.1, ha.2.2.1⟩
      obtain ⟨c, rfl⟩ : ∃ k : Nat, c = (k : Int) := ⟨c.toNat, by omega⟩
      rw [acc_step k c (by omega)] at ha
      rcases to_state hs hk (c := c) (by omega) with h1 | ⟨t, ht, h1⟩
      · exact absurd ha (acc_neg h1 _)
      · rw [h1] at ha
        exact (h.still rfl).2 k c hk (by omega) (.inl hk) t h1 (ih t ht ha)
  exact fun k hk => ⟨h.sound k hk, fun ⟨u, hu⟩ => key u k hk hu⟩
/-- the first classes -/
def cls0 (w : Au) (f : Nat → Bool) (k : Nat) : Int := if f k = true then (if w.final.getD k false = true then 1 else 0) else -1
theorem Moore.start {f : Nat → Bool} (hf : ∀ k, k < w.next.length → (f k = true ↔ w.lives k)) : w.Moore (cls0 w f) 0 := by
  have hv : ∀ k, k < w.next.length → (cls0 w f k < 0 ↔ ¬ w.lives k) := fun k hk => by
    unfold cls0
    rw [← hf k hk]
    by_cases h : f k = true
    · rw [if_pos h]
      split <;> exact ⟨fun h => by omega, fun h' => absurd h h'⟩
    · rw [if_neg h]; exact ⟨fun _ => h, fun _ => by omega⟩
  have hl : ∀ k, k < w.next.length → w.lives k → cls0 w f k = if w.final.getD k false = true then 1 else 0 := fun k hk h => by
    unfold cls0; rw [if_pos ((hf k hk).2 h)]
  refine ⟨hv, fun i j hi hj hli he => ?_, fun i j hi hj h0 he => ?_, fun h => absurd rfl h⟩
  · have hlj : w.lives j := by obtain ⟨u, hu⟩ := hli; exact ⟨u, (he u).1 hu⟩
    rw [hl i hi hli, hl j hj hlj]
    have := he []
    simp only [acc, Int.toNat_natCast] at this
    have h2 : (w.final.getD i false = true) ↔ (w.final.getD j false = true) := ⟨fun h => (this.1 ⟨by omega, h⟩).2, fun h => (this.2 ⟨by omega, h⟩).2⟩
    by_cases h3 : w.final.getD i false = true
    · rw [if_pos h3, if_pos (h2.1 h3)]
    · rw [if_neg h3, if_neg (fun h => h3 (h2.2 h))]
  · have h1 : w.lives i := Classical.byContradiction fun h => by have := (hv i hi).2 h; omega
    have h2 : w.lives j := Classical.byContradiction fun h => by have := (hv j hj).2 h; omega
    rw [hl i hi h1, hl j hj h2] at he
    cases h3 : w.final.getD i false <;> cases h4 : w.final.getD j false <;> simp_all
/-- a state's row: its class, and those that letters lead to -/
def lst (w : Au) (out : Nat → Int) (k : Nat) : List Int := [out k, w.cto out k 0, w.cto out k 1, w.cto out k 2, w.cto out k 3, w.cto out k 4, w.cto out k 5, w.cto out k 6, w.cto out k 7]
theorem lst_eq (out : Nat → Int) (i j : Nat) : lst w out i = lst w out j ↔ (out i = out j ∧ ∀ c : Nat, c < 8 → w.cto out i c = w.cto out j c) := by
  unfold lst
  constructor
  · intro h
    simp only [List.cons.injEq, and_true] at h
    refine ⟨h.1, fun c hc => ?_⟩
    rcases (show c = 0 ∨ c = 1 ∨ c = 2 ∨ c = 3 ∨ c = 4 ∨ c = 5 ∨ c = 6 ∨ c = 7 from by omega) with rfl | rfl | rfl | rfl | rfl | rfl | rfl | rfl <;> simp [h]
  · rintro ⟨h1, h2⟩
    rw [h1, h2 0 (by decide), h2 1 (by decide), h2 2 (by decide), h2 3 (by decide), h2 4 (by decide), h2 5 (by decide), h2 6 (by decide), h2 7 (by decide)]
/-- so far: K: the rows that were met, in order; next: where each state's row stands -/
structure Dv (w : Au) (out : Nat → Int) (K : List (List Int)) (next : Nat → Int) (i : Nat) : Prop where
  nodup : K.Nodup
  neg : ∀ k, k < i → out k < 0 → next k = -1
  pos : ∀ k, k < i → 0 ≤ out k → ∃ j : Nat, K[j]? = some (lst w out k) ∧ next k = (j : Int)
  hit : ∀ j, j < K.length → ∃ k, k < i ∧ 0 ≤ out k ∧ K[j]? = some (lst w out k)
variable {out next : Nat → Int} {K : List (List Int)}
theorem Dv.start (next : Nat → Int) : Dv w out [] next 0 := ⟨List.nodup_nil, fun k h => absurd h (Nat.not_lt_zero _), fun k h => absurd h (Nat.not_lt_zero _), fun j h => absurd h (Nat.not_lt_zero _)⟩
theorem Dv.none (h : Dv w out K next i) (ho : out i < 0) : Dv w out K (fun k => if k = i then -1 else next k) (i + 1) := by
  refine ⟨h.nodup, fun k hk hn => ?_, fun k hk hp => ?_, fun j hj => ?_⟩
  · by_cases e : k = i
    · exact if_pos e
    · rw [if_neg e]; exact h.neg k (by omega) hn
  · have e : k ≠ i := fun e => by rw [e] at hp; omega
    rw [if_neg e]; exact h.pos k (by omega) hp
  · obtain ⟨k, h1, h2, h3⟩ := h.hit j hj
    exact ⟨k, by omega, h2, h3⟩
theorem Dv.old (h : Dv w out K next i) (ho : 0 ≤ out i) {j : Nat} (hj : K[j]? = some (lst w out i)) : Dv w out K (fun k => if k = i then (j : Int) else next k) (i + 1) := by
  refine ⟨h.nodup, fun k hk hn => ?_, fun k hk hp => ?_, fun j hj => ?_⟩
  · have e : k ≠ i := fun e => by rw [e] at hn; omega
    rw [if_neg e]; exact h.neg k (by omega) hn
  · by_cases e : k = i
    · rw [e]; exact ⟨j, hj, if_pos rfl⟩
    · rw [if_neg e]; exact h.pos k (by omega) hp
  · obtain ⟨k, h1, h2, h3⟩ := h.hit j hj
    exact ⟨k, by omega, h2, h3⟩
theorem Dv.new (h : Dv w out K next i) (ho : 0 ≤ out i) (hn : lst w out i ∉ K) : Dv w out (K ++ [lst w out i]) (fun k => if k = i then (K.length : Int) else next k) (i + 1) := by
  have up : ∀ (j : Nat) (x : List Int), K[j]? = some x → (K ++ [lst w out i])[j]? = some x := fun j x hj => by
    rw [List.getElem?_append_left (by rcases Nat.lt_or_ge j K.length with h1 | h1; exact h1; rw [List.getElem?_eq_none h1] at hj; cases hj)]; exact hj
  have last : (K ++ [lst w out i])[K.length]? = some (lst w out i) := by rw [List.getElem?_append_right (Nat.le_refl _), Nat.sub_self]; rfl
  refine ⟨List.nodup_append.2 ⟨h.nodup, by simp, fun a ha b hb e => hn (by rw [← List.mem_singleton.1 hb, ← e]; exact ha)⟩, fun k hk hn => ?_, fun k hk hp => ?_, fun j hj => ?_⟩
  · have e : k ≠ i := fun e => by rw [e] at hn; omega
    rw [if_neg e]; exact h.neg k (by omega) hn
  · by_cases e : k = i
    · rw [e]; exact ⟨K.length, last, if_pos rfl⟩
    · rw [if_neg e]
      obtain ⟨j, h1, h2⟩ := h.pos k (by omega) hp
      exact ⟨j, up j _ h1, h2⟩
  · rw [List.length_append, List.length_singleton] at hj
    rcases Nat.lt_or_ge j K.length with h1 | h1
    · obtain ⟨k, h2, h3, h4⟩ := h.hit j h1
      exact ⟨k, by omega, h3, up j _ h4⟩
    · obtain rfl : j = K.length := by omega
      exact ⟨i, by omega, ho, last⟩
theorem Dv.div (h : Dv w out K next w.next.length) : w.Div out next K.length := by
  have hlt : ∀ (j : Nat) (x : List Int), K[j]? = some x → j < K.length := fun j x hj => by
    rcases Nat.lt_or_ge j K.length with h1 | h1
    · exact h1
    · rw [List.getElem?_eq_none h1] at hj; cases hj
  refine ⟨fun i hi => ⟨fun hn => ?_, fun hn => ?_⟩, fun i j hi hj h0 h1 => ?_, fun i hi => ?_, fun v hv => ?_⟩
  · rcases Int.lt_or_le (out i) 0 with h1 | h1
    · exact h1
    · obtain ⟨j, _, h2⟩ := h.pos i hi h1; omega
  · rw [h.neg i hi hn]; decide
  · obtain ⟨a, ha, ea⟩ := h.pos i hi h0
    obtain ⟨b, hb, eb⟩ := h.pos j hj h1
    rw [ea, eb, ← lst_eq]
    constructor
    · intro e
      have e : a = b := by omega
      subst e
      rw [ha] at hb; exact Option.some.inj hb
    · intro e
      rw [← e] at hb
      have la := hlt a _ ha
      have lb := hlt b _ hb
      rw [List.getElem?_eq_getElem la] at ha
      rw [List.getElem?_eq_getElem lb] at hb
      have : K[a] = K[b] := by rw [Option.some.inj ha, Option.some.inj hb]
      have := (List.getElem_inj h.nodup).1 this
      omega
  · rcases Int.lt_or_le (out i) 0 with h1 | h1
    · rw [h.neg i hi h1]; omega
    · obtain ⟨j, h2, h3⟩ := h.pos i hi h1
      have := hlt j _ h2; omega
  · obtain ⟨k, h1, h2, h3⟩ := h.hit v hv
    obtain ⟨j, h4, h5⟩ := h.pos k h1 h2
    refine ⟨k, h1, ?_⟩
    have la := hlt v _ h3
    have lb := hlt j _ h4
    rw [List.getElem?_eq_getElem la] at h3
    rw [List.getElem?_eq_getElem lb] at h4
    have : K[v] = K[j] := by rw [Option.some.inj h3, Option.some.inj h4]
    have := (List.getElem_inj h.nodup).1 this
    omega
/-- not more rows than states -/
theorem Dv.len (h : Dv w out K next i) : K.length ≤ i := by
  classical
  refine pigeon i K.length (fun j => if hj : j < K.length then Classical.choose (h.hit j hj) else 0) (fun j hj => ?_) (fun a b ha hb e => ?_)
  · simp only [dif_pos hj]; exact (Classical.choose_spec (h.hit j hj)).1
  · simp only [dif_pos ha, dif_pos hb] at e
    have h1 := (Classical.choose_spec (h.hit a ha)).2.2
    have h2 := (Classical.choose_spec (h.hit b hb)).2.2
    rw [e, ← h2, List.getElem?_eq_getElem ha, List.getElem?_eq_getElem hb] at h1
    exact (List.getElem_inj h.nodup).1 (Option.some.inj h1)
theorem lst_sml (hb : ∀ k, k < w.next.length → -1 ≤ out k ∧ out k < 100) (hs : w.Shape) {k : Nat} (hk : k < w.next.length) : sml (lst w out k) := by
  have hc : ∀ c : Nat, c < 8 → -1 ≤ w.cto out k c ∧ w.cto out k c < 100 := fun c hc => by
    rcases to_state hs hk hc with h1 | ⟨t, ht, h1⟩
    · rw [cto_neg h1]; decide
    · rw [cto_nat h1]; exact hb t ht
  intro n hn
  simp only [lst, List.mem_cons, List.not_mem_nil, or_false] at hn
  rcases hn with rfl | rfl | rfl | rfl | rfl | rfl | rfl | rfl | rfl
  · exact hb k hk
  · exact hc 0 (by decide)
  · exact hc 1 (by decide)
  · exact hc 2 (by decide)
  · exact hc 3 (by decide)
  · exact hc 4 (by decide)
  · exact hc 5 (by decide)
  · exact hc 6 (by decide)
  · exact hc 7 (by decide)
end Au
theorem Au.Dv.mem {w : Au} {out next : Nat → Int} {K : List (List Int)} {i : Nat} (h : Au.Dv w out K next i) {q : List Int} (hq : q ∈ K) : ∃ k, k < i ∧ q = Au.lst w out k := by
  obtain ⟨j, hj, rfl⟩ := List.mem_iff_getElem.1 hq
  obtain ⟨k, h1, _, h3⟩ := h.hit j hj
  rw [List.getElem?_eq_getElem hj] at h3
  exact ⟨k, h1, Option.some.inj h3⟩
theorem Au.Dv.plc {w : Au} {out next : Nat → Int} {K : List (List Int)} {i : Nat} (h : Au.Dv w out K next i) (hb : ∀ k, k < w.next.length → -1 ≤ out k ∧ out k < 100) (hs : w.Shape) (hi : i < w.next.length) : place (keyL (Au.lst w out i)) (K.map keyL) = place (Au.lst w out i) K :=
  place_map fun q hq e => by
    obtain ⟨k, hk, rfl⟩ := h.mem hq
    exact keyL_inj' (Au.lst_sml hb hs hi) (Au.lst_sml hb hs (by omega)) e
theorem Au.Dv.rng {w : Au} {out next : Nat → Int} {K : List (List Int)} {i : Nat} (h : Au.Dv w out K next i) (hi : i ≤ 100) : ∀ k, k < i → -1 ≤ next k ∧ next k < 100 := fun k hk => by
  have hl := h.len
  rcases Int.lt_or_le (out k) 0 with h1 | h1
  · rw [h.neg k hk h1]; decide
  · obtain ⟨j, h2, h3⟩ := h.pos k hk h1
    have : j < K.length := by
      rcases Nat.lt_or_ge j K.length with h4 | h4
      · exact h4
      · rw [List.getElem?_eq_none h4] at h2; cases h2
    omega
theorem Au.lst_snoc (w : Au) (out : Nat → Int) (k d : Nat) (hd : d < 8) : (Au.lst w out k).take (d + 1 + 1) = (Au.lst w out k).take (d + 1) ++ [w.cto out k d] := by
  rcases (show d = 0 ∨ d = 1 ∨ d = 2 ∨ d = 3 ∨ d = 4 ∨ d = 5 ∨ d = 6 ∨ d = 7 from by omega) with rfl | rfl | rfl | rfl | rfl | rfl | rfl | rfl <;> rfl
theorem Au.cls0_rng (w : Au) (f : Nat → Bool) (k : Nat) : -1 ≤ Au.cls0 w f k ∧ Au.cls0 w f k < 100 := by
  unfold Au.cls0
  split
  · split <;> omega
  · omega
/-- a row of numbers -/
def rowI (n : Nat) (f : Nat → Int) : List AV := (List.range n).map fun k => AV.int (f k)
theorem rowI_len (n : Nat) (f : Nat → Int) : (rowI n f).length = n := by simp [rowI]
theorem rowI_get {n : Nat} {f : Nat → Int} {k : Nat} (h : k < n) : (rowI n f)[k]? = some (AV.int (f k)) := by
  rw [rowI, List.getElem?_map, List.getElem?_range h]; rfl
theorem rowI_rep (n : Nat) : List.replicate n (AV.int 0) = rowI n (fun _ => 0) := by
  refine List.ext_getElem? fun k => ?_
  rcases Nat.lt_or_ge k n with h | h
  · rw [rowI_get h, List.getElem?_replicate, if_pos h]
  · rw [List.getElem?_eq_none (by simpa using h), List.getElem?_eq_none (by rw [rowI_len]; exact h)]
theorem rowI_set (n : Nat) (f : Nat → Int) (i : Nat) (x : Int) : (rowI n f).set i (AV.int x) = rowI n (fun k => if k = i then x else f k) := by
  refine List.ext_getElem? fun k => ?_
  rcases Nat.lt_or_ge k n with h | h
  · rw [rowI_get h, List.getElem?_set, rowI_len]
    by_cases e : i = k
    · subst e; rw [if_pos rfl, if_pos h, if_pos rfl]
    · rw [if_neg e, if_neg (fun h' => e h'.symm), rowI_get h]
  · rw [List.getElem?_eq_none (by rw [List.length_set, rowI_len]; exact h), List.getElem?_eq_none (by rw [rowI_len]; exact h)]
theorem rowI_congr {n : Nat} {f g : Nat → Int} (h : ∀ k, k < n → f k = g k) : rowI n f = rowI n g := List.map_congr_left fun k hk => congrArg AV.int (h k (List.mem_range.1 hk))
/-- the first classes, so far -/
def clsI (w : Au) (f : Nat → Bool) (i k : Nat) : Int := if k < i then Au.cls0 w f k else 0
theorem clsI_set {w : Au} {f : Nat → Bool} (n i : Nat) {x : Int} (hx : Au.cls0 w f i = x) : (rowI n (clsI w f i)).set i (AV.int x) = rowI n (clsI w f (i + 1)) := by
  rw [rowI_set]
  refine rowI_congr fun k _ => ?_
  unfold clsI
  by_cases h : k = i
  · subst h; rw [if_pos rfl, if_pos (by omega), hx]
  · rw [if_neg h]
    by_cases h2 : k < i
    · rw [if_pos h2, if_pos (by omega)]
    · rw [if_neg h2, if_neg (by omega)]
theorem clsI_zero {w : Au} {f : Nat → Bool} (n i : Nat) (hx : Au.cls0 w f i = 0) : rowI n (clsI w f i) = rowI n (clsI w f (i + 1)) := by
  refine rowI_congr fun k _ => ?_
  unfold clsI
  by_cases h : k = i
  · subst h; rw [if_neg (Nat.lt_irrefl _), if_pos (by omega), hx]
  · by_cases h2 : k < i
    · rw [if_pos h2, if_pos (by omega)]
    · rw [if_neg h2, if_neg (by omega)]
theorem clsI_start (w : Au) (f : Nat → Bool) (n : Nat) : List.replicate n (AV.int 0) = rowI n (clsI w f 0) := by
  rw [rowI_rep]
  exact rowI_congr fun k _ => by unfold clsI; rw [if_neg (by omega)]
theorem clsI_done (w : Au) (f : Nat → Bool) (n : Nat) : rowI n (clsI w f n) = rowI n (Au.cls0 w f) :=
  rowI_congr fun k hk => by unfold clsI; rw [if_pos hk]
/-- a wide machine as_ a value -/
def wrow (r : List Int) : AV := r8av fun c => r.getD c 0
theorem rowB_list (l : List Bool) : l.map AV.bool = rowB l.length (fun k => l.getD k false) := by
  refine List.ext_getElem? fun k => ?_
  rcases Nat.lt_or_ge k l.length with h | h
  · rw [rowB_at _ _ k h]; exact getD_mapG AV.bool false l k h
  · rw [List.getElem?_eq_none (by rw [List.length_map]; exact h), List.getElem?_eq_none (by rw [rowB_len]; exact h)]
theorem wrow_get {w : Au} (hs : w.Shape) {i : Nat} (hi : i < w.next.length) : (w.next.map wrow)[i]? = some (r8av fun c => w.to (i : Int) (c : Int)) := by
  rw [getD_mapG wrow [] w.next i hi]
  refine congrArg some (congrArg AV.agg (row8_congr fun c hc => ?_))
  have := Au.to_get w (i : Int) (c : Int) (by rw [Int.toNat_natCast, Int.toNat_natCast, hs.row i hi]; exact hc)
  rwa [Int.toNat_natCast, Int.toNat_natCast] at this
end Go.Vl
end

section
set_option linter.unusedVariables false
set_option linter.unusedSimpArgs false
namespace Go.Vl
def r8l (f : Nat → Int) : List Int := [f 0, f 1, f 2, f 3, f 4, f 5, f 6, f 7]
theorem r8l_get (f : Nat → Int) (c : Nat) (hc : c < 8) (z : Int) : (r8l f).getD c z = f c := by
  rcases (show c = 0 ∨ c = 1 ∨ c = 2 ∨ c = 3 ∨ c = 4 ∨ c = 5 ∨ c = 6 ∨ c = 7 from by omega) with rfl | rfl | rfl | rfl | rfl | rfl | rfl | rfl <;> rfl
theorem r8l_congr {f g : Nat → Int} (h : ∀ c, c < 8 → f c = g c) : r8l f = r8l g := by
  unfold r8l
  rw [h 0 (by decide), h 1 (by decide), h 2 (by decide), h 3 (by decide), h 4 (by decide), h 5 (by decide), h 6 (by decide), h 7 (by decide)]
theorem row8_set (f : Nat → Int) (c : Nat) (hc : c < 8) (x : Int) : (row8 f).set c (.int x) = row8 (fun d => if d = c then x else f d) := by
  rcases (show c = 0 ∨ c = 1 ∨ c = 2 ∨ c = 3 ∨ c = 4 ∨ c = 5 ∨ c = 6 ∨ c = 7 from by omega) with rfl | rfl | rfl | rfl | rfl | rfl | rfl | rfl <;> rfl
namespace Au
/-- an entry is written -/
def setI (T : Nat → Nat → Int) (i c : Nat) (x : Int) : Nat → Nat → Int := fun k d => if k = i ∧ d = c then x else T k d
theorem setI_at (T : Nat → Nat → Int) (i c : Nat) (x : Int) : setI T i c x i c = x := if_pos ⟨rfl, rfl⟩
theorem setI_ne (T : Nat → Nat → Int) (i c : Nat) (x : Int) {k d : Nat} (h : ¬ (k = i ∧ d = c)) : setI T i c x k d = T k d := if_neg h
/-- a row's cells, so far -/
def rowV (T : Nat → Nat → Int) (i c : Nat) : List AV := row8 fun d => if d < c then T i d else 0
theorem rowV_step (T : Nat → Nat → Int) (i c : Nat) (x : Int) (hc : c < 8) : (rowV T i c).set c (.int x) = rowV (setI T i c x) i (c + 1) := by
  unfold rowV
  rw [row8_set _ c hc]
  refine row8_congr fun d _ => ?_
  by_cases h : d = c
  · subst h
    rw [if_pos rfl, if_pos (by omega), setI_at]
  · rw [if_neg h, setI_ne T i c x (by omega)]
    by_cases h2 : d < c
    · rw [if_pos h2, if_pos (by omega)]
    · rw [if_neg h2, if_neg (by omega)]
theorem rowV_done (T : Nat → Nat → Int) (i : Nat) : rowV T i 8 = row8 (T i) := row8_congr fun d hd => if_pos hd
theorem rowV_len (T : Nat → Nat → Int) (i c : Nat) : (rowV T i c).length = 8 := rfl
/-- the rows ahead of i -/
def rowsL (n : Nat) (T : Nat → Nat → Int) : List (List Int) := (List.range n).map fun k => r8l (T k)
theorem rowsL_len (n : Nat) (T : Nat → Nat → Int) : (rowsL n T).length = n := by simp [rowsL]
theorem rowsL_snoc (n : Nat) (T : Nat → Nat → Int) : rowsL n T ++ [r8l (T n)] = rowsL (n + 1) T := by
  rw [rowsL, rowsL, List.range_succ, List.map_append]; rfl
theorem rowsL_set (T : Nat → Nat → Int) (i c : Nat) (x : Int) : rowsL i (setI T i c x) = rowsL i T :=
  List.map_congr_left fun k hk => r8l_congr fun d _ => setI_ne T i c x (by have := List.mem_range.1 hk; omega)
theorem rowsL_get (n : Nat) (T : Nat → Nat → Int) (k : Nat) (hk : k < n) : (rowsL n T).getD k [] = r8l (T k) := by
  rw [rowsL, List.getD_eq_getElem?_getD, List.getElem?_map, List.getElem?_range hk]; rfl
/-- a machine of such rows -/
def auOf (n : Nat) (T : Nat → Nat → Int) (F : List Bool) : Au := ⟨rowsL n T, F⟩
theorem auOf_len (n : Nat) (T : Nat → Nat → Int) (F : List Bool) : (auOf n T F).next.length = n := rowsL_len n T
theorem auOf_row (n : Nat) (T : Nat → Nat → Int) (F : List Bool) (k : Nat) (hk : k < n) : ((auOf n T F).next.getD k []).length = 8 := by
  show ((rowsL n T).getD k []).length = 8
  rw [rowsL_get n T k hk]; rfl
theorem auOf_to (n : Nat) (T : Nat → Nat → Int) (F : List Bool) (k c : Nat) (hk : k < n) (hc : c < 8) : (auOf n T F).to (k : Int) (c : Int) = T k c := by
  show ((rowsL n T).getD (k : Int).toNat []).getD (c : Int).toNat (-1) = _
  rw [Int.toNat_natCast, Int.toNat_natCast, rowsL_get n T k hk, r8l_get _ c hc]
theorem auOf_wide (n : Nat) (T : Nat → Nat → Int) (F : List Bool) : (auOf n T F).next.map wrow = (List.range n).map fun k => r8av (T k) := by
  show (rowsL n T).map wrow = _
  rw [rowsL, List.map_map]; rfl
/-- not more states are met than there are -/
theorem Bfs.len {w : Au} {cl : Nat → Int} {S : List Nat} {T : Nat → Nat → Int} {i c : Nat} (h : Bfs w cl S T i c) : S.length ≤ w.next.length :=
  pigeon w.next.length S.length (fun k => S.getD k 0) (fun k hk => (h.lt k hk).1) fun j k hj hk e => h.apart j k hj hk (by rw [show S.getD j 0 = S.getD k 0 from e])
/-- the machine that is made -/
theorem Bfs.made {w : Au} {cl : Nat → Int} {S : List Nat} {T : Nat → Nat → Int} (hs : w.Shape) (hc : w.Cls cl) (h : Bfs w cl S T S.length 0) (F : List Bool) (hF : F = S.map fun k => w.final.getD k false) : (auOf S.length T F).Canon ∧ ∀ u, (auOf S.length T F).acc 0 u ↔ w.acc 0 u :=
  Bfs.canon hs hc h (auOf_len _ _ _) hF (fun k hk => auOf_row _ _ _ k hk) (fun k c hk hc => auOf_to _ _ _ k c hk hc)
theorem Bfs.setI {w : Au} {cl : Nat → Int} {S : List Nat} {T : Nat → Nat → Int} {i c : Nat} (h : Bfs w cl S T i c) (x : Int) : Bfs w cl S (setI T i c x) i c :=
  h.congr fun i' c' hp _ => setI_ne T i c x (by omega)
/-- which place a class has -/
theorem Bfs.plc {w : Au} {cl : Nat → Int} {S : List Nat} {T : Nat → Nat → Int} {i c : Nat} (h : Bfs w cl S T i c) {v : Int} {j : Nat} (hj : place v (S.map cl) = some j) : j < S.length ∧ cl (S.getD j 0) = v := by
  have h1 := place_lt hj
  rw [List.length_map] at h1
  have h2 := place_some hj
  rw [List.getElem?_map, List.getElem?_eq_getElem h1] at h2
  refine ⟨h1, ?_⟩
  rw [List.getD_eq_getElem?_getD, List.getElem?_eq_getElem h1]
  exact Option.some.inj h2
theorem Bfs.fresh {cl : Nat → Int} {S : List Nat} {v : Int} (hn : v ∉ S.map cl) : ∀ k, k < S.length → cl (S.getD k 0) ≠ v := fun k hk e => hn (by
  rw [← e]; exact List.mem_map_of_mem (getD_memG 0 S k hk))
end Au
end Go.Vl
end

section
set_option linter.unusedVariables false
set_option linter.unusedSimpArgs false
namespace Go.Vl
def sumN : Nat → (Nat → Nat) → Nat
  | 0, _ => 0
  | n + 1, f => sumN n f + f n
theorem sumN_congr {n : Nat} {f g : Nat → Nat} (h : ∀ k, k < n → f k = g k) : sumN n f = sumN n g := by
  induction n with
  | zero => rfl
  | succ n ih => rw [sumN, sumN, ih fun k hk => h k (by omega), h n (by omega)]
theorem sumN_zero (n : Nat) : sumN n (fun _ => 0) = 0 := by
  induction n with
  | zero => rfl
  | succ n ih => rw [sumN, ih]
theorem sumN_le {n t : Nat} (f : Nat → Nat) (h : t < n) : f t ≤ sumN n f := by
  induction n with
  | zero => omega
  | succ n ih =>
    rw [sumN]
    rcases Nat.lt_or_ge t n with h1 | h1
    · have := ih h1; omega
    · obtain rfl : t = n := by omega
      omega
theorem sumN_mono {i n : Nat} (f : Nat → Nat) (h : i ≤ n) : sumN i f ≤ sumN n f := by
  induction n with
  | zero => obtain rfl : i = 0 := by omega
            exact Nat.le_refl _
  | succ n ih =>
    rcases Nat.lt_or_ge i (n + 1) with h1 | h1
    · have := ih (by omega); rw [sumN]; omega
    · obtain rfl : i = n + 1 := by omega
      exact Nat.le_refl _
theorem sumN_upd {n t : Nat} (g h : Nat → Nat) (x : Nat) (ht : t < n) : sumN n (fun k => (if k = t then g k + x else g k) * h k) = sumN n (fun k => g k * h k) + x * h t := by
  induction n with
  | zero => omega
  | succ n ih =>
    rw [sumN, sumN]
    rcases Nat.lt_or_ge t n with h1 | h1
    · rw [ih h1, if_neg (by omega)]; omega
    · obtain rfl : t = n := by omega
      rw [if_pos rfl, sumN_congr (g := fun k => g k * h k) fun k hk => by rw [if_neg (by omega)], Nat.add_mul]; omega
theorem sumN_upd1 {n t : Nat} (g : Nat → Nat) (x : Nat) (ht : t < n) : sumN n (fun k => if k = t then g k + x else g k) = sumN n g + x := by
  have := sumN_upd g (fun _ => 1) x ht
  simpa using this
namespace Au
/-- w: how many words lead to each state; g: those of one letter more, so far -/
structure Ct (a : Au) (w g : Nat → Nat) (m i d : Nat) : Prop where
  dot : sumN a.next.length (fun k => g k * cnt a m (k : Int)) = sumN i (fun k => w k * cnt a (m + 1) (k : Int)) + w i * sumN d (fun c => cnt a m (a.to (i : Int) (c : Int)))
  tot : sumN a.next.length g ≤ 8 * sumN i w + d * w i
variable {a : Au} {w g : Nat → Nat} {m i d : Nat}
theorem Ct.start (a : Au) (w : Nat → Nat) (m : Nat) : Ct a w (fun _ => 0) m 0 0 :=
  ⟨by rw [sumN_congr (g := fun _ => 0) (fun k _ => Nat.zero_mul _), sumN_zero]; simp [sumN], by rw [sumN_zero]; omega⟩
theorem Ct.row (h : Ct a w g m i 8) : Ct a w g m (i + 1) 0 := by
  have h1 := h.dot
  have h2 := h.tot
  refine ⟨?_, ?_⟩
  · rw [h1]
    have e : cnt a (m + 1) (i : Int) = sumN 8 (fun c => cnt a m (a.to (i : Int) (c : Int))) := by
      rw [cnt, if_pos (by omega)]
      simp only [sum8, sumN, Nat.zero_add]
    show _ = (sumN i _ + w i * cnt a (m + 1) (i : Int)) + w (i + 1) * 0
    rw [e]; omega
  · rw [sumN]; omega
theorem Ct.skip (h : Ct a w g m i d) (hn : a.to (i : Int) (d : Int) < 0) : Ct a w g m i (d + 1) := by
  have h2 := h.tot
  refine ⟨by show _ = _ + w i * (sumN d _ + cnt a m (a.to (i : Int) (d : Int))); rw [cnt_neg hn, Nat.add_zero]; exact h.dot, ?_⟩
  rw [Nat.add_mul]; omega
theorem Ct.add (h : Ct a w g m i d) {t : Nat} (ht : t < a.next.length) (hto : a.to (i : Int) (d : Int) = (t : Int)) : Ct a w (fun k => if k = t then g k + w i else g k) m i (d + 1) := by
  have h2 := h.tot
  refine ⟨?_, ?_⟩
  · rw [sumN_upd g (fun k => cnt a m (k : Int)) (w i) ht, h.dot, sumN, hto, Nat.mul_add]; omega
  · rw [sumN_upd1 g (w i) ht, Nat.add_mul]; omega
theorem Ct.done (h : Ct a w g m a.next.length 0) : sumN a.next.length (fun k => g k * cnt a m (k : Int)) = sumN a.next.length (fun k => w k * cnt a (m + 1) (k : Int)) ∧ sumN a.next.length g ≤ 8 * sumN a.next.length w :=
  ⟨by rw [h.dot]; simp [sumN], by have := h.tot; omega⟩
/-- how many words lead to each state, so far -/
structure Wy (a : Au) (long k : Nat) (w : Nat → Nat) : Prop where
  dot : sumN a.next.length (fun i => w i * cnt a (long - k) (i : Int)) = cnt a long 0
  tot : sumN a.next.length w ≤ 8 ^ k
theorem Wy.start (hp : 0 < a.next.length) (long : Nat) : Wy a long 0 (fun i => if i = 0 then 1 else 0) := by
  have e : (fun i => if i = 0 then 1 else 0) = fun i => if i = 0 then (fun _ => 0) i + 1 else (fun _ => 0) i := rfl
  refine ⟨?_, ?_⟩
  · have := sumN_upd (fun _ => 0) (fun i => cnt a (long - 0) (i : Int)) 1 hp
    rw [sumN_congr (g := fun _ => 0) (f := fun k => (fun _ => 0) k * _) (fun k _ => Nat.zero_mul _), sumN_zero] at this
    refine this.trans ?_
    simp
  · rw [e, sumN_upd1 _ 1 hp, sumN_zero]; decide
theorem Wy.step {long k : Nat} (h : Wy a long k w) (hk : k < long) (hc : Ct a w g (long - (k + 1)) a.next.length 0) : Wy a long (k + 1) g := by
  obtain ⟨h1, h2⟩ := hc.done
  refine ⟨?_, ?_⟩
  · rw [h1, show long - (k + 1) + 1 = long - k from by omega]; exact h.dot
  · have := h.tot; rw [Nat.pow_succ]; omega
theorem Wy.le {long k : Nat} (h : Wy a long k w) (hk : k ≤ 12) {i : Nat} (hi : i < a.next.length) : w i ≤ 68719476736 := by
  have h1 := sumN_le w hi
  have h2 := h.tot
  have h3 : 8 ^ k ≤ 8 ^ 12 := Nat.pow_le_pow_right (by decide) hk
  omega
theorem Ct.le {long k : Nat} (hw : Wy a long k w) (hk : k ≤ 12) (h : Ct a w g m i d) (hi : i < a.next.length) (hd : d < 8) {t : Nat} (ht : t < a.next.length) : g t ≤ 1099511627776 := by
  have h1 := sumN_le g ht
  have h2 := h.tot
  have h3 := hw.tot
  have h4 : 8 ^ k ≤ 8 ^ 12 := Nat.pow_le_pow_right (by decide) hk
  have h5 := sumN_mono w (Nat.le_of_lt hi)
  have h6 := sumN_le w hi
  have h7 : d * w i ≤ 8 * w i := Nat.mul_le_mul_right _ (by omega)
  omega
theorem Wy.last {long : Nat} (h : Wy a long long w) : sumN a.next.length (fun i => w i * cnt a 0 (i : Int)) = cnt a long 0 := by
  have := h.dot
  rwa [Nat.sub_self] at this
end Au
end Go.Vl
end

section
set_option linter.unusedVariables false
set_option linter.unusedSimpArgs false
set_option linter.unusedSectionVars false
namespace Go.Vl
def tailV (g off k n cap : Nat) : Value := .slice (if cap = 1 then some ⟨g, off, none⟩ else some ⟨g, off + 1 * k, none⟩) (n - 1) (cap - 1)
/-- an entry of the queue -/
def qav (q : Nat × List Int) : AV := .agg [.int (q.1 : Int), .sl 1 (q.2.map AV.int)]
end Go.Vl
end

section
set_option linter.unusedVariables false
set_option linter.unusedSimpArgs false
namespace Go.Vl
abbrev natv (n : Nat) : AV := .int (n : Int)
theorem okc_natv (l : List Nat) : ∀ e ∈ l.map natv, e.okc = true := by
  intro e he
  obtain ⟨k, _, rfl⟩ := List.mem_map.1 he
  rfl
theorem getD_set {α : Type} (l : List α) (r : Nat) (x z : α) (p : Nat) : (l.set r x).getD p z = if p = r ∧ r < l.length then x else l.getD p z := by
  rw [List.getD_eq_getElem?_getD, List.getElem?_set, List.getD_eq_getElem?_getD]
  by_cases h : r = p
  · subst h
    by_cases h2 : r < l.length
    · rw [if_pos rfl, if_pos h2, if_pos ⟨rfl, h2⟩]; rfl
    · rw [if_pos rfl, if_neg h2, if_neg (fun h => h2 h.2), List.getElem?_eq_none (by omega)]
  · rw [if_neg h, if_neg (fun h' => h h'.1.symm)]
theorem getD_over {α : Type} (l : List α) (z : α) {p : Nat} (h : l.length ≤ p) : l.getD p z = z := by
  rw [List.getD_eq_getElem?_getD, List.getElem?_eq_none h]; rfl
theorem getD_app {α : Type} (l m : List α) (z : α) {p : Nat} (h : p < l.length) : (l ++ m).getD p z = l.getD p z := by
  rw [List.getD_eq_getElem?_getD, List.getElem?_append_left h, List.getD_eq_getElem?_getD]
abbrev Fol := List (List Nat)
/-- links, so far: from all ahead of i to all; from the i-th to those ahead of j -/
structure LnkP (F F' : Fol) (fr to : List Nat) (i j : Nat) : Prop where
  len : F'.length = F.length
  mem : ∀ p q, p < F.length → (q ∈ F'.getD p [] ↔ q ∈ F.getD p [] ∨ (p ∈ fr.take i ∧ q ∈ to) ∨ (i < fr.length ∧ p = fr.getD i 0 ∧ q ∈ to.take j))
  keep : ∀ p, p ∉ fr → F'.getD p [] = F.getD p []
  nodup : ∀ p, (F.getD p []).Nodup → (F'.getD p []).Nodup
structure Lnk (F F' : Fol) (fr to : List Nat) : Prop where
  len : F'.length = F.length
  mem : ∀ p q, p < F.length → (q ∈ F'.getD p [] ↔ q ∈ F.getD p [] ∨ (p ∈ fr ∧ q ∈ to))
  keep : ∀ p, p ∉ fr → F'.getD p [] = F.getD p []
  nodup : ∀ p, (F.getD p []).Nodup → (F'.getD p []).Nodup
section lnk
variable {F F' : Fol} {fr to : List Nat} {i j : Nat}
theorem LnkP.start (F : Fol) (fr to : List Nat) : LnkP F F fr to 0 0 := ⟨rfl, fun p q _ => by simp, fun _ _ => rfl, fun _ h => h⟩
theorem LnkP.row (h : LnkP F F' fr to i to.length) (hi : i < fr.length) : LnkP F F' fr to (i + 1) 0 := by
  refine ⟨h.len, fun p q hp => ?_, h.keep, h.nodup⟩
  rw [h.mem p q hp, take_getDG 0 fr i hi, List.mem_append, List.mem_singleton, List.take_length, List.take_zero]
  constructor
  · rintro (h1 | ⟨h1, h2⟩ | ⟨_, h1, h2⟩)
    · exact .inl h1
    · exact .inr (.inl ⟨.inl h1, h2⟩)
    · exact .inr (.inl ⟨.inr h1, h2⟩)
  · rintro (h1 | ⟨h1 | h1, h2⟩ | ⟨_, _, h2⟩)
    · exact .inl h1
    · exact .inr (.inl ⟨h1, h2⟩)
    · exact .inr (.inr ⟨hi, h1, h2⟩)
    · cases h2
theorem LnkP.skip (h : LnkP F F' fr to i j) (hi : i < fr.length) (hj : j < to.length) (hr : fr.getD i 0 < F.length) (hk : to.getD j 0 ∈ F'.getD (fr.getD i 0) []) : LnkP F F' fr to i (j + 1) := by
  refine ⟨h.len, fun p q hp => ?_, h.keep, h.nodup⟩
  rw [take_getDG 0 to j hj, List.mem_append, List.mem_singleton]
  constructor
  · intro hq
    rcases (h.mem p q hp).1 hq with h1 | h1 | ⟨h1, h2, h3⟩
    · exact .inl h1
    · exact .inr (.inl h1)
    · exact .inr (.inr ⟨h1, h2, .inl h3⟩)
  · rintro (h1 | h1 | ⟨h1, h2, h3 | h3⟩)
    · exact (h.mem p q hp).2 (.inl h1)
    · exact (h.mem p q hp).2 (.inr (.inl h1))
    · exact (h.mem p q hp).2 (.inr (.inr ⟨h1, h2, h3⟩))
    · rw [h3, h2]; exact hk
theorem LnkP.add (h : LnkP F F' fr to i j) (hi : i < fr.length) (hj : j < to.length) (hr : fr.getD i 0 < F.length) (hk : to.getD j 0 ∉ F'.getD (fr.getD i 0) []) :
    LnkP F (F'.set (fr.getD i 0) (F'.getD (fr.getD i 0) [] ++ [to.getD j 0])) fr to i (j + 1) := by
  have hg : ∀ p, (F'.set (fr.getD i 0) (F'.getD (fr.getD i 0) [] ++ [to.getD j 0])).getD p [] = if p = fr.getD i 0 then F'.getD (fr.getD i 0) [] ++ [to.getD j 0] else F'.getD p [] := fun p => by
    rw [getD_set]
    by_cases e : p = fr.getD i 0
    · rw [if_pos e, if_pos ⟨e, by rw [h.len]; exact hr⟩]
    · rw [if_neg e, if_neg (fun h => e h.1)]
  refine ⟨by rw [List.length_set]; exact h.len, fun p q hp => ?_, fun p hp => ?_, fun p hp => ?_⟩
  · rw [hg, take_getDG 0 to j hj, List.mem_append, List.mem_singleton]
    by_cases e : p = fr.getD i 0
    · rw [if_pos e, List.mem_append, List.mem_singleton, ← e, h.mem p q hp]
      constructor
      · rintro ((h1 | h1 | ⟨h1, h2, h3⟩) | h1)
        · exact .inl h1
        · exact .inr (.inl h1)
        · exact .inr (.inr ⟨h1, rfl, .inl h3⟩)
        · exact .inr (.inr ⟨hi, rfl, .inr h1⟩)
      · rintro (h1 | h1 | ⟨h1, h2, h3 | h3⟩)
        · exact .inl (.inl h1)
        · exact .inl (.inr (.inl h1))
        · exact .inl (.inr (.inr ⟨h1, e, h3⟩))
        · exact .inr h3
    · rw [if_neg e, h.mem p q hp]
      constructor
      · rintro (h1 | h1 | ⟨h1, h2, h3⟩)
        · exact .inl h1
        · exact .inr (.inl h1)
        · exact absurd h2 e
      · rintro (h1 | h1 | ⟨h1, h2, h3⟩)
        · exact .inl h1
        · exact .inr (.inl h1)
        · exact absurd h2 e
  · have e : p ≠ fr.getD i 0 := fun e => hp (e ▸ getD_memG 0 fr i hi)
    rw [hg, if_neg e]; exact h.keep p hp
  · rw [hg]
    split
    · rename_i e
      have := h.nodup p hp
      rw [e] at this
      exact List.nodup_append.2 ⟨this, by simp, fun a ha b hb e => hk (by rw [← List.mem_singleton.1 hb, ← e]; exact ha)⟩
    · exact h.nodup p hp
theorem LnkP.done (h : LnkP F F' fr to fr.length 0) : Lnk F F' fr to := by
  refine ⟨h.len, fun p q hp => ?_, h.keep, h.nodup⟩
  rw [h.mem p q hp, List.take_length]
  constructor
  · rintro (h1 | h1 | ⟨h1, _⟩)
    · exact .inl h1
    · exact .inr h1
    · omega
  · rintro (h1 | h1)
    · exact .inl h1
    · exact .inr (.inl h1)
end lnk
def tyOf (tys : List Int) (p : Nat) : Int := tys.getD p 0
def glOf (b : Nat) (F : Fol) (fi la : List Nat) (no : Bool) : Gl := ⟨fun p => p ∈ fi, fun p => p ∈ la, no = true, fun p q => b ≤ p ∧ q ∈ F.getD p []⟩
/-- places that came in: those of a part that means A -/
structure Pl (t0 : List Int) (F0 : Fol) (t : List Int) (F : Fol) (fi la : List Nat) (no : Bool) (A : Lg) : Prop where
  ext : ∃ u, t = t0 ++ u
  len : F.length = t.length
  old : ∀ p, p < t0.length → F.getD p [] = F0.getD p []
  inn : (glOf t0.length F fi la no).In t0.length t.length
  lang : (glOf t0.length F fi la no).lg (tyOf t) = A
  nodup : ∀ p, t0.length ≤ p → (F.getD p []).Nodup
  lf : fi.length + t0.length ≤ t.length
  ll : la.length + t0.length ≤ t.length
section pl
variable {t0 t1 t2 : List Int} {F0 F1 F2 F3 : Fol} {f1 l1 f2 l2 : List Nat} {n1 n2 : Bool} {A B : Lg}
theorem Pl.le (h : Pl t0 F0 t1 F1 f1 l1 n1 A) : t0.length ≤ t1.length := by
  obtain ⟨u, rfl⟩ := h.ext; rw [List.length_append]; omega
theorem Pl.nothing (h0 : F0.length = t0.length) (no : Bool) : Pl t0 F0 t0 F0 [] [] no (if no = true then Lg.eps else Lg.none) := by
  have e : glOf t0.length F0 [] [] no = Gl.nothing (no = true) := Gl.ext' (fun p => by simp [glOf, Gl.nothing]) (fun p => by simp [glOf, Gl.nothing]) Iff.rfl (fun p q => by
    simp only [glOf, Gl.nothing, iff_false]
    rintro ⟨h1, h2⟩
    rw [getD_over F0 [] (by omega)] at h2; cases h2)
  refine ⟨⟨[], by simp⟩, h0, fun _ _ => rfl, by rw [e]; exact Gl.nothing_in _ _, ?_, fun p hp => by rw [getD_over F0 [] (by omega)]; exact List.nodup_nil, by simp, by simp⟩
  rw [e]
  cases no with
  | true => rw [if_pos rfl, show (true = true) = True from eq_self _]; exact Gl.eps_lg _
  | false => rw [if_neg (by decide), show (false = true) = False from by simp]; exact Gl.none_lg _
theorem Pl.one (h0 : F0.length = t0.length) (c : Int) : Pl t0 F0 (t0 ++ [c]) (F0 ++ [[]]) [t0.length] [t0.length] false (Lg.one c) := by
  have hF : ∀ p, t0.length ≤ p → (F0 ++ [[]]).getD p [] = [] := fun p hp => by
    rcases Nat.lt_or_ge p (F0.length + 1) with h | h
    · obtain rfl : p = F0.length := by omega
      rw [List.getD_eq_getElem?_getD, List.getElem?_append_right (Nat.le_refl _), Nat.sub_self]; rfl
    · exact getD_over _ _ (by rw [List.length_append, List.length_singleton]; exact h)
  have e : glOf t0.length (F0 ++ [[]]) [t0.length] [t0.length] false = Gl.one t0.length := Gl.ext' (fun p => by simp [glOf, Gl.one]) (fun p => by simp [glOf, Gl.one]) (by simp [glOf, Gl.one]) (fun p q => by
    simp only [glOf, Gl.one, iff_false]
    rintro ⟨h1, h2⟩
    rw [hF p h1] at h2; cases h2)
  refine ⟨⟨[c], rfl⟩, by rw [List.length_append, List.length_append, h0]; rfl, fun p hp => getD_app _ _ _ (by omega), ?_, ?_, fun p hp => by rw [hF p hp]; exact List.nodup_nil, ?_, ?_⟩
  · rw [e, List.length_append, List.length_singleton]
    refine ⟨fun p hp => ?_, fun p hp => ?_, fun p q h => h.elim⟩
    · have hp : p = t0.length := hp
      omega
    · have hp : p = t0.length := hp
      omega
  · rw [e, Gl.one_lg]
    congr 1
    unfold tyOf
    rw [List.getD_eq_getElem?_getD, List.getElem?_append_right (Nat.le_refl _), Nat.sub_self]; rfl
  · rw [List.length_append]; simp; omega
  · rw [List.length_append]; simp; omega
theorem Pl.ty (h : Pl t0 F0 t1 F1 f1 l1 n1 A) {t : List Int} (hx : ∃ u, t = t1 ++ u) : (glOf t0.length F1 f1 l1 n1).lg (tyOf t) = A := by
  rw [← h.lang]
  obtain ⟨u, rfl⟩ := hx
  exact Gl.lg_ty h.inn fun p _ hp => getD_app _ _ _ hp
theorem Pl.exts (h1 : Pl t0 F0 t1 F1 f1 l1 n1 A) (h2 : Pl t1 F1 t2 F2 f2 l2 n2 B) : ∃ u, t2 = t0 ++ u := by
  obtain ⟨u, rfl⟩ := h1.ext
  obtain ⟨v, e⟩ := h2.ext
  exact ⟨u ++ v, by rw [e, List.append_assoc]⟩
/-- what may follow what, in both parts -/
theorem Pl.fols (h1 : Pl t0 F0 t1 F1 f1 l1 n1 A) (h2 : Pl t1 F1 t2 F2 f2 l2 n2 B) (p q : Nat) : (t0.length ≤ p ∧ q ∈ F2.getD p []) ↔ (t0.length ≤ p ∧ q ∈ F1.getD p []) ∨ (t1.length ≤ p ∧ q ∈ F2.getD p []) := by
  have hle := h1.le
  constructor
  · rintro ⟨a, b⟩
    rcases Nat.lt_or_ge p t1.length with h | h
    · exact .inl ⟨a, by rw [← h2.old p h]; exact b⟩
    · exact .inr ⟨h, b⟩
  · rintro (⟨a, b⟩ | ⟨a, b⟩)
    · rcases Nat.lt_or_ge p t1.length with h | h
      · exact ⟨a, by rw [h2.old p h]; exact b⟩
      · rw [getD_over F1 [] (by rw [h1.len]; exact h)] at b; cases b
    · exact ⟨by omega, b⟩
theorem Pl.or (h1 : Pl t0 F0 t1 F1 f1 l1 n1 A) (h2 : Pl t1 F1 t2 F2 f2 l2 n2 B) : Pl t0 F0 t2 F2 (f1 ++ f2) (l1 ++ l2) (n1 || n2) (Lg.alt A B) := by
  have hl1 := h1.le
  have hl2 := h2.le
  have e : glOf t0.length F2 (f1 ++ f2) (l1 ++ l2) (n1 || n2) = Gl.or (glOf t0.length F1 f1 l1 n1) (glOf t1.length F2 f2 l2 n2) :=
    Gl.ext' (fun p => by simp [glOf, Gl.or]) (fun p => by simp [glOf, Gl.or]) (by simp [glOf, Gl.or]) (fun p q => h1.fols h2 p q)
  refine ⟨h1.exts h2, h2.len, fun p hp => by rw [h2.old p (by omega), h1.old p hp], by rw [e]; exact Gl.or_in h1.inn h2.inn hl1 hl2, ?_, fun p hp => ?_, ?_, ?_⟩
  · rw [e, Gl.or_lg h1.inn h2.inn, h1.ty h2.ext, h2.lang]
  · rcases Nat.lt_or_ge p t1.length with h | h
    · rw [h2.old p h]; exact h1.nodup p hp
    · exact h2.nodup p h
  · rw [List.length_append]; have := h1.lf; have := h2.lf; omega
  · rw [List.length_append]; have := h1.ll; have := h2.ll; omega
theorem Pl.seq (h1 : Pl t0 F0 t1 F1 f1 l1 n1 A) (h2 : Pl t1 F1 t2 F2 f2 l2 n2 B) (hk : Lnk F2 F3 l1 f2) : Pl t0 F0 t2 F3 (if n1 = true then f1 ++ f2 else f1) ((if n2 = true then l1 else []) ++ l2) (n1 && n2) (Lg.cat A B) := by
  have hl1 := h1.le
  have hl2 := h2.le
  have hin1 : ∀ p, p ∈ l1 → t0.length ≤ p ∧ p < t1.length := fun p hp => h1.inn.L p hp
  have hmem : ∀ p q, q ∈ F3.getD p [] ↔ q ∈ F2.getD p [] ∨ (p ∈ l1 ∧ q ∈ f2) := fun p q => by
    rcases Nat.lt_or_ge p F2.length with h | h
    · exact hk.mem p q h
    · rw [getD_over F3 [] (by rw [hk.len]; exact h), getD_over F2 [] h]
      constructor
      · intro h; cases h
      · rintro (h' | ⟨h', _⟩)
        · cases h'
        · have := hin1 p h'; rw [h2.len] at h; omega
  have e : glOf t0.length F3 (if n1 = true then f1 ++ f2 else f1) ((if n2 = true then l1 else []) ++ l2) (n1 && n2) = Gl.seq (glOf t0.length F1 f1 l1 n1) (glOf t1.length F2 f2 l2 n2) := by
    refine Gl.ext' (fun p => ?_) (fun p => ?_) (by simp [glOf, Gl.seq]) (fun p q => ?_)
    · simp only [glOf, Gl.seq]
      cases n1 <;> simp
    · simp only [glOf, Gl.seq]
      cases n2 <;> simp
    · show (t0.length ≤ p ∧ q ∈ F3.getD p []) ↔ ((t0.length ≤ p ∧ q ∈ F1.getD p []) ∨ (t1.length ≤ p ∧ q ∈ F2.getD p [])) ∨ (p ∈ l1 ∧ q ∈ f2)
      rw [hmem, ← h1.fols h2 p q]
      constructor
      · rintro ⟨a, b | b⟩
        · exact .inl ⟨a, b⟩
        · exact .inr b
      · rintro (⟨a, b⟩ | b)
        · exact ⟨a, .inl b⟩
        · exact ⟨(hin1 p b.1).1, .inr b⟩
  refine ⟨h1.exts h2, by rw [hk.len]; exact h2.len, fun p hp => ?_, by rw [e]; exact Gl.seq_in h1.inn h2.inn hl1 hl2, ?_, fun p hp => ?_, ?_, ?_⟩
  · rw [hk.keep p fun h => by have := hin1 p h; omega, h2.old p (by omega), h1.old p hp]
  · rw [e, Gl.seq_lg h1.inn h2.inn, h1.ty h2.ext, h2.lang]
  · refine hk.nodup p ?_
    rcases Nat.lt_or_ge p t1.length with h | h
    · rw [h2.old p h]; exact h1.nodup p hp
    · exact h2.nodup p h
  · have := h1.lf; have := h2.lf
    split
    · rw [List.length_append]; omega
    · omega
  · have := h1.ll; have := h2.ll
    rw [List.length_append]
    split
    · omega
    · simp only [List.length_nil]; omega
theorem Pl.loop (h1 : Pl t0 F0 t1 F1 f1 l1 n1 A) (hk : Lnk F1 F2 l1 f1) (no : Bool) : (Pl t0 F0 t1 F2 f1 l1 true (Lg.star A)) ∧ Pl t0 F0 t1 F2 f1 l1 n1 (Lg.cat A (Lg.star A)) := by
  have hl1 := h1.le
  have hin1 : ∀ p, p ∈ l1 → t0.length ≤ p ∧ p < t1.length := fun p hp => h1.inn.L p hp
  have hmem : ∀ p q, q ∈ F2.getD p [] ↔ q ∈ F1.getD p [] ∨ (p ∈ l1 ∧ q ∈ f1) := fun p q => by
    rcases Nat.lt_or_ge p F1.length with h | h
    · exact hk.mem p q h
    · rw [getD_over F2 [] (by rw [hk.len]; exact h), getD_over F1 [] h]
      constructor
      · intro h; cases h
      · rintro (h' | ⟨h', _⟩)
        · cases h'
        · have := hin1 p h'; rw [h1.len] at h; omega
  have e : ∀ (m : Bool) (N : Prop), ((m = true) ↔ N) → glOf t0.length F2 f1 l1 m = Gl.loop (glOf t0.length F1 f1 l1 n1) N := fun m N hN =>
    Gl.ext' (fun p => Iff.rfl) (fun p => Iff.rfl) hN (fun p q => by
      show (t0.length ≤ p ∧ q ∈ F2.getD p []) ↔ (t0.length ≤ p ∧ q ∈ F1.getD p []) ∨ (p ∈ l1 ∧ q ∈ f1)
      rw [hmem]
      constructor
      · rintro ⟨a, b | b⟩
        · exact .inl ⟨a, b⟩
        · exact .inr b
      · rintro (⟨a, b⟩ | b)
        · exact ⟨a, .inl b⟩
        · exact ⟨(hin1 p b.1).1, .inr b⟩)
  have old : ∀ p, p < t0.length → F2.getD p [] = F0.getD p [] := fun p hp => by
    rw [hk.keep p fun h => by have := hin1 p h; omega, h1.old p hp]
  have nd : ∀ p, t0.length ≤ p → (F2.getD p []).Nodup := fun p hp => hk.nodup p (h1.nodup p hp)
  refine ⟨⟨h1.ext, by rw [hk.len]; exact h1.len, old, ?_, ?_, nd, h1.lf, h1.ll⟩, ⟨h1.ext, by rw [hk.len]; exact h1.len, old, ?_, ?_, nd, h1.lf, h1.ll⟩⟩
  · rw [e true True (by simp)]; exact Gl.loop_in h1.inn
  · rw [e true True (by simp), Gl.star_lg, h1.lang]
  · rw [e n1 (n1 = true) Iff.rfl]; exact Gl.loop_in h1.inn
  · rw [e n1 (glOf t0.length F1 f1 l1 n1).N Iff.rfl, Gl.plus_lg, h1.lang]
theorem Pl.opt (h1 : Pl t0 F0 t1 F1 f1 l1 n1 A) : Pl t0 F0 t1 F1 f1 l1 true (Lg.alt Lg.eps A) := by
  have e : glOf t0.length F1 f1 l1 true = Gl.opt (glOf t0.length F1 f1 l1 n1) := Gl.ext' (fun p => Iff.rfl) (fun p => Iff.rfl) (by simp [glOf, Gl.opt]) (fun p q => Iff.rfl)
  exact ⟨h1.ext, h1.len, h1.old, by rw [e]; exact Gl.opt_in h1.inn, by rw [e, Gl.opt_lg, h1.lang], h1.nodup, h1.lf, h1.ll⟩
end pl
/-- rows that may grow: own arrays -/
abbrev Rw := Value × List Nat
def rowsM (I : TypeId) (R : List Rw) : List ME := R.map fun z => .arr z.1 I 1 (z.2.map natv)
def rowsV (R : List Rw) : List AV := R.map fun z => .lit z.1
def folOf (R : List Rw) : Fol := R.map fun z => z.2
theorem folOf_get (R : List Rw) (p : Nat) : (folOf R).getD p [] = (R.getD p (.slice none 0 0, [])).2 := by
  unfold folOf
  rw [List.getD_eq_getElem?_getD, List.getElem?_map, List.getD_eq_getElem?_getD]
  cases R[p]? <;> rfl
theorem folOf_set (R : List Rw) (p : Nat) (z : Rw) : folOf (R.set p z) = (folOf R).set p z.2 := by unfold folOf; rw [List.map_set]
theorem rows_mid (R : List Rw) (p : Nat) (h : p < R.length) : R = R.take p ++ R.getD p (.slice none 0 0, []) :: R.drop (p + 1) := by
  rw [List.getD_eq_getElem?_getD, List.getElem?_eq_getElem h]
  exact (List.take_append_drop p R).symm.trans (by rw [List.drop_eq_getElem_cons h]; rfl)
theorem rows_set_mid (R : List Rw) (p : Nat) (z : Rw) (h : p < R.length) : R.set p z = R.take p ++ z :: R.drop (p + 1) := by
  rw [List.set_eq_take_append_cons_drop, if_pos h]
theorem rowsM_app (I : TypeId) (R S : List Rw) : rowsM I (R ++ S) = rowsM I R ++ rowsM I S := by simp [rowsM]
/-- one row ahead of the others -/
theorem rowsM_out (I : TypeId) (R : List Rw) (p : Nat) (h : p < R.length) (M : List ME) : List.Perm (M ++ rowsM I R) (.arr (R.getD p (.slice none 0 0, [])).1 I 1 ((R.getD p (.slice none 0 0, [])).2.map natv) :: (M ++ (rowsM I (R.take p) ++ rowsM I (R.drop (p + 1))))) := by
  have e : rowsM I R = rowsM I (R.take p) ++ .arr (R.getD p (.slice none 0 0, [])).1 I 1 ((R.getD p (.slice none 0 0, [])).2.map natv) :: rowsM I (R.drop (p + 1)) := by
    conv => lhs; rw [rows_mid R p h]
    rw [rowsM_app]; rfl
  rw [e]
  refine (List.Perm.append_left M List.perm_middle).trans ?_
  exact List.perm_middle
theorem rowsM_in (I : TypeId) (R : List Rw) (p : Nat) (z : Rw) (h : p < R.length) (M : List ME) : List.Perm (.arr z.1 I 1 (z.2.map natv) :: (M ++ (rowsM I (R.take p) ++ rowsM I (R.drop (p + 1))))) (M ++ rowsM I (R.set p z)) := by
  have e : rowsM I (R.set p z) = rowsM I (R.take p) ++ .arr z.1 I 1 (z.2.map natv) :: rowsM I (R.drop (p + 1)) := by
    rw [rows_set_mid R p z h, rowsM_app]; rfl
  rw [e]
  refine List.Perm.trans ?_ (List.Perm.append_left M List.perm_middle.symm)
  exact List.perm_middle.symm
theorem rowsV_get (R : List Rw) (p : Nat) (h : p < R.length) : (rowsV R)[p]? = some (.lit (R.getD p (.slice none 0 0, [])).1) := by
  unfold rowsV
  rw [List.getElem?_map, List.getD_eq_getElem?_getD, List.getElem?_eq_getElem h]; rfl
theorem rowsV_set (R : List Rw) (p : Nat) (z : Rw) : (rowsV R).set p (.lit z.1) = rowsV (R.set p z) := by unfold rowsV; rw [List.map_set]
theorem rowsV_len (R : List Rw) : (rowsV R).length = R.length := by simp [rowsV]
theorem folOf_len (R : List Rw) : (folOf R).length = R.length := by simp [folOf]
/-- numbers of which none is there twice, all below n -/
theorem nodup_len {n : Nat} {l : List Nat} (h : l.Nodup) (hb : ∀ x ∈ l, x < n) : l.length ≤ n :=
  pigeon n l.length (fun i => l.getD i 0) (fun i hi => hb _ (getD_memG 0 l i hi)) fun i j hi hj e => by
    have e : l.getD i 0 = l.getD j 0 := e
    rw [List.getD_eq_getElem?_getD, List.getD_eq_getElem?_getD, List.getElem?_eq_getElem hi, List.getElem?_eq_getElem hj] at e
    exact (List.getElem_inj h).1 e
end Go.Vl
end

section
set_option linter.unusedVariables false
set_option linter.unusedSimpArgs false
namespace Go.Vl
namespace Ex
mutual
def lv : Ex → Nat
  | mk k _ p => if k = 1 then 1 else lvs p
def lvs : List Ex → Nat
  | [] => 0
  | d :: l => lv d + lvs l
end
theorem lv_eq (x : Ex) : lv x = if x.kind = 1 then 1 else lvs x.parts := by cases x with | mk k t p => rw [lv]; rfl
theorem lvs_append (l m : List Ex) : lvs (l ++ m) = lvs l + lvs m := by
  induction l with
  | nil => simp [lvs]
  | cons d l ih => rw [List.cons_append, lvs, lvs, ih]; omega
theorem lvs_one (d : Ex) : lvs [d] = lv d := by rw [lvs, lvs, Nat.add_zero]
theorem lvs_snoc (l : List Ex) (i : Nat) (h : i < l.length) : lvs (l.take (i + 1)) = lvs (l.take i) + lv (l.getD i dflt) := by
  rw [take_getDG dflt l i h, lvs_append, lvs_one]
theorem lvs_take (l : List Ex) (i : Nat) : lvs (l.take i) ≤ lvs l := by
  have h := lvs_append (l.take i) (l.drop i)
  rw [List.take_append_drop] at h; omega
theorem lv_sz : ∀ x : Ex, lv x ≤ sz x := by
  refine rec' fun x ih => ?_
  have h : ∀ l : List Ex, (∀ d ∈ l, lv d ≤ sz d) → lvs l ≤ szs l := fun l => by
    induction l with
    | nil => intro _; exact Nat.le_refl _
    | cons d l ih2 => intro h; rw [lvs, szs]; have := h d List.mem_cons_self; have := ih2 fun e he => h e (List.mem_cons_of_mem _ he); omega
  have := h x.parts ih
  rw [lv_eq, sz_eq]
  split <;> omega
theorem lvs_flat (k : Int) (hk : k ≠ 1) (l : List Ex) : lvs (flat k l) = lvs l := by
  induction l with
  | nil => rfl
  | cons d l ih =>
    rw [show flat k (d :: l) = (if d.kind = k then d.parts else [d]) ++ flat k l from rfl, lvs_append, lvs, ih]
    congr 1
    split
    · rename_i e; rw [lv_eq, if_neg (by rw [e]; exact hk)]
    · exact lvs_one d
theorem lv_tog (k : Int) (hk : k ≠ 1) (l : List Ex) : lv (tog k l) = lvs l := by
  rcases tog_cases k l with ⟨x, rfl, e⟩ | ⟨h1, y, h2, e⟩ | ⟨h1, h2, e⟩
  · rw [e, lvs_one]
  · rw [e, ← lvs_flat k hk l, h2, lvs_one]
  · rw [e, lv_eq]
    show (if k = 1 then 1 else lvs (flat k l)) = _
    rw [if_neg hk, lvs_flat k hk]
theorem lv_sfe : ∀ (sf : List Nat) (x : Ex), lv (sfe x sf) = lv x
  | [], x => rfl
  | k :: sf, x => by
    show lv (sfe (.mk (4 + (k : Int)) 0 [x]) sf) = lv x
    rw [lv_sfe sf, lv_eq]
    show (if (4 + (k : Int)) = 1 then 1 else lvs [x]) = _
    rw [if_neg (by omega), lvs_one]
end Ex
namespace It
theorem lvs_sev (s : List It) (h : ∀ i ∈ s, Ex.lv i.ev = nl i) : Ex.lvs (sev s) = snl s := by
  induction s with
  | nil => rfl
  | cons i s ih => rw [sev, Ex.lvs, snl, h i List.mem_cons_self, ih fun j hj => h j (List.mem_cons_of_mem _ hj)]
theorem lv_sq' (s : List It) (h : ∀ i ∈ s, Ex.lv i.ev = nl i) : Ex.lv (sq s) = snl s := by
  rw [sq, Ex.lv_tog 2 (by decide), lvs_sev s h]
theorem lvs_aev (a : List (List It)) (h : ∀ t ∈ a, Ex.lv (sq t) = snl t) : Ex.lvs (aev a) = anl a := by
  induction a with
  | nil => rfl
  | cons t a ih => rw [aev, Ex.lvs, anl, h t List.mem_cons_self, ih fun j hj => h j (List.mem_cons_of_mem _ hj)]
theorem lv_ev : ∀ i : It, Ex.lv i.ev = nl i := by
  refine rec' ?_ ?_
  · intro n sf
    rw [ev, Ex.lv_sfe, nl, Ex.lv_eq]; rfl
  · intro s a sf h1 h2
    rw [ev, Ex.lv_sfe, nl, Ex.lv_tog 3 (by decide), Ex.lvs, lv_sq' s h1, lvs_aev a fun t ht => lv_sq' t (h2 t ht)]
theorem lv_al (s : List It) (a : List (List It)) : Ex.lv (al s a) = snl s + anl a := by
  rw [al, Ex.lv_tog 3 (by decide), Ex.lvs, lv_sq' s fun i _ => lv_ev i, lvs_aev a fun t _ => lv_sq' t fun i _ => lv_ev i]
end It
/-- where a part's walk stands -/
structure AddZ where
  i : Nat
  fi : List Nat
  la : List Nat
  no : Bool
  vf : Value
  vl : Value
  vT : Value
  vF : Value
  tys : List Int
  R : List Rw
/-- letters that may be came in -/
def Tys (t0 t : List Int) : Prop := ∀ c ∈ t, c ∈ t0 ∨ (0 ≤ c ∧ c < 8)
theorem Tys.refl (t : List Int) : Tys t t := fun c h => .inl h
theorem Tys.trans {a b c : List Int} (h1 : Tys a b) (h2 : Tys b c) : Tys a c := fun x hx => (h2 x hx).elim (fun h => h1 x h) .inr
section pre
variable {t0 t1 t2 : List Int} {F0 F1 F2 : Fol} {f1 l1 f2 l2 : List Nat} {n1 n2 : Bool} {A B : Lg}
theorem Pl.pre1 (h : Pl t0 F0 t1 F1 f1 l1 n1 A) : (∀ p ∈ l1, p < t1.length) ∧ (∀ p ∈ l1, (F1.getD p []).Nodup) ∧ (∀ p ∈ l1, ∀ q ∈ F1.getD p [], q < t1.length) ∧ (∀ q ∈ f1, q < t1.length) :=
  ⟨fun p hp => (h.inn.L p hp).2, fun p hp => h.nodup p (h.inn.L p hp).1, fun p hp q hq => (h.inn.E p q ⟨(h.inn.L p hp).1, hq⟩).2.2, fun q hq => (h.inn.F q hq).2⟩
theorem Pl.pre2 (h1 : Pl t0 F0 t1 F1 f1 l1 n1 A) (h2 : Pl t1 F1 t2 F2 f2 l2 n2 B) : (∀ p ∈ l1, p < t2.length) ∧ (∀ p ∈ l1, (F2.getD p []).Nodup) ∧ (∀ p ∈ l1, ∀ q ∈ F2.getD p [], q < t2.length) ∧ (∀ q ∈ f2, q < t2.length) := by
  obtain ⟨a, b, c, d⟩ := h1.pre1
  have hle := h2.le
  refine ⟨fun p hp => by have := a p hp; omega, fun p hp => by rw [h2.old p (a p hp)]; exact b p hp, fun p hp q hq => ?_, fun q hq => (h2.inn.F q hq).2⟩
  rw [h2.old p (a p hp)] at hq
  have := c p hp q hq; omega
end pre
section fin
variable {t0 t1 : List Int} {F0 F1 F2 : Fol} {f1 l1 : List Nat} {n1 : Bool} {x : Ex}
theorem Pl.fin3 (h : Pl t0 F0 t1 F1 f1 l1 n1 (Ex.alts x.parts)) (hk : x.kind = 3 ∨ x.kind = 6) : Pl t0 F0 t1 F1 f1 l1 ((n1 || (x.kind == 4)) || (x.kind == 6)) x.lg := by
  rcases hk with hk | hk
  · rw [Ex.lg_eq, hk, show ((n1 || ((3 : Int) == 4)) || ((3 : Int) == 6)) = n1 from by cases n1 <;> rfl, if_neg (by decide), if_neg (by decide), if_pos rfl]; exact h
  · rw [Ex.lg_eq, hk, show ((n1 || ((6 : Int) == 4)) || ((6 : Int) == 6)) = true from by cases n1 <;> rfl, if_neg (by decide), if_neg (by decide), if_neg (by decide), if_neg (by decide), if_neg (by decide)]
    exact h.opt
theorem Pl.fin4 (h : Pl t0 F0 t1 F1 f1 l1 n1 (Ex.alts x.parts)) (hl : Lnk F1 F2 l1 f1) (hk : x.kind = 4 ∨ x.kind = 5) : Pl t0 F0 t1 F2 f1 l1 ((n1 || (x.kind == 4)) || (x.kind == 6)) x.lg := by
  obtain ⟨h1, h2⟩ := h.loop hl true
  rcases hk with hk | hk
  · rw [Ex.lg_eq, hk, show ((n1 || ((4 : Int) == 4)) || ((4 : Int) == 6)) = true from by cases n1 <;> rfl, if_neg (by decide), if_neg (by decide), if_neg (by decide), if_pos rfl]; exact h1
  · rw [Ex.lg_eq, hk, show ((n1 || ((5 : Int) == 4)) || ((5 : Int) == 6)) = n1 from by cases n1 <;> rfl, if_neg (by decide), if_neg (by decide), if_neg (by decide), if_neg (by decide), if_pos rfl]; exact h2
theorem Pl.fin2 (h : Pl t0 F0 t1 F1 f1 l1 n1 (Ex.seqs x.parts)) (hk : x.kind = 2) : Pl t0 F0 t1 F1 f1 l1 ((n1 || (x.kind == 4)) || (x.kind == 6)) x.lg := by
  rw [Ex.lg_eq, hk, show ((n1 || ((2 : Int) == 4)) || ((2 : Int) == 6)) = n1 from by cases n1 <;> rfl, if_neg (by decide), if_pos rfl]; exact h
end fin
theorem alts_snoc (l : List Ex) (i : Nat) (h : i < l.length) : Ex.alts (l.take (i + 1)) = Lg.alt (Ex.alts (l.take i)) (Ex.lg (l.getD i Ex.dflt)) := by
  rw [take_getDG Ex.dflt l i h, Ex.alts_append, Ex.alts_one]
theorem seqs_snoc (l : List Ex) (i : Nat) (h : i < l.length) : Ex.seqs (l.take (i + 1)) = Lg.cat (Ex.seqs (l.take i)) (Ex.lg (l.getD i Ex.dflt)) := by
  rw [take_getDG Ex.dflt l i h, Ex.seqs_append, Ex.seqs_one]
end Go.Vl
end
