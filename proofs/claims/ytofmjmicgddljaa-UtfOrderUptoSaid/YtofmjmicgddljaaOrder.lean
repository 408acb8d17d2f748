/-
  The laws UtfBack and UtfOrder, without a program: letters come back from their bytes, and stand in the order of their bytes.
-/
import Derived.Test.YtofmjmicgddljaaMore
set_option linter.unusedVariables false
set_option linter.unusedSimpArgs false
namespace Go.Vl
def VA (A : List Int) : Prop := ∀ z ∈ A, Utf8.valid z = true
theorem VA.nat {A : List Int} (h : VA A) : (A.map Int.toNat).map (fun (n : Nat) => (n : Int)) = A ∧ ∀ c ∈ A.map Int.toNat, Utf8.valid (c : Int) = true := by
  have hp : ∀ z ∈ A, ((z.toNat : Nat) : Int) = z := fun z hz => by have := h z hz; rw [valid_iff] at this; omega
  constructor
  · rw [List.map_map]
    conv => rhs; rw [← List.map_id A]
    exact List.map_congr_left (fun z hz => hp z hz)
  · intro c hc
    obtain ⟨z, hz, rfl⟩ := List.mem_map.1 hc
    rw [hp z hz]; exact h z hz
theorem rvs_text {A : List Int} (h : VA A) : rvs (A.flatMap enc) = A.map AV.int := by
  obtain ⟨h1, h2⟩ := h.nat
  have e : A.flatMap enc = flat (A.map Int.toNat) := by rw [← flatMap_enc_nat _ h2, h1]
  rw [e, rvs, runes_flat' _ h2]
  conv => rhs; rw [← h1]
  rw [List.map_map, List.map_map, List.map_map]; rfl
theorem VA.append {A B : List Int} (h : VA A) (h' : VA B) : VA (A ++ B) := fun z hz => by
  rcases List.mem_append.1 hz with hz | hz
  · exact h z hz
  · exact h' z hz
theorem int_inj {A B : List Int} (h : A.map AV.int = B.map AV.int) : A = B := by
  induction A generalizing B with
  | nil => cases B with
    | nil => rfl
    | cons b B => simp at h
  | cons a A ih => cases B with
    | nil => simp at h
    | cons b B =>
      simp only [List.map_cons, List.cons.injEq] at h
      obtain ⟨h1, h2⟩ := h
      simp [AV.int] at h1
      rw [h1, ih h2]
theorem text_inj {A B : List Int} (h : VA A) (h' : VA B) : (A.flatMap enc == B.flatMap enc) = decide (A = B) := by
  by_cases e : A = B
  · subst e; simp
  · rw [decide_eq_false e]
    cases h2 : (A.flatMap enc == B.flatMap enc) with
    | false => rfl
    | true =>
      rw [beq_iff_eq] at h2
      exact absurd (int_inj (by rw [← rvs_text h, ← rvs_text h', h2])) e
theorem VA.letters (l : List Int) (n : Nat) : VA ((l.take n).map letterOf) ∧ ((l.take n).map letterOf).length ≤ n := by
  refine ⟨fun z hz => ?_, by rw [List.length_map, List.length_take]; omega⟩
  obtain ⟨y, _, rfl⟩ := List.mem_map.1 hz
  exact letterOf_valid y
theorem text_small {A : List Int} (h : VA A) (hl : A.length ≤ 150) : textS A = A.flatMap enc ∧ textE A = 0 ∧ (A.flatMap enc).length ≤ 600 ∧ A.length ≤ (A.flatMap enc).length := by
  obtain ⟨h1, h2⟩ := text_ok A h
  have h3 := flatMap_enc A
  rw [if_pos (by omega)] at h1 h2
  refine ⟨h1, h2, by omega, ?_⟩
  clear h1 h2 h3 h hl
  induction A with
  | nil => simp
  | cons a A ih => have := (enc_len a).1; simp only [List.flatMap_cons, List.length_append, List.length_cons]; omega

/-! ### order -/
theorem bl_app (p x y : List UInt8) : Op.bytesLess (p ++ x) (p ++ y) = Op.bytesLess x y := by
  induction p with
  | nil => rfl
  | cons a p ih => rw [List.cons_append, List.cons_append, Op.bytesLess, ih]; simp
theorem bl_nil (x : List UInt8) : Op.bytesLess x [] = false := by cases x <;> rfl
theorem bl_anti : ∀ (x y : List UInt8), Op.bytesLess x y = true → Op.bytesLess y x = false
  | _, [], h => by rw [bl_nil] at h; cases h
  | [], _ :: _, _ => rfl
  | a :: x, b :: y, h => by
    simp only [Op.bytesLess, Bool.or_eq_true, Bool.and_eq_true, decide_eq_true_eq, beq_iff_eq] at h
    simp only [Op.bytesLess, Bool.or_eq_false_iff, Bool.and_eq_false_iff, decide_eq_false_iff_not, beq_eq_false_iff_ne, UInt8.lt_iff_toNat_lt] at h ⊢
    rcases h with h | ⟨rfl, h⟩
    · exact ⟨by omega, .inl (by rintro rfl; omega)⟩
    · exact ⟨by omega, .inr (bl_anti x y h)⟩
theorem o8_mod (n : Nat) : (o8 n).toNat = n % 256 := by simp [o8]
theorem m128 (n : Nat) : (128 + n % 64) % 256 = 128 + n % 64 := by omega
theorem digits (c : Nat) : c = c / 262144 * 262144 + c / 4096 % 64 * 4096 + c / 64 % 64 * 64 + c % 64 := by omega
theorem encN_lt (c d : Nat) (h : c < d) (hd : d ≤ 1114111) (s t : List UInt8) : Op.bytesLess (encN c ++ s) (encN d ++ t) = true := by
  generalize hq : Op.bytesLess s t = q
  unfold encN
  repeat' split
  all_goals simp only [List.cons_append, List.nil_append, Op.bytesLess, Bool.or_eq_true, Bool.and_eq_true, decide_eq_true_eq, beq_iff_eq, UInt8.lt_iff_toNat_lt, ← UInt8.toNat_inj, o8_mod, hq, m128]
  all_goals have ec := digits c
  all_goals have ed := digits d
  all_goals have fc : c / 64 / 64 = c / 4096 := Nat.div_div_eq_div_mul ..
  all_goals have fd : d / 64 / 64 = d / 4096 := Nat.div_div_eq_div_mul ..
  all_goals have gc : c / 4096 / 64 = c / 262144 := Nat.div_div_eq_div_mul ..
  all_goals have gd : d / 4096 / 64 = d / 262144 := Nat.div_div_eq_div_mul ..
  all_goals first | omega | skip
  all_goals rw [Nat.mod_eq_of_lt (show 240 + c / 262144 < 256 by omega), Nat.mod_eq_of_lt (show 240 + d / 262144 < 256 by omega)]
  all_goals have b1 := Nat.mod_lt (c / 4096) (show 0 < 64 by decide)
  all_goals have b2 := Nat.mod_lt (c / 64) (show 0 < 64 by decide)
  all_goals have b3 := Nat.mod_lt c (show 0 < 64 by decide)
  all_goals have b4 := Nat.mod_lt (d / 4096) (show 0 < 64 by decide)
  all_goals have b5 := Nat.mod_lt (d / 64) (show 0 < 64 by decide)
  all_goals have b6 := Nat.mod_lt d (show 0 < 64 by decide)
  all_goals clear fc fd gc gd
  all_goals generalize c / 262144 = c3 at *
  all_goals generalize c / 4096 % 64 = c2 at *
  all_goals generalize c / 64 % 64 = c1 at *
  all_goals generalize c % 64 = c0 at *
  all_goals generalize d / 262144 = d3 at *
  all_goals generalize d / 4096 % 64 = d2 at *
  all_goals generalize d / 64 % 64 = d1 at *
  all_goals generalize d % 64 = d0 at *
  all_goals omega
theorem enc_ord (x y : Int) (hx : Utf8.valid x = true) (hy : Utf8.valid y = true) (h : x ≠ y) (s t : List UInt8) : Op.bytesLess (enc x ++ s) (enc y ++ t) = decide (x < y) := by
  have hx' := hx; have hy' := hy
  rw [valid_iff] at hx' hy'
  rw [enc, enc, if_pos hx, if_pos hy]
  rcases Int.lt_or_gt_of_ne h with h1 | h1
  · rw [decide_eq_true h1]; exact encN_lt _ _ (by omega) (by omega) s t
  · rw [decide_eq_false (by omega)]; exact bl_anti _ _ (encN_lt _ _ (by omega) (by omega) t s)
theorem ord_at {A B : List Int} (h : VA A) (h' : VA B) (i : Nat) (ha : i < A.length) (hb : i < B.length) (hp : A.take i = B.take i) (hne : A.getD i 0 ≠ B.getD i 0) :
    Op.bytesLess (A.flatMap enc) (B.flatMap enc) = decide (A.getD i 0 < B.getD i 0) := by
  have e : ∀ (C : List Int), i < C.length → C = C.take i ++ C.getD i 0 :: C.drop (i + 1) := fun C hc => by
    rw [List.getD_eq_getElem?_getD, List.getElem?_eq_getElem hc, Option.getD_some, ← List.drop_eq_getElem_cons hc, List.take_append_drop]
  have ma := getD_mem A i ha
  have mb := getD_mem B i hb
  generalize hx : A.getD i 0 = x at *
  generalize hy : B.getD i 0 = y at *
  have ea := e A ha
  have eb := e B hb
  rw [hx] at ea
  rw [hy] at eb
  rw [ea, eb, hp, List.flatMap_append, List.flatMap_append, bl_app, List.flatMap_cons, List.flatMap_cons]
  exact enc_ord x y (h x ma) (h' y mb) hne _ _
theorem enc_ne (b : Int) (B : List Int) : (b :: B).flatMap enc ≠ [] := by
  intro e
  have := congrArg List.length e
  have := (enc_len b).1
  simp only [List.flatMap_cons, List.length_append, List.length_nil] at *
  omega
theorem ord_end {A B : List Int} (i : Nat) (ha : i ≤ A.length) (hb : i ≤ B.length) (hp : A.take i = B.take i) (hne : ¬ (i < A.length ∧ i < B.length)) :
    Op.bytesLess (A.flatMap enc) (B.flatMap enc) = decide (A.length < B.length) := by
  have ea := (List.take_append_drop i A).symm
  have eb := (List.take_append_drop i B).symm
  have la : (A.drop i).length = A.length - i := List.length_drop
  have lb : (B.drop i).length = B.length - i := List.length_drop
  rw [hp] at ea
  have e : Op.bytesLess (A.flatMap enc) (B.flatMap enc) = Op.bytesLess ((A.drop i).flatMap enc) ((B.drop i).flatMap enc) := by
    have fa : A.flatMap enc = (B.take i).flatMap enc ++ (A.drop i).flatMap enc := by rw [← List.flatMap_append, ← ea]
    have fb : B.flatMap enc = (B.take i).flatMap enc ++ (B.drop i).flatMap enc := by rw [← List.flatMap_append, ← eb]
    rw [fa, fb, bl_app]
  rw [e]
  cases hB : B.drop i with
  | nil =>
    rw [List.flatMap_nil, bl_nil, decide_eq_false]
    rw [hB] at lb
    simp at lb
    omega
  | cons b B' =>
    have hA : A.drop i = [] := List.eq_nil_of_length_eq_zero (by rw [hB] at lb; simp at lb; omega)
    rw [hA, List.flatMap_nil]
    rw [hA] at la
    rw [hB] at lb
    simp at la lb
    rw [decide_eq_true (by omega)]
    have := enc_ne b B'
    cases hz : (b :: B').flatMap enc with
    | nil => exact absurd hz this
    | cons _ _ => rfl
theorem ord_step {A B : List Int} (i : Nat) (ha : i < A.length) (hb : i < B.length) (hp : A.take i = B.take i) (he : A.getD i 0 = B.getD i 0) : A.take (i + 1) = B.take (i + 1) := by
  rw [take_getD A i ha, take_getD B i hb, hp, he]
end Go.Vl
