/-
  The law CleanLines, without a program: lines end in one way.
-/
import Derived.Test.YtofmjmicgddljaaMore
set_option linter.unusedVariables false
set_option linter.unusedSimpArgs false
namespace Go.Vl
def lx (p : Nat) : UInt8 := if p = 0 then 97 else if p = 1 then 98 else if p = 2 then 32 else 60
def endS (n : Nat) : List UInt8 := if n = 0 then [] else if n = 1 then [10] else if n = 2 then [13, 10] else [13]
def pS (x : Nat × Nat) : List UInt8 := lx x.1 :: endS x.2
def pT (x : Nat × Nat) : List UInt8 := lx x.1 :: (if x.2 = 0 then [] else [10])
theorem endS_len (n : Nat) : (endS n).length ≤ 2 := by
  unfold endS
  repeat' split
  all_goals simp
theorem pS_len (ps : List (Nat × Nat)) : (ps.flatMap pS).length ≤ 3 * ps.length := by
  induction ps with
  | nil => simp
  | cons a ps ih => have := endS_len a.2; simp only [List.flatMap_cons, List.length_append, List.length_cons, pS]; omega
theorem pT_len (ps : List (Nat × Nat)) : (ps.flatMap pT).length ≤ 3 * ps.length := by
  induction ps with
  | nil => simp
  | cons a ps ih =>
    have : (pT a).length ≤ 3 := by unfold pT; split <;> simp
    simp only [List.flatMap_cons, List.length_append, List.length_cons]; omega
theorem lx_low (p : Nat) : (lx p).toNat < 128 ∧ (lx p).toNat ≠ 13 ∧ clean [lx p] = [lx p] ∧ lx p ≠ 10 := by
  unfold lx
  repeat' split
  all_goals decide
theorem clean_one (x : UInt8) (hx : x.toNat < 128) (h13 : x.toNat ≠ 13) (t : List UInt8) : clean (x :: t) = clean [x] ++ clean t := clean_parts x hx h13 t 0 [] (Nat.le_refl _)
theorem clean_nl (t : List UInt8) : clean (10 :: t) = 10 :: clean t := by
  rw [clean_one 10 (by decide) (by decide) t, show clean [10] = [10] from by decide]; rfl
theorem clean_crnl (t : List UInt8) : clean (13 :: 10 :: t) = 10 :: clean t := by
  rw [clean_cons (13 :: 10 :: t) (by simp), dec_of1 (by decide : (13 : UInt8).toNat < 128), List.drop_succ_cons, List.drop_zero, clean_nl]
  rfl
theorem clean_cr (t : List UInt8) (h : t.head? ≠ some 10) : clean (13 :: t) = 10 :: clean t := by
  rw [clean_cons (13 :: t) (by simp), dec_of1 (by decide : (13 : UInt8).toNat < 128), List.drop_succ_cons, List.drop_zero]
  have e : cpiece (13 : UInt8).toNat t = [10] := by
    show cpiece 13 t = [10]
    simp [cpiece, h]
    try decide
  rw [e]; rfl
theorem clean_pieces (ps : List (Nat × Nat)) : clean (ps.flatMap pS) = ps.flatMap pT := by
  induction ps with
  | nil => rfl
  | cons a ps ih =>
    obtain ⟨h1, h2, h3, _⟩ := lx_low a.1
    have hd : (ps.flatMap pS).head? ≠ some 10 := by
      cases ps with
      | nil => simp
      | cons b ps => simp [pS]; exact (lx_low b.1).2.2.2
    simp only [List.flatMap_cons, pS, pT, List.cons_append]
    rw [clean_one _ h1 h2, h3, List.singleton_append]
    congr 1
    unfold endS
    repeat' split
    all_goals (first | contradiction | skip)
    all_goals simp only [List.nil_append, List.cons_append, List.singleton_append]
    · exact ih
    · rw [clean_nl, ih]
    · rw [clean_crnl, ih]
    · rw [clean_cr _ hd, ih]
theorem pickX (p : Nat) (h : p < 4) : ([AV.str [97], AV.str [98], AV.str [32], AV.str [60]] : List AV)[(p : Int).toNat]? = some (AV.str [lx p]) := by
  rw [Int.toNat_natCast]
  match p, h with
  | 0, _ => rfl
  | 1, _ => rfl
  | 2, _ => rfl
  | 3, _ => rfl
theorem pickE (p : Nat) (h : p < 4) : ([AV.str [], AV.str [10], AV.str [13, 10], AV.str [13]] : List AV)[(p : Int).toNat]? = some (AV.str (endS p)) := by
  rw [Int.toNat_natCast]
  match p, h with
  | 0, _ => rfl
  | 1, _ => rfl
  | 2, _ => rfl
  | 3, _ => rfl
theorem mod4 (z : Int) : ∃ n : Nat, n < 4 ∧ z % 4 = (n : Int) := ⟨(z % 4).toNat, by omega, by omega⟩
end Go.Vl
