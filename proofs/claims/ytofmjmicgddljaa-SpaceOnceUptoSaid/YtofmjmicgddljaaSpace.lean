/-
  The law SpaceOnce, without a program: runs of spaces.
-/
import Derived.Test.YtofmjmicgddljaaBld
set_option linter.unusedVariables false
set_option linter.unusedSimpArgs false
namespace Go.Vl
def spz (z : Int) : Bool := z == 32 || z == 9 || z == 10 || z == 12
def spx (c : UInt8) : Bool := spz (c.toNat : Int)
def sp : Bool → List UInt8 → List UInt8
  | _, [] => []
  | ah, c :: t => bif spx c then (bif ah then sp true t else 32 :: sp true t) else c :: sp false t
def spAfter : Bool → List UInt8 → Bool
  | ah, [] => ah
  | _, c :: t => spAfter (spx c) t
theorem sp32 : spx 32 = true := by decide
theorem sp_idem : ∀ (ah : Bool) (s : List UInt8), sp ah (sp ah s) = sp ah s
  | _, [] => rfl
  | ah, c :: t => by
    have h1 := sp_idem true t
    have h2 := sp_idem false t
    cases hc : spx c with
    | true =>
      cases ah with
      | true => simp only [sp, hc, cond_true]; exact h1
      | false => simp only [sp, hc, sp32, cond_true, cond_false, h1]
    | false => simp only [sp, hc, cond_false, h2]
theorem sp_parts : ∀ (ah : Bool) (s t : List UInt8), sp ah (s ++ t) = sp ah s ++ sp (spAfter ah s) t
  | _, [], _ => rfl
  | ah, c :: s, t => by
    have h1 := sp_parts true s t
    have h2 := sp_parts false s t
    cases hc : spx c with
    | true =>
      cases ah with
      | true => simp only [List.cons_append, sp, spAfter, hc, cond_true]; exact h1
      | false => simp only [List.cons_append, sp, spAfter, hc, cond_true, cond_false, h1]
    | false => simp only [List.cons_append, sp, spAfter, hc, cond_false, h2]
theorem sp_len : ∀ (ah : Bool) (s : List UInt8), (sp ah s).length ≤ s.length
  | _, [] => Nat.le_refl _
  | ah, c :: t => by
    have h1 := sp_len true t
    have h2 := sp_len false t
    cases hc : spx c <;> cases ah <;> simp only [sp, hc, cond_true, cond_false, List.length_cons] <;> omega
theorem spAfter_last : ∀ (ah : Bool) (s : List UInt8), s ≠ [] → spAfter ah s = spx (s.getD (s.length - 1) 0)
  | _, [], h => absurd rfl h
  | _, [c], _ => rfl
  | ah, c :: d :: t, _ => by
    have := spAfter_last (spx c) (d :: t) (by simp)
    rw [spAfter, this]
    congr 1
def flt (s : List UInt8) : List UInt8 := s.filter fun c => !spx c
theorem flt_sp : ∀ (ah : Bool) (s : List UInt8), flt (sp ah s) = flt s
  | _, [] => rfl
  | ah, c :: t => by
    have h1 : (sp true t).filter (fun c => !spx c) = t.filter (fun c => !spx c) := flt_sp true t
    have h2 : (sp false t).filter (fun c => !spx c) = t.filter (fun c => !spx c) := flt_sp false t
    unfold flt
    cases hc : spx c with
    | true =>
      cases ah with
      | true => simp only [sp, hc, cond_true, List.filter_cons, Bool.not_true, Bool.false_eq_true, if_false]; exact h1
      | false => simp only [sp, hc, cond_true, cond_false, List.filter_cons, sp32, Bool.not_true, Bool.false_eq_true, if_false]; exact h1
    | false => simp only [sp, hc, cond_false, List.filter_cons, Bool.not_false, if_true, h2]
theorem drop_byte (s : List UInt8) (i : Nat) (h : i < s.length) : s.drop i = s.getD i 0 :: s.drop (i + 1) := by
  rw [List.drop_eq_getElem_cons h, List.getD_eq_getElem?_getD, List.getElem?_eq_getElem h]; rfl
theorem flt_cond (z : Int) : (((z != 32 && z != 9) && z != 10) && z != 12) = !(spz z) := by
  unfold spz
  cases h1 : (z == 32) <;> cases h2 : (z == 9) <;> cases h3 : (z == 10) <;> cases h4 : (z == 12) <;> simp [bne, h1, h2, h3, h4]
end Go.Vl
