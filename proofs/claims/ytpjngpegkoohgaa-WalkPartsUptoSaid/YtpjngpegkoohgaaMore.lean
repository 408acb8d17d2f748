/-
  More rules, and what the letters' text is.
-/
import Derived.Test.YtpjngpegkoohgaaDraw
import Derived.Test.YtpjngpegkoohgaaUtfLaw
set_option linter.unusedVariables false
set_option linter.unusedSimpArgs false
namespace Go.Vl
open Go Go.Sem
variable {x : Cx} {L : List (Tmp × Bool × AV)} {M : List ME} {ops : Array Oper} {Q : Exit → Act → World → Prop} {rest : List Oper}
/-- an operation that is passed over: its slot counts as a truth value that is not known -/
theorem W.gnob {d : Tmp} {op : Op} {ty : TypeId} {pos : String} {aft : Array Edge} {j : Nat} {want b : Bool} {t : Tmp} (hj : (ops[j]?).bind (·.dst) = some t) (hl : look L t = some (true, .lit (.bool b))) (hb : b ≠ want) (hd : Nat.blt d x.n = true)
    (next : W x ((d, false, .lit (.bool false)) :: L) M (wpList x.P ops Q rest)) : W x L M (wpList x.P ops Q (⟨some d, op, ty, pos, aft, some (j, want)⟩ :: rest)) := by
  intro a w hs
  have hw := guard_of (d := some d) (op := op) (ty := ty) (pos := pos) (aft := aft) (want := want) hj hl hs
  refine wpList_cons_skip (by rw [hw]; simpa using hb) ?_
  exact next _ _ (hs.put hd false _ undef (fun h => by cases h) (fun _ => rfl))

theorem text_bad (l : List Int) (z : Int) (hz : z ∈ l) (h : Utf8.valid z = false) : textS l = [] ∧ textE l = 2 := by
  have e : allOk l = false := by
    unfold allOk
    cases h' : l.all fun n => Utf8.valid n with
    | false => rfl
    | true => rw [List.all_eq_true] at h'; rw [h' z hz] at h; cases h
  simp [textS, textE, e]
theorem text_ok (l : List Int) (h : ∀ z ∈ l, Utf8.valid z = true) : textS l = (if (l.flatMap enc).length ≤ 600 then l.flatMap enc else []) ∧ textE l = (if (l.flatMap enc).length ≤ 600 then 0 else 1) := by
  have e : allOk l = true := by unfold allOk; rw [List.all_eq_true]; exact h
  simp [textS, textE, e]
theorem valid_out (z : Int) (h : ¬ (0 ≤ z ∧ z ≤ 1114111)) : Utf8.valid z = false := by
  cases e : Utf8.valid z with
  | false => rfl
  | true => rw [valid_iff] at e; omega
theorem getD_mem (l : List Int) (i : Nat) (h : i < l.length) : l.getD i 0 ∈ l := by
  rw [List.getD_eq_getElem?_getD, List.getElem?_eq_getElem h]; exact List.getElem_mem h
theorem getD_map (l : List Int) (i : Nat) (h : i < l.length) : (l.map AV.int)[i]? = some (AV.int (l.getD i 0)) := by
  rw [List.getD_eq_getElem?_getD, List.getElem?_map, List.getElem?_eq_getElem h]; rfl
theorem take_getD (l : List Int) (i : Nat) (h : i < l.length) : l.take (i + 1) = l.take i ++ [l.getD i 0] := by
  rw [List.take_add_one, List.getD_eq_getElem?_getD, List.getElem?_eq_getElem h]; rfl
end Go.Vl
