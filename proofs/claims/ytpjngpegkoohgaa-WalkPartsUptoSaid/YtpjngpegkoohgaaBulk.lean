/-
  What the bound on the arguments' bulk says of their lengths.
-/
import Derived.Test.YtpjngpegkoohgaaRows
set_option linter.unusedVariables false
namespace Go.Proofs.Ytpjngpegkoohgaa.Bulk
variable {H : Type}

theorem pos (d : DataW H) : 0 < Rows.uptoBulk d := by
  rcases d with l | _ | d | ⟨elems, spare⟩ | parts | ⟨t, d⟩ | entries | h
  · cases l <;> simp [Rows.uptoBulk]
  all_goals simp [Rows.uptoBulk]

theorem count (l : List (DataW H)) : l.length ≤ Rows.uptoBulkAll l := by
  induction l with
  | nil => exact Nat.zero_le _
  | cons d r ih =>
    have := pos d
    rw [Rows.uptoBulkAll, List.length_cons]
    omega

theorem all_append (l r : List (DataW H)) : Rows.uptoBulkAll (l ++ r) = Rows.uptoBulkAll l + Rows.uptoBulkAll r := by
  induction l with
  | nil => rw [List.nil_append, Rows.uptoBulkAll, Nat.zero_add]
  | cons d l ih => rw [List.cons_append, Rows.uptoBulkAll, Rows.uptoBulkAll, ih, Nat.add_assoc]

theorem le (l : List (DataW H)) (h : Rows.uptoSmall H l = true) : Rows.uptoBulkAll l ≤ 1048576 := by
  unfold Rows.uptoSmall at h
  exact of_decide_eq_true h

theorem str (s : List UInt8) : Rows.uptoBulk (DataW.lit (H := H) (.string s)) = s.length + 1 := by rw [Rows.uptoBulk]
theorem slice (elems spare : List (DataW H)) : Rows.uptoBulk (.slice elems spare) = Rows.uptoBulkAll elems + Rows.uptoBulkAll spare + 1 := by rw [Rows.uptoBulk]
end Go.Proofs.Ytpjngpegkoohgaa.Bulk
