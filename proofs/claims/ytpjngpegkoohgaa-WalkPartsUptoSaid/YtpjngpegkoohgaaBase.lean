/-
  Small functions.
-/
import Derived.Test.YtpjngpegkoohgaaIter
import Derived.Test.YtpjngpegkoohgaaRows
set_option linter.unusedVariables false
set_option linter.unusedSimpArgs false
set_option maxRecDepth 100000
namespace Go.Proofs.Ytpjngpegkoohgaa
open Go.Vl

namespace Base

theorem tmod_neg (a n : Int) (hn : 0 < n) (h : a.tmod n < 0) : a.tmod n + n = a % n := by
  have h1 := Int.tmod_eq_emod (a := a) (b := n)
  have h2 := Int.emod_nonneg a (by omega : n ≠ 0)
  have h3 := Int.emod_lt_of_pos a hn
  have h4 : (n.natAbs : Int) = n := by omega
  rw [h1] at h ⊢
  split at h <;> split <;> omega
theorem tmod_nonneg (a n : Int) (hn : 0 < n) (h : ¬ a.tmod n < 0) : a.tmod n = a % n := by
  have h1 := Int.tmod_eq_emod (a := a) (b := n)
  have h2 := Int.emod_nonneg a (by omega : n ≠ 0)
  have h3 := Int.emod_lt_of_pos a hn
  have h4 : (n.natAbs : Int) = n := by omega
  rw [h1] at h ⊢
  split at h <;> split <;> omega
theorem tmod_gt (a n : Int) (hn : 0 < n) : -n < a.tmod n ∧ a.tmod n < n := by
  have h1 := Int.tmod_eq_emod (a := a) (b := n)
  have h2 := Int.emod_nonneg a (by omega : n ≠ 0)
  have h3 := Int.emod_lt_of_pos a hn
  have h4 : (n.natAbs : Int) = n := by omega
  rw [h1]
  split <;> omega

theorem c_Picked (a n : Int) (hn : 0 < n) (hb : n ≤ 4611686018427387904) : FnP Try.prog 7 [.int a, .int n] (.int (a % n)) :=  by
  refine FnC.mk Try.func7 (by kernel_rfl) rfl Try.ntmps7 rfl (fun w0 F => ?_)
  have htm := tmod_gt a n hn
  refine W.seq ?_
  refine W.region ?_
  refine W.q (Ev.assign .k) rfl ?_
  refine W.nil ?_
  refine W.then ?_
  refine W.seq ?_
  refine W.region ?_
  refine W.q (Ev.move (.t rfl)) rfl ?_
  refine W.q (Ev.move (.t rfl)) rfl ?_
  first | refine W.q (Ev.rem (.t rfl) (.t rfl) (fun _ => by decide)) rfl ?_ | refine W.q (Ev.rem (.t rfl) (.t rfl) (fun _ => by omega)) rfl ?_
  refine W.q (Ev.assign (.t rfl)) rfl ?_
  refine W.nil ?_
  refine W.then ?_
  refine W.seq ?_
  refine W.seq ?_
  refine W.region ?_
  refine W.q (Ev.move (.t rfl)) rfl ?_
  refine W.q (Ev.lti (.t rfl) .k) rfl ?_
  refine W.nil ?_
  refine W.then ?_
  refine W.cond (.t rfl) (fun hc_t9 => ?_) (fun hc_t9 => ?_)
  · have h9 := of_decide_eq_true hc_t9
    refine W.seq ?_
    refine W.region ?_
    refine W.q (Ev.move (.t rfl)) rfl ?_
    refine W.q (Ev.move (.t rfl)) rfl ?_
    first | refine W.q (Ev.add (.t rfl) (.t rfl) (fun _ => by omega)) rfl ?_ | refine W.q (Ev.addw (.t rfl) (.t rfl)) rfl ?_
    refine W.q (Ev.assign (.t rfl)) rfl ?_
    refine W.nil ?_
    refine W.then ?_
    refine W.ret ?_
    refine W.then_ret ?_
    refine W.retn (M' := []) (rs := [.tmp 4]) (avs := [_]) Try.results7 ⟨rfl, trivial⟩ rfl (.refl _) ?_
    exact ⟨congrArg AV.int (by first | exact (tmod_neg a n hn h9).symm ▸ rfl | exact tmod_nonneg a n hn h9), rfl⟩
  · have h9 := of_decide_eq_false hc_t9
    refine W.skip ?_
    refine W.then ?_
    refine W.seq ?_
    refine W.region ?_
    refine W.q (Ev.move (.t rfl)) rfl ?_
    refine W.q (Ev.assign (.t rfl)) rfl ?_
    refine W.nil ?_
    refine W.then ?_
    refine W.ret ?_
    refine W.retn (M' := []) (rs := [.tmp 4]) (avs := [_]) Try.results7 ⟨rfl, trivial⟩ rfl (.refl _) ?_
    exact ⟨congrArg AV.int (by first | exact (tmod_neg a n hn h9).symm ▸ rfl | exact tmod_nonneg a n hn h9), rfl⟩

end Base

end Go.Proofs.Ytpjngpegkoohgaa
