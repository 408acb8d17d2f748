/-
  What the laws draw, and how they compare.
-/
import Derived.Test.YteepllfbnoaiaaaDraw
import Derived.Test.YteepllfbnoaiaaaBase
import Derived.Test.YteepllfbnoaiaaaArr
import Derived.Test.YteepllfbnoaiaaaUtfLaw
set_option linter.unusedVariables false
set_option linter.unusedSimpArgs false
set_option maxRecDepth 100000
namespace Go.Proofs.Yteepllfbnoaiaaa
open Go.Vl

namespace WLet
theorem ty3 : Ty Try.prog 3 1 8 (.int .i64 0) := Ty.of (by kernel_rfl)
theorem ag3 : IsAgg Try.prog 3 false := ⟨_, Try.underlying3, rfl⟩
theorem c_sameInts (a b : List Int) (ha : a.length ≤ 1099511627776) : FnP Try.prog 22 [.sl 1 (a.map AV.int), .sl 1 (b.map AV.int)] (.bool (decide (a = b))) :=  by
  refine FnC.mk Try.func22 (by kernel_rfl) rfl Try.ntmps22 rfl (fun w0 F => ?_)
  have hla : (a.map AV.int).length = a.length := List.length_map ..
  have hlb : (b.map AV.int).length = b.length := List.length_map ..
  refine W.seq ?_
  refine W.region ?_
  refine W.q (Ev.assign .k) rfl ?_
  refine W.nil ?_
  refine W.then ?_
  refine W.seq ?_
  refine W.seq ?_
  refine W.region ?_
  refine W.q (Ev.move (.t rfl)) rfl ?_
  first | refine W.q (Ev.lensl (.t rfl) Try.underlying22) rfl ?_ | refine W.q (Ev.lenar (i := 0) (.t rfl) rfl Try.underlying22) rfl ?_ | refine W.q (Ev.lenar (i := 1) (.t rfl) rfl Try.underlying22) rfl ?_ | refine W.q (Ev.lenar (i := 2) (.t rfl) rfl Try.underlying22) rfl ?_ | refine W.q (Ev.lenar (i := 3) (.t rfl) rfl Try.underlying22) rfl ?_
  refine W.q (Ev.move (.t rfl)) rfl ?_
  first | refine W.q (Ev.lensl (.t rfl) Try.underlying22) rfl ?_ | refine W.q (Ev.lenar (i := 0) (.t rfl) rfl Try.underlying22) rfl ?_ | refine W.q (Ev.lenar (i := 1) (.t rfl) rfl Try.underlying22) rfl ?_ | refine W.q (Ev.lenar (i := 2) (.t rfl) rfl Try.underlying22) rfl ?_ | refine W.q (Ev.lenar (i := 3) (.t rfl) rfl Try.underlying22) rfl ?_
  refine W.q (Ev.nei (.t rfl) (.t rfl)) rfl ?_
  refine W.nil ?_
  refine W.then ?_
  refine W.cond (.t rfl) (fun hc_t10 => ?_) (fun hc_t10 => ?_)
  · have hne : a ≠ b := by rintro rfl; simp at hc_t10
    refine W.seq ?_
    refine W.region ?_
    refine W.q (Ev.assign .k) rfl ?_
    refine W.nil ?_
    refine W.then ?_
    refine W.ret ?_
    refine W.then_ret ?_
    refine W.retn (M' := []) (rs := [.tmp 4]) (avs := [_]) Try.results22 ⟨rfl, trivial⟩ rfl (.refl _) ?_
    first | exact ⟨congrArg AV.bool (decide_eq_false hne).symm, rfl⟩ | exact ⟨congrArg AV.bool (decide_eq_true heq).symm, rfl⟩
  · have hlen : a.length = b.length := by simp at hc_t10; omega
    refine W.skip ?_
    refine W.then ?_
    refine W.seq ?_
    refine W.seq ?_
    refine W.region ?_
    refine W.q (Ev.assign .k) rfl ?_
    refine W.nil ?_
    refine W.then ?_
    refine W.block ?_
    refine W.loop (D := []) (ι := Nat) (fun i => [(5, true, .int (i : Int)), (0, true, .sl 1 (a.map AV.int)), (1, true, .sl 1 (b.map AV.int))]) (fun _ => []) (fun i => i ≤ a.length ∧ ∀ j, j < i → a[j]? = b[j]?) (fun i => a.length - i) 0 ⟨rfl, rfl, rfl, trivial⟩ (.refl _) ⟨Nat.zero_le _, by intro j hj; omega⟩ ?_
    rintro i ⟨hi1, hi2⟩
    dsimp only at hi1 hi2 ⊢
    refine W.seq ?_
    refine W.seq ?_
    refine W.region ?_
    refine W.q (Ev.move (.t rfl)) rfl ?_
    refine W.q (Ev.move (.t rfl)) rfl ?_
    first | refine W.q (Ev.lensl (.t rfl) Try.underlying22) rfl ?_ | refine W.q (Ev.lenar (i := 0) (.t rfl) rfl Try.underlying22) rfl ?_ | refine W.q (Ev.lenar (i := 1) (.t rfl) rfl Try.underlying22) rfl ?_ | refine W.q (Ev.lenar (i := 2) (.t rfl) rfl Try.underlying22) rfl ?_ | refine W.q (Ev.lenar (i := 3) (.t rfl) rfl Try.underlying22) rfl ?_
    refine W.q (Ev.lti (.t rfl) (.t rfl)) rfl ?_
    refine W.nil ?_
    refine W.then ?_
    refine W.cond (.t rfl) (fun hc_t14 => ?_) (fun hc_t14 => ?_)
    · have hlt : i < a.length := by simp at hc_t14; omega
      refine W.skip ?_
      refine W.then ?_
      refine W.seq ?_
      refine W.block ?_
      refine W.seq ?_
      refine W.drawn (by kernel_rfl) (by kernel_rfl) ?_
      have hga : (a.map AV.int)[i]? = some (AV.int a[i]) := by rw [List.getElem?_map, List.getElem?_eq_getElem hlt]; rfl
      have hgb : (b.map AV.int)[i]? = some (AV.int (b[i]'(by omega))) := by rw [List.getElem?_map, List.getElem?_eq_getElem (by omega)]; rfl
      refine DP.q (Ev.move (.t rfl)) rfl ?_
      refine DP.q (Ev.move (.t rfl)) rfl ?_
      refine DP.q (Ev.at (E := 3) (.t rfl) (.t rfl) Try.underlying22 ty3 (fun _ => ⟨by omega, hga⟩) rfl rfl) rfl ?_
      first | refine DP.q (Ev.lde1 (.t rfl) ag3) rfl ?_ | refine DP.q (Ev.ldb1 0 (.t rfl) rfl ag3 rfl) rfl ?_ | refine DP.q (Ev.ldb1 1 (.t rfl) rfl ag3 rfl) rfl ?_ | refine DP.q (Ev.ldb1 2 (.t rfl) rfl ag3 rfl) rfl ?_ | refine DP.q (Ev.ldb1 3 (.t rfl) rfl ag3 rfl) rfl ?_
      refine DP.q (Ev.move (.t rfl)) rfl ?_
      refine DP.q (Ev.move (.t rfl)) rfl ?_
      refine DP.q (Ev.at (E := 3) (.t rfl) (.t rfl) Try.underlying22 ty3 (fun _ => ⟨by omega, hgb⟩) rfl rfl) rfl ?_
      first | refine DP.q (Ev.lde1 (.t rfl) ag3) rfl ?_ | refine DP.q (Ev.ldb1 0 (.t rfl) rfl ag3 rfl) rfl ?_ | refine DP.q (Ev.ldb1 1 (.t rfl) rfl ag3 rfl) rfl ?_ | refine DP.q (Ev.ldb1 2 (.t rfl) rfl ag3 rfl) rfl ?_ | refine DP.q (Ev.ldb1 3 (.t rfl) rfl ag3 rfl) rfl ?_
      refine DP.q (Ev.nei (.t rfl) (.t rfl)) rfl ?_
      refine DP.nil ?_
      refine W.then ?_
      refine W.cond (.t rfl) (fun hc_t25 => ?_) (fun hc_t25 => ?_)
      · have hne : a ≠ b := by rintro rfl; simp at hc_t25
        refine W.seq ?_
        refine W.region ?_
        refine W.q (Ev.assign .k) rfl ?_
        refine W.nil ?_
        refine W.then ?_
        refine W.ret ?_
        refine W.blk_ret ?_
        refine W.then_ret ?_
        refine W.then_ret ?_
        refine W.blk_ret ?_
        refine W.then_ret ?_
        refine W.retn (M' := []) (rs := [.tmp 4]) (avs := [_]) Try.results22 ⟨rfl, trivial⟩ rfl (.refl _) ?_
        first | exact ⟨congrArg AV.bool (decide_eq_false hne).symm, rfl⟩ | exact ⟨congrArg AV.bool (decide_eq_true heq).symm, rfl⟩
      · have hsame : a[i]? = b[i]? := by simp at hc_t25; rw [List.getElem?_eq_getElem hlt, List.getElem?_eq_getElem (by omega), hc_t25]
        refine W.skip ?_
        refine W.blk_normal ?_
        refine W.then ?_
        refine W.region ?_
        refine W.q (Ev.move (.t rfl)) rfl ?_
        first | refine W.q (Ev.add (.t rfl) .k (fun _ => by omega)) rfl ?_ | refine W.q (Ev.addw (.t rfl) .k) rfl ?_
        refine W.q (Ev.assign (.t rfl)) rfl ?_
        refine W.nil ?_
        refine W.then ?_
        refine W.reach (D := []) (i + 1) ⟨rfl, rfl, rfl, trivial⟩ (.refl _) ⟨⟨by omega, fun j hj => ?_⟩, by omega⟩
        rcases Nat.lt_or_ge j i with h | h
        · exact hi2 j h
        · obtain rfl : j = i := by omega
          exact hsame
    · have hge : i = a.length := by simp at hc_t14; omega
      have heq : a = b := List.ext_getElem? (fun j => by cases Nat.lt_or_ge j a.length with | inl h => exact hi2 j (by omega) | inr h => rw [List.getElem?_eq_none h, List.getElem?_eq_none (by omega)])
      refine W.exit ?_
      refine W.then_exit ?_
      refine W.then_exit ?_
      refine W.blk_hit ?_
      refine W.then ?_
      refine W.seq ?_
      refine W.region ?_
      refine W.q (Ev.assign .k) rfl ?_
      refine W.nil ?_
      refine W.then ?_
      refine W.ret ?_
      refine W.retn (M' := []) (rs := [.tmp 4]) (avs := [_]) Try.results22 ⟨rfl, trivial⟩ rfl (.refl _) ?_
      first | exact ⟨congrArg AV.bool (decide_eq_false hne).symm, rfl⟩ | exact ⟨congrArg AV.bool (decide_eq_true heq).symm, rfl⟩

end WLet

end Go.Proofs.Yteepllfbnoaiaaa
