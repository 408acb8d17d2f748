/-
  Paths in their order.
-/
import Derived.Test.YteepllfbnoaiaaaWalk
import Derived.Test.YteepllfbnoaiaaaBase
set_option linter.unusedVariables false
set_option linter.unusedSimpArgs false
set_option maxRecDepth 100000
namespace Go.Proofs.Yteepllfbnoaiaaa
open Go.Vl

namespace WBefore
theorem ty3 : Ty Try.prog 3 1 8 (.int .i64 0) := Ty.of (by kernel_rfl)
theorem ag3 : IsAgg Try.prog 3 false := ⟨_, Try.underlying3, rfl⟩
theorem c_before (A B : List Int) (hA : A.length ≤ 1099511627776) (hB : B.length ≤ 1099511627776) : FnP Try.prog 19 [.sl 1 (A.map AV.int), .sl 1 (B.map AV.int)] (.bool (Nd.bfr A B)) :=  by
  refine FnC.mk Try.func19 (by kernel_rfl) rfl Try.ntmps19 rfl (fun w0 F => ?_)
  have kA : (A.map AV.int).length = A.length := List.length_map ..
  have kB : (B.map AV.int).length = B.length := List.length_map ..
  refine W.seq ?_
  refine W.region ?_
  refine W.q (Ev.assign .k) rfl ?_
  refine W.nil ?_
  refine W.then ?_
  refine W.seq ?_
  refine W.seq ?_
  refine W.region ?_
  refine W.q (Ev.assign .k) rfl ?_
  refine W.nil ?_
  refine W.then ?_
  refine W.block ?_
  refine W.loop (D := []) (ι := Nat) (fun i => [(5, true, .int (i : Int)), (0, true, .sl 1 (A.map AV.int)), (1, true, .sl 1 (B.map AV.int))]) (fun _ => []) (fun i => i ≤ A.length ∧ i ≤ B.length ∧ A.take i = B.take i) (fun i => A.length - i) 0 ⟨rfl, rfl, rfl, trivial⟩ (.refl _) ⟨Nat.zero_le _, Nat.zero_le _, rfl⟩ ?_
  rintro i ⟨hi1, hi2, hi3⟩
  dsimp only at hi1 hi2 hi3 ⊢
  rcases (show (i < A.length ∧ i < B.length) ∨ ¬ (i < A.length ∧ i < B.length) from by omega) with hlt | hge
  · have hga : (A.map AV.int)[i]? = some (AV.int (A.getD i 0)) := getD_map A i hlt.1
    have hgb : (B.map AV.int)[i]? = some (AV.int (B.getD i 0)) := getD_map B i hlt.2
    generalize ha : A.getD i 0 = a at hga
    generalize hb : B.getD i 0 = b at hgb
    refine W.seq ?_
    refine W.seq ?_
    refine W.region ?_
    refine W.q (Ev.move (.t rfl)) rfl ?_
    refine W.q (Ev.move (.t rfl)) rfl ?_
    first | refine W.q (Ev.lensl (.t rfl) Try.underlying22) rfl ?_ | refine W.q (Ev.lenar (i := 0) (.t rfl) rfl Try.underlying22) rfl ?_ | refine W.q (Ev.lenar (i := 1) (.t rfl) rfl Try.underlying22) rfl ?_ | refine W.q (Ev.lenar (i := 2) (.t rfl) rfl Try.underlying22) rfl ?_ | refine W.q (Ev.lenar (i := 3) (.t rfl) rfl Try.underlying22) rfl ?_
    refine W.q (Ev.lti (.t rfl) (.t rfl)) rfl ?_
    refine W.q (Ev.move (.t rfl)) rfl ?_
    refine W.qgT rfl rfl (Ev.move (.t rfl)) rfl ?_
    refine W.qgT rfl rfl (Ev.move (.t rfl)) rfl ?_
    first | refine W.qgT rfl rfl (Ev.lensl (.c rfl) Try.underlying22) rfl ?_ | refine W.qgT rfl rfl (Ev.lenar (i := 0) (.c rfl) rfl Try.underlying22) rfl ?_ | refine W.qgT rfl rfl (Ev.lenar (i := 1) (.c rfl) rfl Try.underlying22) rfl ?_ | refine W.qgT rfl rfl (Ev.lenar (i := 2) (.c rfl) rfl Try.underlying22) rfl ?_ | refine W.qgT rfl rfl (Ev.lenar (i := 3) (.c rfl) rfl Try.underlying22) rfl ?_
    refine W.qgT rfl rfl (Ev.lti (.c rfl) (.c rfl)) rfl ?_
    refine W.q (Ev.and (.t rfl) ⟨_, _, rfl, rfl, by first | (simp; done) | (intro hg_ hp_; simp [hp_]; done) | (simp <;> omega; done) | (simp_all; done) | grind⟩) rfl ?_
    refine W.nil ?_
    refine W.then ?_
    refine W.is (t := 15) (g := true) (av' := .lit (.bool true)) rfl (congrArg (fun b => AV.lit (.bool b)) (by simp; omega)) ?_
    refine W.condT (.t rfl) ?_
    refine W.skip ?_
    refine W.then ?_
    refine W.seq ?_
    refine W.block ?_
    refine W.seq ?_
    refine W.drawn (by kernel_rfl) (by kernel_rfl) ?_
    refine DP.q (Ev.move (.t rfl)) rfl ?_
    refine DP.q (Ev.move (.t rfl)) rfl ?_
    refine DP.q (Ev.at (E := 3) (.t rfl) (.t rfl) Try.underlying22 ty3 (fun _ => ⟨by omega, hga⟩) rfl rfl) rfl ?_
    first | refine DP.q (Ev.lde1 (.t rfl) ag3) rfl ?_ | refine DP.q (Ev.ldb1 0 (.t rfl) rfl ag3 rfl) rfl ?_ | refine DP.q (Ev.ldb1 1 (.t rfl) rfl ag3 rfl) rfl ?_ | refine DP.q (Ev.ldb1 2 (.t rfl) rfl ag3 rfl) rfl ?_ | refine DP.q (Ev.ldb1 3 (.t rfl) rfl ag3 rfl) rfl ?_
    refine DP.q (Ev.move (.t rfl)) rfl ?_
    refine DP.q (Ev.move (.t rfl)) rfl ?_
    refine DP.q (Ev.at (E := 3) (.t rfl) (.t rfl) Try.underlying22 ty3 (fun _ => ⟨by omega, hgb⟩) rfl rfl) rfl ?_
    first | refine DP.q (Ev.lde1 (.t rfl) ag3) rfl ?_ | refine DP.q (Ev.ldb1 0 (.t rfl) rfl ag3 rfl) rfl ?_ | refine DP.q (Ev.ldb1 1 (.t rfl) rfl ag3 rfl) rfl ?_ | refine DP.q (Ev.ldb1 2 (.t rfl) rfl ag3 rfl) rfl ?_ | refine DP.q (Ev.ldb1 3 (.t rfl) rfl ag3 rfl) rfl ?_
    refine DP.q (Ev.nei (.t rfl) (.t rfl)) rfl ?_
    refine DP.nil ?_
    refine W.then ?_
    refine W.cond (.t rfl) (fun hc_t26 => ?_) (fun hc_t26 => ?_)
    · have hne : A.getD i 0 ≠ B.getD i 0 := by rw [ha, hb]; simp at hc_t26; exact hc_t26
      have hr := Nd.bfr_at A B i hlt.1 hlt.2 hi3 hne
      rw [ha, hb] at hr
      refine W.seq ?_
      refine W.drawn (by kernel_rfl) (by kernel_rfl) ?_
      refine DP.q (Ev.move (.t rfl)) rfl ?_
      refine DP.q (Ev.move (.t rfl)) rfl ?_
      refine DP.q (Ev.at (E := 3) (.t rfl) (.t rfl) Try.underlying22 ty3 (fun _ => ⟨by omega, hga⟩) rfl rfl) rfl ?_
      first | refine DP.q (Ev.lde1 (.t rfl) ag3) rfl ?_ | refine DP.q (Ev.ldb1 0 (.t rfl) rfl ag3 rfl) rfl ?_ | refine DP.q (Ev.ldb1 1 (.t rfl) rfl ag3 rfl) rfl ?_ | refine DP.q (Ev.ldb1 2 (.t rfl) rfl ag3 rfl) rfl ?_ | refine DP.q (Ev.ldb1 3 (.t rfl) rfl ag3 rfl) rfl ?_
      refine DP.q (Ev.move (.t rfl)) rfl ?_
      refine DP.q (Ev.move (.t rfl)) rfl ?_
      refine DP.q (Ev.at (E := 3) (.t rfl) (.t rfl) Try.underlying22 ty3 (fun _ => ⟨by omega, hgb⟩) rfl rfl) rfl ?_
      first | refine DP.q (Ev.lde1 (.t rfl) ag3) rfl ?_ | refine DP.q (Ev.ldb1 0 (.t rfl) rfl ag3 rfl) rfl ?_ | refine DP.q (Ev.ldb1 1 (.t rfl) rfl ag3 rfl) rfl ?_ | refine DP.q (Ev.ldb1 2 (.t rfl) rfl ag3 rfl) rfl ?_ | refine DP.q (Ev.ldb1 3 (.t rfl) rfl ag3 rfl) rfl ?_
      refine DP.q (Ev.lti (.t rfl) (.t rfl)) rfl ?_
      refine DP.q (Ev.assign (.t rfl)) rfl ?_
      refine DP.nil ?_
      refine W.then ?_
      refine W.ret ?_
      refine W.blk_ret ?_
      refine W.then_ret ?_
      refine W.then_ret ?_
      refine W.blk_ret ?_
      refine W.then_ret ?_
      refine W.retn (M' := []) (rs := [.tmp 4]) (avs := [_]) Try.results19 ⟨rfl, trivial⟩ rfl (.refl _) ?_
      first | exact ⟨congrArg AV.bool hr.symm, rfl⟩ | exact ⟨congrArg AV.bool (by rw [hr, kA, kB]; simp), rfl⟩
    · have heq : A.getD i 0 = B.getD i 0 := by rw [ha, hb]; simp at hc_t26; exact hc_t26
      refine W.skip ?_
      refine W.blk_normal ?_
      refine W.then ?_
      refine W.region ?_
      refine W.q (Ev.move (.t rfl)) rfl ?_
      first | refine W.q (Ev.add (.t rfl) .k (fun _ => by omega)) rfl ?_ | refine W.q (Ev.addw (.t rfl) .k) rfl ?_
      refine W.q (Ev.assign (.t rfl)) rfl ?_
      refine W.nil ?_
      refine W.then ?_
      refine W.reach (D := []) (i + 1) ⟨rfl, rfl, rfl, trivial⟩ (.refl _) ⟨⟨by omega, by omega, by rw [take_getD A i hlt.1, take_getD B i hlt.2, hi3, heq]⟩, by omega⟩
  · have hr := Nd.bfr_end A B i hi1 hi2 hi3 hge
    refine W.seq ?_
    refine W.seq ?_
    refine W.region ?_
    refine W.q (Ev.move (.t rfl)) rfl ?_
    refine W.q (Ev.move (.t rfl)) rfl ?_
    first | refine W.q (Ev.lensl (.t rfl) Try.underlying22) rfl ?_ | refine W.q (Ev.lenar (i := 0) (.t rfl) rfl Try.underlying22) rfl ?_ | refine W.q (Ev.lenar (i := 1) (.t rfl) rfl Try.underlying22) rfl ?_ | refine W.q (Ev.lenar (i := 2) (.t rfl) rfl Try.underlying22) rfl ?_ | refine W.q (Ev.lenar (i := 3) (.t rfl) rfl Try.underlying22) rfl ?_
    refine W.q (Ev.lti (.t rfl) (.t rfl)) rfl ?_
    refine W.q (Ev.move (.t rfl)) rfl ?_
    refine W.qgT rfl rfl (Ev.move (.t rfl)) rfl ?_
    refine W.qgT rfl rfl (Ev.move (.t rfl)) rfl ?_
    first | refine W.qgT rfl rfl (Ev.lensl (.c rfl) Try.underlying22) rfl ?_ | refine W.qgT rfl rfl (Ev.lenar (i := 0) (.c rfl) rfl Try.underlying22) rfl ?_ | refine W.qgT rfl rfl (Ev.lenar (i := 1) (.c rfl) rfl Try.underlying22) rfl ?_ | refine W.qgT rfl rfl (Ev.lenar (i := 2) (.c rfl) rfl Try.underlying22) rfl ?_ | refine W.qgT rfl rfl (Ev.lenar (i := 3) (.c rfl) rfl Try.underlying22) rfl ?_
    refine W.qgT rfl rfl (Ev.lti (.c rfl) (.c rfl)) rfl ?_
    refine W.q (Ev.and (.t rfl) ⟨_, _, rfl, rfl, by first | (simp; done) | (intro hg_ hp_; simp [hp_]; done) | (simp <;> omega; done) | (simp_all; done) | grind⟩) rfl ?_
    refine W.nil ?_
    refine W.then ?_
    refine W.is (t := 15) (g := true) (av' := .lit (.bool false)) rfl (congrArg (fun b => AV.lit (.bool b)) (by simp; omega)) ?_
    refine W.condF (.t rfl) ?_
    refine W.exit ?_
    refine W.then_exit ?_
    refine W.then_exit ?_
    refine W.blk_hit ?_
    refine W.then ?_
    refine W.seq ?_
    refine W.region ?_
    refine W.q (Ev.move (.t rfl)) rfl ?_
    first | refine W.q (Ev.lensl (.t rfl) Try.underlying22) rfl ?_ | refine W.q (Ev.lenar (i := 0) (.t rfl) rfl Try.underlying22) rfl ?_ | refine W.q (Ev.lenar (i := 1) (.t rfl) rfl Try.underlying22) rfl ?_ | refine W.q (Ev.lenar (i := 2) (.t rfl) rfl Try.underlying22) rfl ?_ | refine W.q (Ev.lenar (i := 3) (.t rfl) rfl Try.underlying22) rfl ?_
    refine W.q (Ev.move (.t rfl)) rfl ?_
    first | refine W.q (Ev.lensl (.t rfl) Try.underlying22) rfl ?_ | refine W.q (Ev.lenar (i := 0) (.t rfl) rfl Try.underlying22) rfl ?_ | refine W.q (Ev.lenar (i := 1) (.t rfl) rfl Try.underlying22) rfl ?_ | refine W.q (Ev.lenar (i := 2) (.t rfl) rfl Try.underlying22) rfl ?_ | refine W.q (Ev.lenar (i := 3) (.t rfl) rfl Try.underlying22) rfl ?_
    refine W.q (Ev.lti (.t rfl) (.t rfl)) rfl ?_
    refine W.q (Ev.assign (.t rfl)) rfl ?_
    refine W.nil ?_
    refine W.then ?_
    refine W.ret ?_
    refine W.retn (M' := []) (rs := [.tmp 4]) (avs := [_]) Try.results19 ⟨rfl, trivial⟩ rfl (.refl _) ?_
    first | exact ⟨congrArg AV.bool hr.symm, rfl⟩ | exact ⟨congrArg AV.bool (by rw [hr, kA, kB]; simp), rfl⟩

end WBefore

end Go.Proofs.Yteepllfbnoaiaaa
