/-
  The law UtfCount, walked.
-/
import Derived.Test.YtofmjmicgddljaaWUtf
set_option linter.unusedVariables false
set_option linter.unusedSimpArgs false
set_option maxRecDepth 100000
namespace Go.Proofs.Ytofmjmicgddljaa
open Go.Vl

namespace LUtfCount

theorem c_UtfCount (s t : List UInt8) (hs : s.length ≤ 1048576) (ht : t.length ≤ 1048576) : FnP Try.prog 3 [.str s, .str t] (.bool true) :=  by
  refine FnC.mk Try.func3 (by kernel_rfl) rfl Try.ntmps3 rfl (fun w0 F => ?_)
  have h1 := rc_bounds _ s (Nat.le_refl _)
  have h2 := rc_bounds _ t (Nat.le_refl _)
  have h3 := rc_bounds _ (s ++ t) (Nat.le_refl _)
  have h4 := rc_append _ s t (Nat.le_refl _)
  rw [← show (rvs s).length = rc s from rvs_len s] at h1 h4
  rw [← show (rvs t).length = rc t from rvs_len t] at h2 h4
  rw [← show (rvs (s ++ t)).length = rc (s ++ t) from rvs_len _, List.length_append] at h3
  rw [← show (rvs (s ++ t)).length = rc (s ++ t) from rvs_len _] at h4
  refine W.seq ?_
  refine W.region ?_
  refine W.q (Ev.assign .k) rfl ?_
  refine W.nil ?_
  refine W.then ?_
  refine W.seq ?_
  refine W.region ?_
  refine W.q (Ev.move (.t rfl)) rfl ?_
  refine W.callp (WUtf.c_Runes s (by omega)) ⟨(.t rfl), trivial⟩ rfl ?_
  first | refine W.q (Ev.lensl (.t rfl) Try.underlying22) rfl ?_ | refine W.q (Ev.lenar 0 (.t rfl) rfl Try.underlying22) rfl ?_ | refine W.q (Ev.lenar 1 (.t rfl) rfl Try.underlying22) rfl ?_ | refine W.q (Ev.lenar 2 (.t rfl) rfl Try.underlying22) rfl ?_ | refine W.q (Ev.lenar 3 (.t rfl) rfl Try.underlying22) rfl ?_
  refine W.q (Ev.assign (.t rfl)) rfl ?_
  refine W.nil ?_
  refine W.then ?_
  refine W.seq ?_
  refine W.region ?_
  refine W.q (Ev.move (.t rfl)) rfl ?_
  refine W.callp (WUtf.c_Runes t (by omega)) ⟨(.t rfl), trivial⟩ rfl ?_
  first | refine W.q (Ev.lensl (.t rfl) Try.underlying22) rfl ?_ | refine W.q (Ev.lenar 0 (.t rfl) rfl Try.underlying22) rfl ?_ | refine W.q (Ev.lenar 1 (.t rfl) rfl Try.underlying22) rfl ?_ | refine W.q (Ev.lenar 2 (.t rfl) rfl Try.underlying22) rfl ?_ | refine W.q (Ev.lenar 3 (.t rfl) rfl Try.underlying22) rfl ?_
  refine W.q (Ev.assign (.t rfl)) rfl ?_
  refine W.nil ?_
  refine W.then ?_
  refine W.seq ?_
  refine W.region ?_
  refine W.q (Ev.move (.t rfl)) rfl ?_
  refine W.q (Ev.move (.t rfl)) rfl ?_
  refine W.q (Ev.cat (.t rfl) (.t rfl) (fun _ => by first | omega | (simp; omega))) rfl ?_
  refine W.callp (WUtf.c_Runes (s ++ t) (by rw [List.length_append]; omega)) ⟨(.t rfl), trivial⟩ rfl ?_
  first | refine W.q (Ev.lensl (.t rfl) Try.underlying22) rfl ?_ | refine W.q (Ev.lenar 0 (.t rfl) rfl Try.underlying22) rfl ?_ | refine W.q (Ev.lenar 1 (.t rfl) rfl Try.underlying22) rfl ?_ | refine W.q (Ev.lenar 2 (.t rfl) rfl Try.underlying22) rfl ?_ | refine W.q (Ev.lenar 3 (.t rfl) rfl Try.underlying22) rfl ?_
  refine W.q (Ev.assign (.t rfl)) rfl ?_
  refine W.nil ?_
  refine W.then ?_
  refine W.seq ?_
  refine W.region ?_
  refine W.q (Ev.move (.t rfl)) rfl ?_
  refine W.q (Ev.move (.t rfl)) rfl ?_
  refine W.q (Ev.lens (.t rfl) Try.underlying9) rfl ?_
  refine W.q (Ev.lei (.t rfl) (.t rfl)) rfl ?_
  refine W.q (Ev.move (.t rfl)) rfl ?_
  refine W.qgT rfl rfl (Ev.move (.t rfl)) rfl ?_
  refine W.qgT rfl rfl (Ev.lens (.c rfl) Try.underlying9) rfl ?_
  refine W.qgT rfl rfl (Ev.move (.t rfl)) rfl ?_
  first | refine W.qgT rfl rfl (Ev.mul .k (.c rfl) (fun _ => by omega)) rfl ?_ | refine W.qgT rfl rfl (Ev.mulw .k (.c rfl)) rfl ?_
  refine W.qgT rfl rfl (Ev.lei (.c rfl) (.c rfl)) rfl ?_
  refine W.q (Ev.and (.t rfl) ⟨_, _, rfl, rfl, by simp⟩) rfl ?_
  refine W.q (Ev.move (.t rfl)) rfl ?_
  refine W.qgT rfl rfl (Ev.move (.t rfl)) rfl ?_
  refine W.qgT rfl rfl (Ev.move (.t rfl)) rfl ?_
  refine W.qgT rfl rfl (Ev.move (.t rfl)) rfl ?_
  first | refine W.qgT rfl rfl (Ev.add (.c rfl) (.c rfl) (fun _ => by omega)) rfl ?_ | refine W.qgT rfl rfl (Ev.addw (.c rfl) (.c rfl)) rfl ?_
  refine W.qgT rfl rfl (Ev.lei (.c rfl) (.c rfl)) rfl ?_
  refine W.q (Ev.and (.t rfl) ⟨_, _, rfl, rfl, by simp⟩) rfl ?_
  refine W.q (Ev.move (.t rfl)) rfl ?_
  refine W.qgT rfl rfl (Ev.move (.t rfl)) rfl ?_
  refine W.qgT rfl rfl (Ev.move (.t rfl)) rfl ?_
  refine W.qgT rfl rfl (Ev.move (.t rfl)) rfl ?_
  first | refine W.qgT rfl rfl (Ev.add (.c rfl) (.c rfl) (fun _ => by omega)) rfl ?_ | refine W.qgT rfl rfl (Ev.addw (.c rfl) (.c rfl)) rfl ?_
  first | refine W.qgT rfl rfl (Ev.sub (.c rfl) .k (fun _ => by omega)) rfl ?_ | refine W.qgT rfl rfl (Ev.subw (.c rfl) .k) rfl ?_
  refine W.qgT rfl rfl (Ev.gei (.c rfl) (.c rfl)) rfl ?_
  refine W.q (Ev.and (.t rfl) ⟨_, _, rfl, rfl, by simp⟩) rfl ?_
  refine W.q (Ev.move (.t rfl)) rfl ?_
  refine W.is (t := 45) (g := true) (av' := .lit (.bool true)) rfl (congrArg (fun b => AV.lit (.bool b)) ?_) ?_
  · simp only [Bool.and_eq_true, decide_eq_true_eq]; omega
  refine W.gyes rfl rfl ?_
  refine W.callp (WUtf.c_Runes [97] (by decide)) ⟨.k, trivial⟩ rfl ?_
  refine W.gyes rfl rfl ?_
  first | refine W.q (Ev.lensl (.t rfl) Try.underlying22) rfl ?_ | refine W.q (Ev.lenar 0 (.t rfl) rfl Try.underlying22) rfl ?_ | refine W.q (Ev.lenar 1 (.t rfl) rfl Try.underlying22) rfl ?_ | refine W.q (Ev.lenar 2 (.t rfl) rfl Try.underlying22) rfl ?_ | refine W.q (Ev.lenar 3 (.t rfl) rfl Try.underlying22) rfl ?_
  refine W.gyes rfl rfl ?_
  refine W.q (Ev.eqi (.t rfl) .k) rfl ?_
  refine W.q (Ev.and (.t rfl) ⟨_, _, rfl, rfl, by simp⟩) rfl ?_
  refine W.q (Ev.assign (.t rfl)) rfl ?_
  refine W.nil ?_
  refine W.then ?_
  refine W.ret ?_
  refine W.retn (M' := []) (rs := [.tmp 4]) (avs := [_]) Try.results3 ⟨rfl, trivial⟩ rfl (.refl _) ?_
  exact ⟨rfl, rfl⟩

end LUtfCount

end Go.Proofs.Ytofmjmicgddljaa
