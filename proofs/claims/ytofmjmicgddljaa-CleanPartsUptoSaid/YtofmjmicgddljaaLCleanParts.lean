/-
  The law CleanParts, walked.
-/
import Derived.Test.YtofmjmicgddljaaWUtf
import Derived.Test.YtofmjmicgddljaaUtfLaw
set_option linter.unusedVariables false
set_option linter.unusedSimpArgs false
set_option maxRecDepth 100000
namespace Go.Proofs.Ytofmjmicgddljaa
open Go.Vl

namespace LCleanParts

theorem c_CleanParts (s t : List UInt8) (hs : s.length ≤ 1048576) (ht : t.length ≤ 1048576) : FnP Try.prog 5 [.str s, .str t] (.bool true) :=  by
  refine FnC.mk Try.func5 (by kernel_rfl) rfl Try.ntmps5 rfl (fun w0 F => ?_)
  obtain ⟨_, _, _, g1⟩ := clean_good _ (s ++ [120]) (Nat.le_refl _)
  obtain ⟨_, _, _, g2⟩ := clean_good _ t (Nat.le_refl _)
  rw [List.length_append] at g1
  have e1 : ([120] : List UInt8).length = 1 := rfl
  refine W.seq ?_
  refine W.region ?_
  refine W.q (Ev.assign .k) rfl ?_
  refine W.nil ?_
  refine W.then ?_
  refine W.seq ?_
  refine W.region ?_
  refine W.q (Ev.move (.t rfl)) rfl ?_
  refine W.q (Ev.cat (.t rfl) .k (fun _ => by first | omega | (simp; omega))) rfl ?_
  refine W.q (Ev.move (.t rfl)) rfl ?_
  refine W.q (Ev.cat (.t rfl) (.t rfl) (fun _ => by first | omega | (simp; omega))) rfl ?_
  refine W.callp (WUtf.c_Clean (s ++ [120] ++ t) (by rw [List.length_append, List.length_append]; omega)) ⟨(.t rfl), trivial⟩ rfl ?_
  refine W.q (Ev.move (.t rfl)) rfl ?_
  refine W.q (Ev.cat (.t rfl) .k (fun _ => by first | omega | (simp; omega))) rfl ?_
  refine W.callp (WUtf.c_Clean (s ++ [120]) (by rw [List.length_append]; omega)) ⟨(.t rfl), trivial⟩ rfl ?_
  refine W.q (Ev.move (.t rfl)) rfl ?_
  refine W.callp (WUtf.c_Clean t (by omega)) ⟨(.t rfl), trivial⟩ rfl ?_
  refine W.q (Ev.cat (.t rfl) (.t rfl) (fun _ => by first | omega | (simp; omega))) rfl ?_
  refine W.q (Ev.eqs (.t rfl) (.t rfl)) rfl ?_
  refine W.q (Ev.move (.t rfl)) rfl ?_
  refine W.is (t := 17) (g := true) (av' := .lit (.bool true)) rfl (congrArg (fun b => AV.lit (.bool b)) ?_) ?_
  · rw [beq_iff_eq, List.append_assoc]; exact clean_parts 120 (by decide) (by decide) t _ s (Nat.le_refl _)
  refine W.gyes rfl rfl ?_
  refine W.callp (WUtf.c_Clean [97, 13] (by decide)) ⟨.k, trivial⟩ rfl ?_
  refine W.gyes rfl rfl ?_
  refine W.q (Ev.eqs (.t rfl) .k) rfl ?_
  refine W.q (Ev.and (.t rfl) ⟨_, _, rfl, rfl, by simp⟩) rfl ?_
  refine W.q (Ev.assign (.t rfl)) rfl ?_
  refine W.nil ?_
  refine W.then ?_
  refine W.ret ?_
  refine W.retn (M' := []) (rs := [.tmp 4]) (avs := [_]) Try.results5 ⟨rfl, trivial⟩ rfl (.refl _) ?_
  exact ⟨congrArg AV.bool (by rw [clean_a13]; rfl), rfl⟩

end LCleanParts

end Go.Proofs.Ytofmjmicgddljaa
