/-
  Words of what is written.
-/
import Derived.Test.YthhkionhimbekaaWMatch2
set_option linter.unusedVariables false
set_option linter.unusedSimpArgs false
set_option maxRecDepth 100000
namespace Go.Proofs.Ythhkionhimbekaa
open Go.Vl

namespace WWords

theorem c_of (t : List UInt8) (s : List It) (a : List (List It)) (hs : It.oks s) (ha : It.oka a) (e : t = It.stx s ++ It.atl a) (hl : t.length ≤ 40) : FnP Try.prog 9 [.str t] (.tup [(It.al s a).avx, .bool true]) := by
  subst e
  exact WParse3.c_exprOf s a hs ha hl
theorem c_is (s : List It) (a : List (List It)) (hs : It.oks s) (ha : It.oka a) (hl : (It.stx s ++ It.atl a).length ≤ 40) (w : List Int) (hw : w.length ≤ 40) (hwr : ∀ c ∈ w, 0 ≤ c ∧ c < 8) : FnP Try.prog 14 [(It.al s a).avx, .sl 1 (w.map AV.int)] (.bool (Lg.dec (Lg.alt (It.slg s) (It.alg a)) w)) := by
  have h1 := It.al_len s a hs ha
  have h2 := It.al_sz s a
  have h := WMatch2.c_matches (It.al s a) (It.al_ok s a hs ha) (by omega) (by omega) w hw hwr
  rwa [It.lg_al] at h
theorem c_a : FnP Try.prog 9 [.str [97]] (.tup [(It.al [It.ch 0 []] []).avx, .bool true]) := c_of [97] [It.ch 0 []] [] (by simp [It.oks, It.ok]) trivial rfl (by decide)
theorem c_a0 : FnP Try.prog 14 [(It.al [It.ch 0 []] []).avx, .sl 1 [.int 0]] (.bool true) := by
  have h := c_is [It.ch 0 []] [] (by simp [It.oks, It.ok]) trivial (by decide) [0] (by decide) (by simp)
  have e : Lg.dec (Lg.alt (It.slg [It.ch 0 []]) (It.alg [])) [0] = true := Lg.dec_true (.inl ⟨[0], [], rfl, rfl, rfl⟩)
  rw [e] at h
  exact h

end WWords

end Go.Proofs.Ythhkionhimbekaa
