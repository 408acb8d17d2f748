/-
  Rows of bools.
-/
import Derived.Test.YthhkionhimbekaaReach
import Derived.Test.YthhkionhimbekaaBase
set_option linter.unusedVariables false
set_option linter.unusedSimpArgs false
set_option maxRecDepth 100000
namespace Go.Proofs.Ythhkionhimbekaa
open Go.Vl

namespace WMatch1
theorem ty4 : Ty Try.prog 4 1 1 (.bool false) := Ty.of (by kernel_rfl)
theorem ag4 : IsAgg Try.prog 4 false := ⟨_, Try.underlying4, rfl⟩
theorem ni56 : NotInt Try.prog 56 := .inl ⟨_, Try.underlying56⟩
theorem c_either (n : Nat) (f g : Nat → Bool) (hn : n ≤ 16777216) : FnP Try.prog 35 [.sl 1 (rowB n f), .sl 1 (rowB n g)] (.sl 1 (rowB n (fun j => f j || g j))) :=  by
  refine FnC.mk Try.func35 (by kernel_rfl) rfl Try.ntmps35 rfl (fun w0 F => ?_)
  refine W.seq ?_
  refine W.region ?_
  refine W.q (Ev.assign .k) rfl ?_
  refine W.nil ?_
  refine W.then ?_
  refine W.seq ?_
  refine W.region ?_
  refine W.q (Ev.move (.t rfl)) rfl ?_
  first | refine W.q (Ev.lensl (.t rfl) Try.underlying56) rfl ?_ | refine W.q (Ev.lenar (i := 0) (.t rfl) rfl Try.underlying56) rfl ?_ | refine W.q (Ev.lenar (i := 1) (.t rfl) rfl Try.underlying56) rfl ?_ | refine W.q (Ev.lenar (i := 2) (.t rfl) rfl Try.underlying56) rfl ?_ | refine W.q (Ev.lenar (i := 3) (.t rfl) rfl Try.underlying56) rfl ?_
  refine W.is (t := 8) (g := true) (av' := .int (n : Int)) rfl (congrArg AV.int (by rw [rowB_len])) ?_
  refine W.mk (.t rfl) (.t rfl) Try.underlying56 ty4 rfl rfl rfl rfl rfl (by omega) rfl ?_
  intro v9
  refine W.q (Ev.assign (.t rfl)) rfl ?_
  refine W.nil ?_
  refine W.then ?_
  refine W.seq ?_
  refine W.seq ?_
  refine W.region ?_
  refine W.q (Ev.move (.t rfl)) rfl ?_
  first | refine W.q (Ev.lensl (.t rfl) Try.underlying56) rfl ?_ | refine W.q (Ev.lenar (i := 0) (.t rfl) rfl Try.underlying56) rfl ?_ | refine W.q (Ev.lenar (i := 1) (.t rfl) rfl Try.underlying56) rfl ?_ | refine W.q (Ev.lenar (i := 2) (.t rfl) rfl Try.underlying56) rfl ?_ | refine W.q (Ev.lenar (i := 3) (.t rfl) rfl Try.underlying56) rfl ?_
  refine W.q (Ev.move .k) rfl ?_
  refine W.nil ?_
  refine W.is (t := 11) (g := true) (av' := .int (n : Int)) rfl (congrArg AV.int (by rw [rowB_len])) ?_
  refine W.then ?_
  refine W.block ?_
  refine W.loop (D := []) (ι := Nat) (fun i => [(12, true, .int (i : Int)), (11, true, .int (n : Int)), (5, true, .lit v9), (0, true, .sl 1 (rowB n f)), (1, true, .sl 1 (rowB n g))]) (fun i => [.arr v9 4 1 (rowB n (fun j => if j < i then (f j || g j) else false))]) (fun i => i ≤ n) (fun i => n - i) 0 ⟨rfl, rfl, rfl, rfl, rfl, trivial⟩ (by rw [← row_or0]; exact .refl _) (Nat.zero_le _) ?_
  intro i hi
  dsimp only at hi ⊢
  rcases (show i < n ∨ i = n from by omega) with hlt | hend
  · have hgf := rowB_at n f i hlt
    have hgg := rowB_at n g i hlt
    refine W.seq ?_
    refine W.region ?_
    refine W.q (Ev.lti (.t rfl) (.t rfl)) rfl ?_
    refine W.nil ?_
    refine W.then ?_
    refine W.seq ?_
    refine W.is (t := 13) (g := true) (av' := .lit (.bool true)) rfl (congrArg (fun b => AV.lit (.bool b)) (by exact decide_eq_true (by omega))) ?_
    refine W.condT (.t rfl) ?_
    refine W.skip ?_
    refine W.then ?_
    refine W.seq ?_
    refine W.block ?_
    refine W.seq ?_
    refine W.region ?_
    refine W.q (Ev.move (.t rfl)) rfl ?_
    refine W.q (Ev.assign (.t rfl)) rfl ?_
    refine W.nil ?_
    refine W.then ?_
    refine W.region ?_
    refine W.q (Ev.move (.t rfl)) rfl ?_
    refine W.q (Ev.move (.t rfl)) rfl ?_
    refine W.q (Ev.move (.t rfl)) rfl ?_
    refine W.q (Ev.move (.t rfl)) rfl ?_
    refine W.q (Ev.at (E := 4) (.t rfl) (.t rfl) Try.underlying56 ty4 (fun _ => ⟨by omega, hgf⟩) rfl rfl) rfl ?_
    first | refine W.q (Ev.lde1 (.t rfl) ag4) rfl ?_ | refine W.q (Ev.ldb1 0 (.t rfl) rfl ag4 rfl) rfl ?_ | refine W.q (Ev.ldb1 1 (.t rfl) rfl ag4 rfl) rfl ?_ | refine W.q (Ev.ldb1 2 (.t rfl) rfl ag4 rfl) rfl ?_ | refine W.q (Ev.ldb1 3 (.t rfl) rfl ag4 rfl) rfl ?_
    refine W.q (Ev.move (.t rfl)) rfl ?_
    refine W.qgF rfl rfl (Ev.move (.t rfl)) rfl ?_
    refine W.qgF rfl rfl (Ev.move (.t rfl)) rfl ?_
    refine W.qgF rfl rfl (Ev.at (E := 4) (.c rfl) (.c rfl) Try.underlying56 ty4 (fun _ => ⟨by omega, hgg⟩) rfl rfl) rfl ?_
    first | refine W.qgF rfl rfl (Ev.lde1 (.c rfl) ag4) rfl ?_ | refine W.qgF rfl rfl (Ev.ldb1 0 (.c rfl) rfl ag4 rfl) rfl ?_ | refine W.qgF rfl rfl (Ev.ldb1 1 (.c rfl) rfl ag4 rfl) rfl ?_ | refine W.qgF rfl rfl (Ev.ldb1 2 (.c rfl) rfl ag4 rfl) rfl ?_ | refine W.qgF rfl rfl (Ev.ldb1 3 (.c rfl) rfl ag4 rfl) rfl ?_
    refine W.q (Ev.or (.t rfl) ⟨_, _, rfl, rfl, by first | (simp; done) | (intro hg_ hp_; simp [hp_]; done) | (simp <;> omega; done) | (simp_all; done) | grind⟩) rfl ?_
    refine W.q (Ev.ata 0 (.t rfl) rfl (.t rfl) Try.underlying56 ty4 (fun _ => by rw [rowB_len]; omega)) rfl ?_
    refine W.sta 0 i 0 (e := .bool ((fun j => if j < i then (f j || g j) else false) i)) (e' := .bool (f i || g i)) (.t rfl) (.t rfl) rfl (rowB_at _ _ i hlt) (by omega) ty4 rfl rfl rfl rfl rfl rfl rfl ?_
    refine W.nil ?_
    refine W.blk_normal ?_
    refine W.then ?_
    refine W.region ?_
    first | refine W.q (Ev.add (.t rfl) .k (fun _ => by omega)) rfl ?_ | refine W.q (Ev.addw (.t rfl) .k) rfl ?_
    refine W.q (Ev.move (.t rfl)) rfl ?_
    refine W.nil ?_
    refine W.then ?_
    refine W.reach (D := []) (i + 1) ⟨rfl, rfl, rfl, rfl, rfl, trivial⟩ (by rw [← row_or]; exact .refl _) ⟨by show i + 1 ≤ _; omega, by show _ - (i + 1) < _; omega⟩
  · rw [hend, row_orn]
    refine W.seq ?_
    refine W.region ?_
    refine W.q (Ev.lti (.t rfl) (.t rfl)) rfl ?_
    refine W.nil ?_
    refine W.then ?_
    refine W.seq ?_
    refine W.is (t := 13) (g := true) (av' := .lit (.bool false)) rfl (congrArg (fun b => AV.lit (.bool b)) (by exact decide_eq_false (by omega))) ?_
    refine W.condF (.t rfl) ?_
    refine W.exit ?_
    refine W.then_exit ?_
    refine W.then_exit ?_
    refine W.blk_hit ?_
    refine W.then ?_
    refine W.seq ?_
    refine W.region ?_
    refine W.q (Ev.move (.t rfl)) rfl ?_
    refine W.q (Ev.assign (.t rfl)) rfl ?_
    refine W.nil ?_
    refine W.then ?_
    refine W.ret ?_
    refine W.freezeA (M1 := []) (M2 := []) (D := []) (v := v9) (L' := [(4, true, .sl 1 (rowB n (fun j => f j || g j)))]) (.refl _) ⟨⟨_, rfl, .one .hit⟩, trivial⟩ (FrzMs.refl _) ?_
    refine W.retn (M' := []) (D := _) (rs := [.tmp 4]) (avs := [_]) Try.results35 ⟨rfl, trivial⟩ rfl (.refl _) ?_
    exact ⟨rfl, rfl⟩

theorem c_EqualB (n : Nat) (f g : Nat → Bool) (hn : n ≤ 16777216) : FnC Try.prog 36 [.sl 1 (rowB n f), .sl 1 (rowB n g)] [] (fun r M => M = [] ∧ ∃ q : Bool, r = .bool q ∧ (q = true ↔ ∀ j, j < n → f j = g j)) :=  by
  refine FnC.mk Try.func36 (by kernel_rfl) rfl Try.ntmps36 rfl (fun w0 F => ?_)
  refine W.seq ?_
  refine W.region ?_
  refine W.q (Ev.assign .k) rfl ?_
  refine W.nil ?_
  refine W.then ?_
  refine W.seq ?_
  refine W.seq ?_
  refine W.region ?_
  refine W.q (Ev.move (.t rfl)) rfl ?_
  first | refine W.q (Ev.lensl (.t rfl) Try.underlying56) rfl ?_ | refine W.q (Ev.lenar (i := 0) (.t rfl) rfl Try.underlying56) rfl ?_ | refine W.q (Ev.lenar (i := 1) (.t rfl) rfl Try.underlying56) rfl ?_ | refine W.q (Ev.lenar (i := 2) (.t rfl) rfl Try.underlying56) rfl ?_ | refine W.q (Ev.lenar (i := 3) (.t rfl) rfl Try.underlying56) rfl ?_
  refine W.q (Ev.move (.t rfl)) rfl ?_
  first | refine W.q (Ev.lensl (.t rfl) Try.underlying56) rfl ?_ | refine W.q (Ev.lenar (i := 0) (.t rfl) rfl Try.underlying56) rfl ?_ | refine W.q (Ev.lenar (i := 1) (.t rfl) rfl Try.underlying56) rfl ?_ | refine W.q (Ev.lenar (i := 2) (.t rfl) rfl Try.underlying56) rfl ?_ | refine W.q (Ev.lenar (i := 3) (.t rfl) rfl Try.underlying56) rfl ?_
  refine W.q (Ev.nei (.t rfl) (.t rfl)) rfl ?_
  refine W.nil ?_
  refine W.then ?_
  refine W.is (t := 10) (g := true) (av' := .lit (.bool false)) rfl (congrArg (fun b => AV.lit (.bool b)) (by rw [rowB_len, rowB_len]; simp)) ?_
  refine W.condF (.t rfl) ?_
  refine W.skip ?_
  refine W.then ?_
  refine W.seq ?_
  refine W.seq ?_
  refine W.region ?_
  refine W.q (Ev.move (.t rfl)) rfl ?_
  first | refine W.q (Ev.lensl (.t rfl) Try.underlying56) rfl ?_ | refine W.q (Ev.lenar (i := 0) (.t rfl) rfl Try.underlying56) rfl ?_ | refine W.q (Ev.lenar (i := 1) (.t rfl) rfl Try.underlying56) rfl ?_ | refine W.q (Ev.lenar (i := 2) (.t rfl) rfl Try.underlying56) rfl ?_ | refine W.q (Ev.lenar (i := 3) (.t rfl) rfl Try.underlying56) rfl ?_
  refine W.q (Ev.move .k) rfl ?_
  refine W.nil ?_
  refine W.is (t := 12) (g := true) (av' := .int (n : Int)) rfl (congrArg AV.int (by rw [rowB_len])) ?_
  refine W.then ?_
  refine W.block ?_
  refine W.loop (D := []) (ι := Nat) (fun i => [(13, true, .int (i : Int)), (12, true, .int (n : Int)), (0, true, .sl 1 (rowB n f)), (1, true, .sl 1 (rowB n g))]) (fun i => []) (fun i => i ≤ n ∧ ∀ j, j < i → f j = g j) (fun i => n - i) 0 ⟨rfl, rfl, rfl, rfl, trivial⟩ (.refl _) ⟨Nat.zero_le _, fun j hj => absurd hj (Nat.not_lt_zero _)⟩ ?_
  rintro i ⟨hi, hall⟩
  dsimp only at hi hall ⊢
  rcases (show i < n ∨ i = n from by omega) with hlt | hend
  · have hgf := rowB_at n f i hlt
    have hgg := rowB_at n g i hlt
    refine W.seq ?_
    refine W.region ?_
    refine W.q (Ev.lti (.t rfl) (.t rfl)) rfl ?_
    refine W.nil ?_
    refine W.then ?_
    refine W.seq ?_
    refine W.is (t := 14) (g := true) (av' := .lit (.bool true)) rfl (congrArg (fun b => AV.lit (.bool b)) (by exact decide_eq_true (by omega))) ?_
    refine W.condT (.t rfl) ?_
    refine W.skip ?_
    refine W.then ?_
    refine W.seq ?_
    refine W.block ?_
    refine W.seq ?_
    refine W.region ?_
    refine W.q (Ev.move (.t rfl)) rfl ?_
    refine W.q (Ev.assign (.t rfl)) rfl ?_
    refine W.nil ?_
    refine W.then ?_
    refine W.seq ?_
    refine W.drawn (by kernel_rfl) (by kernel_rfl) ?_
    refine DP.q (Ev.move (.t rfl)) rfl ?_
    refine DP.q (Ev.move (.t rfl)) rfl ?_
    refine DP.q (Ev.at (E := 4) (.t rfl) (.t rfl) Try.underlying56 ty4 (fun _ => ⟨by omega, hgf⟩) rfl rfl) rfl ?_
    first | refine DP.q (Ev.lde1 (.t rfl) ag4) rfl ?_ | refine DP.q (Ev.ldb1 0 (.t rfl) rfl ag4 rfl) rfl ?_ | refine DP.q (Ev.ldb1 1 (.t rfl) rfl ag4 rfl) rfl ?_ | refine DP.q (Ev.ldb1 2 (.t rfl) rfl ag4 rfl) rfl ?_ | refine DP.q (Ev.ldb1 3 (.t rfl) rfl ag4 rfl) rfl ?_
    refine DP.q (Ev.move (.t rfl)) rfl ?_
    refine DP.q (Ev.move (.t rfl)) rfl ?_
    refine DP.q (Ev.at (E := 4) (.t rfl) (.t rfl) Try.underlying56 ty4 (fun _ => ⟨by omega, hgg⟩) rfl rfl) rfl ?_
    first | refine DP.q (Ev.lde1 (.t rfl) ag4) rfl ?_ | refine DP.q (Ev.ldb1 0 (.t rfl) rfl ag4 rfl) rfl ?_ | refine DP.q (Ev.ldb1 1 (.t rfl) rfl ag4 rfl) rfl ?_ | refine DP.q (Ev.ldb1 2 (.t rfl) rfl ag4 rfl) rfl ?_ | refine DP.q (Ev.ldb1 3 (.t rfl) rfl ag4 rfl) rfl ?_
    refine DP.q (Ev.neb (.t rfl) (.t rfl) Try.underlying4) rfl ?_
    refine DP.nil ?_
    refine W.then ?_
    refine W.cond (.t rfl) (fun hc_t24 => ?_) (fun hc_t24 => ?_)
    · have hfg : f i ≠ g i := by intro h; rw [h] at hc_t24; simp at hc_t24
      refine W.seq ?_
      refine W.region ?_
      refine W.q (Ev.assign .k) rfl ?_
      refine W.nil ?_
      refine W.then ?_
      refine W.ret ?_
      refine W.blk_ret ?_
      refine W.then_ret ?_
      refine W.then_ret ?_
      refine W.blk_ret ?_
      refine W.then_ret ?_
      refine W.retn (M' := []) (rs := [.tmp 4]) (avs := [_]) Try.results36 ⟨rfl, trivial⟩ rfl (.refl _) ?_
      first | exact ⟨rfl, _, rfl, ⟨fun h => absurd h (by decide), fun h => absurd (h i hlt) hfg⟩⟩ | exact ⟨rfl, _, rfl, ⟨fun _ => hall, fun _ => rfl⟩⟩
    · have hfg : f i = g i := by simpa using hc_t24
      refine W.skip ?_
      refine W.blk_normal ?_
      refine W.then ?_
      refine W.region ?_
      first | refine W.q (Ev.add (.t rfl) .k (fun _ => by omega)) rfl ?_ | refine W.q (Ev.addw (.t rfl) .k) rfl ?_
      refine W.q (Ev.move (.t rfl)) rfl ?_
      refine W.nil ?_
      refine W.then ?_
      refine W.reach (D := []) (i + 1) ⟨rfl, rfl, rfl, rfl, trivial⟩ (.refl _) ⟨⟨by show i + 1 ≤ _; omega, fun j hj => (Nat.lt_or_ge j i).elim (hall j) (fun h => by rw [show j = i from by omega]; exact hfg)⟩, by show _ - (i + 1) < _; omega⟩
  · subst hend
    refine W.seq ?_
    refine W.region ?_
    refine W.q (Ev.lti (.t rfl) (.t rfl)) rfl ?_
    refine W.nil ?_
    refine W.then ?_
    refine W.seq ?_
    refine W.is (t := 14) (g := true) (av' := .lit (.bool false)) rfl (congrArg (fun b => AV.lit (.bool b)) (by exact decide_eq_false (by omega))) ?_
    refine W.condF (.t rfl) ?_
    refine W.exit ?_
    refine W.then_exit ?_
    refine W.then_exit ?_
    refine W.blk_hit ?_
    refine W.then ?_
    refine W.seq ?_
    refine W.region ?_
    refine W.q (Ev.assign .k) rfl ?_
    refine W.nil ?_
    refine W.then ?_
    refine W.ret ?_
    refine W.retn (M' := []) (rs := [.tmp 4]) (avs := [_]) Try.results36 ⟨rfl, trivial⟩ rfl (.refl _) ?_
    first | exact ⟨rfl, _, rfl, ⟨fun h => absurd h (by decide), fun h => absurd (h i hlt) hfg⟩⟩ | exact ⟨rfl, _, rfl, ⟨fun _ => hall, fun _ => rfl⟩⟩

theorem c_CloneB (es : List AV) (ho : ∀ e ∈ es, e.okc = true) (hl : es.length ≤ 1099511627776) : FnC Try.prog 34 [.sl 1 es] [] (fun r M => ∃ v, r = .lit v ∧ M = [.arr v 4 1 es]) :=  by
  refine FnC.mk Try.func34 (by kernel_rfl) rfl Try.ntmps34 rfl (fun w0 F => ?_)
  refine W.seq ?_
  refine W.region ?_
  refine W.q (Ev.assign .k) rfl ?_
  refine W.nil ?_
  refine W.then ?_
  refine W.seq ?_
  refine W.seq ?_
  refine W.region ?_
  refine W.q (Ev.move (.t rfl)) rfl ?_
  refine W.slnil (.t rfl) Try.underlying56 rfl (fun q hq => ?_)
  refine W.nil ?_
  refine W.then ?_
  refine W.cond (.t rfl) (fun hc_t4 => ?_) (fun hc_t4 => ?_)
  · refine W.seq ?_
    refine W.region ?_
    refine W.q (Ev.assign .k) rfl ?_
    refine W.nil ?_
    refine W.own_nil 4 1 ?_
    refine W.then ?_
    refine W.ret ?_
    refine W.then_ret ?_
    refine W.retn (M' := [.arr _ 4 1 _]) (rs := [.tmp 2]) (avs := [_]) Try.results34 ⟨rfl, trivial⟩ rfl (.refl _) ?_
    first | exact ⟨_, rfl, by rw [hq hc_t4]⟩ | exact ⟨_, rfl, rfl⟩
  · refine W.skip ?_
    refine W.then ?_
    refine W.seq ?_
    refine W.region ?_
    refine W.bso (es := []) Try.underlying56 ty4 trivial rfl (by decide) rfl rfl ?_
    intro v5
    refine W.q (Ev.move (.t rfl)) rfl ?_
    first | refine W.app 0 (.t rfl) rfl (.sl (.t rfl) (ho)) Try.underlying56 ni56 ty4 rfl rfl (by simp; omega) rfl ?_ | refine W.app 1 (.t rfl) rfl (.sl (.t rfl) (ho)) Try.underlying56 ni56 ty4 rfl rfl (by simp; omega) rfl ?_ | refine W.app 2 (.t rfl) rfl (.sl (.t rfl) (ho)) Try.underlying56 ni56 ty4 rfl rfl (by simp; omega) rfl ?_ | refine W.app 3 (.t rfl) rfl (.sl (.t rfl) (ho)) Try.underlying56 ni56 ty4 rfl rfl (by simp; omega) rfl ?_ | refine W.app 0 (.t rfl) rfl (.arr 0 (.t rfl) rfl (ho)) Try.underlying56 ni56 ty4 rfl rfl (by simp; omega) rfl ?_ | refine W.app 0 (.t rfl) rfl (.arr 1 (.t rfl) rfl (ho)) Try.underlying56 ni56 ty4 rfl rfl (by simp; omega) rfl ?_ | refine W.app 0 (.t rfl) rfl (.arr 2 (.t rfl) rfl (ho)) Try.underlying56 ni56 ty4 rfl rfl (by simp; omega) rfl ?_ | refine W.app 0 (.t rfl) rfl (.arr 3 (.t rfl) rfl (ho)) Try.underlying56 ni56 ty4 rfl rfl (by simp; omega) rfl ?_ | refine W.app 1 (.t rfl) rfl (.arr 0 (.t rfl) rfl (ho)) Try.underlying56 ni56 ty4 rfl rfl (by simp; omega) rfl ?_ | refine W.app 1 (.t rfl) rfl (.arr 1 (.t rfl) rfl (ho)) Try.underlying56 ni56 ty4 rfl rfl (by simp; omega) rfl ?_ | refine W.app 1 (.t rfl) rfl (.arr 2 (.t rfl) rfl (ho)) Try.underlying56 ni56 ty4 rfl rfl (by simp; omega) rfl ?_ | refine W.app 1 (.t rfl) rfl (.arr 3 (.t rfl) rfl (ho)) Try.underlying56 ni56 ty4 rfl rfl (by simp; omega) rfl ?_ | refine W.app 2 (.t rfl) rfl (.arr 0 (.t rfl) rfl (ho)) Try.underlying56 ni56 ty4 rfl rfl (by simp; omega) rfl ?_ | refine W.app 2 (.t rfl) rfl (.arr 1 (.t rfl) rfl (ho)) Try.underlying56 ni56 ty4 rfl rfl (by simp; omega) rfl ?_ | refine W.app 2 (.t rfl) rfl (.arr 2 (.t rfl) rfl (ho)) Try.underlying56 ni56 ty4 rfl rfl (by simp; omega) rfl ?_ | refine W.app 2 (.t rfl) rfl (.arr 3 (.t rfl) rfl (ho)) Try.underlying56 ni56 ty4 rfl rfl (by simp; omega) rfl ?_ | refine W.app 3 (.t rfl) rfl (.arr 0 (.t rfl) rfl (ho)) Try.underlying56 ni56 ty4 rfl rfl (by simp; omega) rfl ?_ | refine W.app 3 (.t rfl) rfl (.arr 1 (.t rfl) rfl (ho)) Try.underlying56 ni56 ty4 rfl rfl (by simp; omega) rfl ?_ | refine W.app 3 (.t rfl) rfl (.arr 2 (.t rfl) rfl (ho)) Try.underlying56 ni56 ty4 rfl rfl (by simp; omega) rfl ?_ | refine W.app 3 (.t rfl) rfl (.arr 3 (.t rfl) rfl (ho)) Try.underlying56 ni56 ty4 rfl rfl (by simp; omega) rfl ?_
    intro v7
    refine W.q (Ev.assign (.t rfl)) rfl ?_
    refine W.nil ?_
    refine W.then ?_
    refine W.ret ?_
    refine W.retn (M' := [.arr _ 4 1 _]) (rs := [.tmp 2]) (avs := [_]) Try.results34 ⟨rfl, trivial⟩ rfl (.refl _) ?_
    first | exact ⟨_, rfl, by rw [hq hc_t4]⟩ | exact ⟨_, rfl, rfl⟩

end WMatch1

end Go.Proofs.Ythhkionhimbekaa
