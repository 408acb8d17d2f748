/-
  Merged: WPut2 WIndex WAny WIxAny.
-/
import Derived.Test.YtohncieijjhnjaaDoorG4

section
set_option linter.unusedVariables false
set_option linter.unusedSimpArgs false
set_option maxRecDepth 100000
namespace Go.Proofs.YtohncieijjhnjaaDoor
open Go.Vl

namespace WPut2
theorem ty5 : Ty Tryd.prog 5 1 1 (.int .u8 0) := Ty.of (by kernel_rfl)
theorem ty46 : Ty Tryd.prog 46 1 24 (.slice none 0 0) := Ty.of (by kernel_rfl)
theorem ag46 : IsAgg Tryd.prog 46 false := ⟨_, Tryd.underlying46, rfl⟩
theorem fa48_1 : FieldAt Tryd.prog 48 1 1 1 false := ⟨_, _, Tryd.underlying48, rfl, rfl, ty46.size, ag46, by decide⟩
theorem ni46 : NotInt Tryd.prog 46 := .inl ⟨_, Tryd.underlying46⟩
theorem c_ValidRune (r : Int) : FnP Tryd.prog 58 [.lit (.int .i32 r)] (.bool (Utf8.valid r)) :=  by
  refine FnC.mk Tryd.func58 (by kernel_rfl) rfl Tryd.ntmps58 rfl (fun w0 F => ?_)
  refine W.seq ?_
  refine W.region ?_
  refine W.q (Ev.assign .k) rfl ?_
  refine W.nil ?_
  refine W.then ?_
  refine W.seq ?_
  refine W.block ?_
  refine W.seq ?_
  refine W.region ?_
  refine W.q (Ev.move (.t rfl)) rfl ?_
  refine W.q (Ev.lei .k (.t rfl)) rfl ?_
  refine W.q (Ev.move (.t rfl)) rfl ?_
  refine W.qgT rfl rfl (Ev.move (.t rfl)) rfl ?_
  refine W.qgT rfl rfl (Ev.lti (.c rfl) .k) rfl ?_
  refine W.q (Ev.and (.t rfl) ⟨_, _, rfl, rfl, by first | (simp; done) | (intro hg_ hp_; simp [hp_]; done) | (simp <;> omega; done) | (simp_all; done) | grind⟩) rfl ?_
  refine W.q (Ev.assign (.t rfl)) rfl ?_
  refine W.nil ?_
  refine W.then ?_
  refine W.cond (.t rfl) (fun hc_t3 => ?_) (fun hc_t3 => ?_)
  · simp at hc_t3
    refine W.seq ?_
    refine W.region ?_
    refine W.q (Ev.assign .k) rfl ?_
    refine W.nil ?_
    refine W.then ?_
    refine W.ret ?_
    refine W.blk_ret ?_
    refine W.then_ret ?_
    refine W.retn (M' := []) (rs := [.tmp 2]) (avs := [_]) Tryd.results58 ⟨rfl, trivial⟩ rfl (.refl _) ?_
    exact ⟨congrArg AV.bool (by simp [Utf8.valid]; omega), rfl⟩
  · simp at hc_t3
    refine W.seq ?_
    refine W.region ?_
    refine W.q (Ev.move (.t rfl)) rfl ?_
    refine W.q (Ev.lti .k (.t rfl)) rfl ?_
    refine W.q (Ev.move (.t rfl)) rfl ?_
    refine W.qgT rfl rfl (Ev.move (.t rfl)) rfl ?_
    refine W.qgT rfl rfl (Ev.lei (.c rfl) .k) rfl ?_
    refine W.q (Ev.and (.t rfl) ⟨_, _, rfl, rfl, by first | (simp; done) | (intro hg_ hp_; simp [hp_]; done) | (simp <;> omega; done) | (simp_all; done) | grind⟩) rfl ?_
    refine W.q (Ev.assign (.t rfl)) rfl ?_
    refine W.nil ?_
    refine W.then ?_
    refine W.cond (.t rfl) (fun hc_t10 => ?_) (fun hc_t10 => ?_)
    · simp at hc_t10
      refine W.seq ?_
      refine W.region ?_
      refine W.q (Ev.assign .k) rfl ?_
      refine W.nil ?_
      refine W.then ?_
      refine W.ret ?_
      refine W.blk_ret ?_
      refine W.then_ret ?_
      refine W.retn (M' := []) (rs := [.tmp 2]) (avs := [_]) Tryd.results58 ⟨rfl, trivial⟩ rfl (.refl _) ?_
      exact ⟨congrArg AV.bool (by simp [Utf8.valid]; omega), rfl⟩
    · simp at hc_t10
      refine W.skip ?_
      refine W.blk_normal ?_
      refine W.then ?_
      refine W.seq ?_
      refine W.region ?_
      refine W.q (Ev.assign .k) rfl ?_
      refine W.nil ?_
      refine W.then ?_
      refine W.ret ?_
      refine W.retn (M' := []) (rs := [.tmp 2]) (avs := [_]) Tryd.results58 ⟨rfl, trivial⟩ rfl (.refl _) ?_
      exact ⟨congrArg AV.bool (by simp [Utf8.valid]; omega), rfl⟩

theorem c_appendNA (v : Value) (l : List UInt8) (r : Int) (hl : l.length ≤ 17592186044416) (hr0 : ¬ (0 ≤ r ∧ r ≤ 127)) (hr : -2147483648 ≤ r ∧ r ≤ 2147483647) : FnC Tryd.prog 59 [.lit v, .lit (.int .i32 r)] [.arr v 5 1 (l.map AV.u8)] (fun r' M' => ∃ v', r' = .lit v' ∧ M' = [.arr v' 5 1 ((l ++ enc r).map AV.u8)]) :=  by
  refine FnC.mk Tryd.func59 (by kernel_rfl) rfl Tryd.ntmps59 rfl (fun w0 F => ?_)
  have hna : ¬ (0 ≤ r ∧ r ≤ 127) := hr0
  have hw : IntKind.u32.wrap r = r % 4294967296 := by rw [IntKind.wrap_u32]
  refine W.seq ?_
  refine W.region ?_
  refine W.q (Ev.assign .k) rfl ?_
  refine W.nil ?_
  refine W.then ?_
  refine W.seq ?_
  refine W.region ?_
  refine W.q (Ev.move (.t rfl)) rfl ?_
  refine W.q (Ev.conv (.t rfl) ⟨_, Tryd.underlying21⟩ Tryd.underlying69) rfl ?_
  refine W.q (Ev.assign (.t rfl)) rfl ?_
  refine W.nil ?_
  refine W.then ?_
  refine W.block ?_
  refine W.seq ?_
  refine W.region ?_
  refine W.q (Ev.move (.t rfl)) rfl ?_
  refine W.q (Ev.lei (.t rfl) .k) rfl ?_
  refine W.q (Ev.assign (.t rfl)) rfl ?_
  refine W.nil ?_
  refine W.then ?_
  refine W.cond (.t rfl) (fun hc_t11 => ?_) (fun hc_t11 => ?_)
  · simp only [Bool.and_eq_true, decide_eq_true_eq, hw] at hc_t11
    refine W.seq ?_
    refine W.region ?_
    refine W.q (Ev.move (.t rfl)) rfl ?_
    refine W.q (Ev.move (.t rfl)) rfl ?_
    refine W.q (Ev.shr (c := 6) (.t rfl) .k (by decide) (by decide)) rfl ?_
    refine W.q (Ev.conv (.t rfl) ⟨_, Tryd.underlying21⟩ Tryd.underlying5) rfl ?_
    refine W.q (Ev.bor .k (.t rfl)) rfl ?_
    refine W.q (Ev.move (.t rfl)) rfl ?_
    refine W.q (Ev.conv (.t rfl) ⟨_, Tryd.underlying21⟩ Tryd.underlying5) rfl ?_
    refine W.q (Ev.band (.t rfl) .k) rfl ?_
    refine W.q (Ev.bor .k (.t rfl)) rfl ?_
    refine W.bs (es := [_, _]) Tryd.underlying46 ty5 ⟨rfl, (.t rfl), rfl, rfl, rfl, (.t rfl), rfl, rfl, trivial⟩ rfl (by decide) rfl rfl ?_
    first | refine W.app 0 (.t rfl) rfl (.sl (.t rfl) (by first | (simp [AV.okc, shV]; done) | (intro e he; rw [List.mem_singleton.1 he]; rfl))) Tryd.underlying46 ni46 ty5 rfl rfl (by first | (simp; done) | (simp; omega)) rfl ?_ | refine W.app 1 (.t rfl) rfl (.sl (.t rfl) (by first | (simp [AV.okc, shV]; done) | (intro e he; rw [List.mem_singleton.1 he]; rfl))) Tryd.underlying46 ni46 ty5 rfl rfl (by first | (simp; done) | (simp; omega)) rfl ?_ | refine W.app 2 (.t rfl) rfl (.sl (.t rfl) (by first | (simp [AV.okc, shV]; done) | (intro e he; rw [List.mem_singleton.1 he]; rfl))) Tryd.underlying46 ni46 ty5 rfl rfl (by first | (simp; done) | (simp; omega)) rfl ?_ | refine W.app 3 (.t rfl) rfl (.sl (.t rfl) (by first | (simp [AV.okc, shV]; done) | (intro e he; rw [List.mem_singleton.1 he]; rfl))) Tryd.underlying46 ni46 ty5 rfl rfl (by first | (simp; done) | (simp; omega)) rfl ?_ | refine W.app 0 (.t rfl) rfl (.arr 0 (.t rfl) rfl (by first | (simp [AV.okc, shV]; done) | (intro e he; rw [List.mem_singleton.1 he]; rfl))) Tryd.underlying46 ni46 ty5 rfl rfl (by first | (simp; done) | (simp; omega)) rfl ?_ | refine W.app 0 (.t rfl) rfl (.arr 1 (.t rfl) rfl (by first | (simp [AV.okc, shV]; done) | (intro e he; rw [List.mem_singleton.1 he]; rfl))) Tryd.underlying46 ni46 ty5 rfl rfl (by first | (simp; done) | (simp; omega)) rfl ?_ | refine W.app 0 (.t rfl) rfl (.arr 2 (.t rfl) rfl (by first | (simp [AV.okc, shV]; done) | (intro e he; rw [List.mem_singleton.1 he]; rfl))) Tryd.underlying46 ni46 ty5 rfl rfl (by first | (simp; done) | (simp; omega)) rfl ?_ | refine W.app 0 (.t rfl) rfl (.arr 3 (.t rfl) rfl (by first | (simp [AV.okc, shV]; done) | (intro e he; rw [List.mem_singleton.1 he]; rfl))) Tryd.underlying46 ni46 ty5 rfl rfl (by first | (simp; done) | (simp; omega)) rfl ?_ | refine W.app 1 (.t rfl) rfl (.arr 0 (.t rfl) rfl (by first | (simp [AV.okc, shV]; done) | (intro e he; rw [List.mem_singleton.1 he]; rfl))) Tryd.underlying46 ni46 ty5 rfl rfl (by first | (simp; done) | (simp; omega)) rfl ?_ | refine W.app 1 (.t rfl) rfl (.arr 1 (.t rfl) rfl (by first | (simp [AV.okc, shV]; done) | (intro e he; rw [List.mem_singleton.1 he]; rfl))) Tryd.underlying46 ni46 ty5 rfl rfl (by first | (simp; done) | (simp; omega)) rfl ?_ | refine W.app 1 (.t rfl) rfl (.arr 2 (.t rfl) rfl (by first | (simp [AV.okc, shV]; done) | (intro e he; rw [List.mem_singleton.1 he]; rfl))) Tryd.underlying46 ni46 ty5 rfl rfl (by first | (simp; done) | (simp; omega)) rfl ?_ | refine W.app 1 (.t rfl) rfl (.arr 3 (.t rfl) rfl (by first | (simp [AV.okc, shV]; done) | (intro e he; rw [List.mem_singleton.1 he]; rfl))) Tryd.underlying46 ni46 ty5 rfl rfl (by first | (simp; done) | (simp; omega)) rfl ?_ | refine W.app 2 (.t rfl) rfl (.arr 0 (.t rfl) rfl (by first | (simp [AV.okc, shV]; done) | (intro e he; rw [List.mem_singleton.1 he]; rfl))) Tryd.underlying46 ni46 ty5 rfl rfl (by first | (simp; done) | (simp; omega)) rfl ?_ | refine W.app 2 (.t rfl) rfl (.arr 1 (.t rfl) rfl (by first | (simp [AV.okc, shV]; done) | (intro e he; rw [List.mem_singleton.1 he]; rfl))) Tryd.underlying46 ni46 ty5 rfl rfl (by first | (simp; done) | (simp; omega)) rfl ?_ | refine W.app 2 (.t rfl) rfl (.arr 2 (.t rfl) rfl (by first | (simp [AV.okc, shV]; done) | (intro e he; rw [List.mem_singleton.1 he]; rfl))) Tryd.underlying46 ni46 ty5 rfl rfl (by first | (simp; done) | (simp; omega)) rfl ?_ | refine W.app 2 (.t rfl) rfl (.arr 3 (.t rfl) rfl (by first | (simp [AV.okc, shV]; done) | (intro e he; rw [List.mem_singleton.1 he]; rfl))) Tryd.underlying46 ni46 ty5 rfl rfl (by first | (simp; done) | (simp; omega)) rfl ?_ | refine W.app 3 (.t rfl) rfl (.arr 0 (.t rfl) rfl (by first | (simp [AV.okc, shV]; done) | (intro e he; rw [List.mem_singleton.1 he]; rfl))) Tryd.underlying46 ni46 ty5 rfl rfl (by first | (simp; done) | (simp; omega)) rfl ?_ | refine W.app 3 (.t rfl) rfl (.arr 1 (.t rfl) rfl (by first | (simp [AV.okc, shV]; done) | (intro e he; rw [List.mem_singleton.1 he]; rfl))) Tryd.underlying46 ni46 ty5 rfl rfl (by first | (simp; done) | (simp; omega)) rfl ?_ | refine W.app 3 (.t rfl) rfl (.arr 2 (.t rfl) rfl (by first | (simp [AV.okc, shV]; done) | (intro e he; rw [List.mem_singleton.1 he]; rfl))) Tryd.underlying46 ni46 ty5 rfl rfl (by first | (simp; done) | (simp; omega)) rfl ?_ | refine W.app 3 (.t rfl) rfl (.arr 3 (.t rfl) rfl (by first | (simp [AV.okc, shV]; done) | (intro e he; rw [List.mem_singleton.1 he]; rfl))) Tryd.underlying46 ni46 ty5 rfl rfl (by first | (simp; done) | (simp; omega)) rfl ?_
    intro v24
    refine W.q (Ev.assign (.t rfl)) rfl ?_
    refine W.nil ?_
    refine W.then ?_
    refine W.ret ?_
    refine W.blk_ret ?_
    refine W.retn (M' := [.arr _ 5 1 (l.map AV.u8 ++ _)]) (rs := [.tmp 4]) (avs := [_]) Tryd.results59 ⟨rfl, trivial⟩ rfl (.refl _) ?_
    refine ⟨_, rfl, congrArg (fun x => [ME.arr _ 5 1 x]) ?_⟩
    rw [List.map_append]
    congr 1
    first | exact enc_2 r (by omega) | exact enc_3 r (by omega) (by omega) | exact enc_4 r (by omega) | exact enc_bad r (by cases h : Utf8.valid r with | false => rfl | true => rw [valid_iff] at h; omega)
  · simp only [Bool.and_eq_false_iff, decide_eq_false_iff_not, hw] at hc_t11
    refine W.seq ?_
    refine W.seq ?_
    refine W.region ?_
    refine W.q (Ev.move (.t rfl)) rfl ?_
    refine W.q (Ev.lti (.t rfl) .k) rfl ?_
    refine W.q (Ev.assign (.t rfl)) rfl ?_
    refine W.nil ?_
    refine W.then ?_
    refine W.cond (.t rfl) (fun hc_t25 => ?_) (fun hc_t25 => ?_)
    · simp only [Bool.and_eq_true, decide_eq_true_eq, hw] at hc_t25
      refine W.skip ?_
      refine W.then ?_
      refine W.cond (.t rfl) (fun hc_t25 => ?_) (fun hc_t25 => ?_)
      · simp only [Bool.and_eq_true, decide_eq_true_eq, hw] at hc_t25
        refine W.seq ?_
        refine W.region ?_
        refine W.q (Ev.move (.t rfl)) rfl ?_
        refine W.q (Ev.move (.t rfl)) rfl ?_
        refine W.q (Ev.shr (c := 12) (.t rfl) .k (by decide) (by decide)) rfl ?_
        refine W.q (Ev.conv (.t rfl) ⟨_, Tryd.underlying21⟩ Tryd.underlying5) rfl ?_
        refine W.q (Ev.bor .k (.t rfl)) rfl ?_
        refine W.q (Ev.move (.t rfl)) rfl ?_
        refine W.q (Ev.shr (c := 6) (.t rfl) .k (by decide) (by decide)) rfl ?_
        refine W.q (Ev.conv (.t rfl) ⟨_, Tryd.underlying21⟩ Tryd.underlying5) rfl ?_
        refine W.q (Ev.band (.t rfl) .k) rfl ?_
        refine W.q (Ev.bor .k (.t rfl)) rfl ?_
        refine W.q (Ev.move (.t rfl)) rfl ?_
        refine W.q (Ev.conv (.t rfl) ⟨_, Tryd.underlying21⟩ Tryd.underlying5) rfl ?_
        refine W.q (Ev.band (.t rfl) .k) rfl ?_
        refine W.q (Ev.bor .k (.t rfl)) rfl ?_
        refine W.bs (es := [_, _, _]) Tryd.underlying46 ty5 ⟨rfl, (.t rfl), rfl, rfl, rfl, (.t rfl), rfl, rfl, rfl, (.t rfl), rfl, rfl, trivial⟩ rfl (by decide) rfl rfl ?_
        first | refine W.app 0 (.t rfl) rfl (.sl (.t rfl) (by first | (simp [AV.okc, shV]; done) | (intro e he; rw [List.mem_singleton.1 he]; rfl))) Tryd.underlying46 ni46 ty5 rfl rfl (by first | (simp; done) | (simp; omega)) rfl ?_ | refine W.app 1 (.t rfl) rfl (.sl (.t rfl) (by first | (simp [AV.okc, shV]; done) | (intro e he; rw [List.mem_singleton.1 he]; rfl))) Tryd.underlying46 ni46 ty5 rfl rfl (by first | (simp; done) | (simp; omega)) rfl ?_ | refine W.app 2 (.t rfl) rfl (.sl (.t rfl) (by first | (simp [AV.okc, shV]; done) | (intro e he; rw [List.mem_singleton.1 he]; rfl))) Tryd.underlying46 ni46 ty5 rfl rfl (by first | (simp; done) | (simp; omega)) rfl ?_ | refine W.app 3 (.t rfl) rfl (.sl (.t rfl) (by first | (simp [AV.okc, shV]; done) | (intro e he; rw [List.mem_singleton.1 he]; rfl))) Tryd.underlying46 ni46 ty5 rfl rfl (by first | (simp; done) | (simp; omega)) rfl ?_ | refine W.app 0 (.t rfl) rfl (.arr 0 (.t rfl) rfl (by first | (simp [AV.okc, shV]; done) | (intro e he; rw [List.mem_singleton.1 he]; rfl))) Tryd.underlying46 ni46 ty5 rfl rfl (by first | (simp; done) | (simp; omega)) rfl ?_ | refine W.app 0 (.t rfl) rfl (.arr 1 (.t rfl) rfl (by first | (simp [AV.okc, shV]; done) | (intro e he; rw [List.mem_singleton.1 he]; rfl))) Tryd.underlying46 ni46 ty5 rfl rfl (by first | (simp; done) | (simp; omega)) rfl ?_ | refine W.app 0 (.t rfl) rfl (.arr 2 (.t rfl) rfl (by first | (simp [AV.okc, shV]; done) | (intro e he; rw [List.mem_singleton.1 he]; rfl))) Tryd.underlying46 ni46 ty5 rfl rfl (by first | (simp; done) | (simp; omega)) rfl ?_ | refine W.app 0 (.t rfl) rfl (.arr 3 (.t rfl) rfl (by first | (simp [AV.okc, shV]; done) | (intro e he; rw [List.mem_singleton.1 he]; rfl))) Tryd.underlying46 ni46 ty5 rfl rfl (by first | (simp; done) | (simp; omega)) rfl ?_ | refine W.app 1 (.t rfl) rfl (.arr 0 (.t rfl) rfl (by first | (simp [AV.okc, shV]; done) | (intro e he; rw [List.mem_singleton.1 he]; rfl))) Tryd.underlying46 ni46 ty5 rfl rfl (by first | (simp; done) | (simp; omega)) rfl ?_ | refine W.app 1 (.t rfl) rfl (.arr 1 (.t rfl) rfl (by first | (simp [AV.okc, shV]; done) | (intro e he; rw [List.mem_singleton.1 he]; rfl))) Tryd.underlying46 ni46 ty5 rfl rfl (by first | (simp; done) | (simp; omega)) rfl ?_ | refine W.app 1 (.t rfl) rfl (.arr 2 (.t rfl) rfl (by first | (simp [AV.okc, shV]; done) | (intro e he; rw [List.mem_singleton.1 he]; rfl))) Tryd.underlying46 ni46 ty5 rfl rfl (by first | (simp; done) | (simp; omega)) rfl ?_ | refine W.app 1 (.t rfl) rfl (.arr 3 (.t rfl) rfl (by first | (simp [AV.okc, shV]; done) | (intro e he; rw [List.mem_singleton.1 he]; rfl))) Tryd.underlying46 ni46 ty5 rfl rfl (by first | (simp; done) | (simp; omega)) rfl ?_ | refine W.app 2 (.t rfl) rfl (.arr 0 (.t rfl) rfl (by first | (simp [AV.okc, shV]; done) | (intro e he; rw [List.mem_singleton.1 he]; rfl))) Tryd.underlying46 ni46 ty5 rfl rfl (by first | (simp; done) | (simp; omega)) rfl ?_ | refine W.app 2 (.t rfl) rfl (.arr 1 (.t rfl) rfl (by first | (simp [AV.okc, shV]; done) | (intro e he; rw [List.mem_singleton.1 he]; rfl))) Tryd.underlying46 ni46 ty5 rfl rfl (by first | (simp; done) | (simp; omega)) rfl ?_ | refine W.app 2 (.t rfl) rfl (.arr 2 (.t rfl) rfl (by first | (simp [AV.okc, shV]; done) | (intro e he; rw [List.mem_singleton.1 he]; rfl))) Tryd.underlying46 ni46 ty5 rfl rfl (by first | (simp; done) | (simp; omega)) rfl ?_ | refine W.app 2 (.t rfl) rfl (.arr 3 (.t rfl) rfl (by first | (simp [AV.okc, shV]; done) | (intro e he; rw [List.mem_singleton.1 he]; rfl))) Tryd.underlying46 ni46 ty5 rfl rfl (by first | (simp; done) | (simp; omega)) rfl ?_ | refine W.app 3 (.t rfl) rfl (.arr 0 (.t rfl) rfl (by first | (simp [AV.okc, shV]; done) | (intro e he; rw [List.mem_singleton.1 he]; rfl))) Tryd.underlying46 ni46 ty5 rfl rfl (by first | (simp; done) | (simp; omega)) rfl ?_ | refine W.app 3 (.t rfl) rfl (.arr 1 (.t rfl) rfl (by first | (simp [AV.okc, shV]; done) | (intro e he; rw [List.mem_singleton.1 he]; rfl))) Tryd.underlying46 ni46 ty5 rfl rfl (by first | (simp; done) | (simp; omega)) rfl ?_ | refine W.app 3 (.t rfl) rfl (.arr 2 (.t rfl) rfl (by first | (simp [AV.okc, shV]; done) | (intro e he; rw [List.mem_singleton.1 he]; rfl))) Tryd.underlying46 ni46 ty5 rfl rfl (by first | (simp; done) | (simp; omega)) rfl ?_ | refine W.app 3 (.t rfl) rfl (.arr 3 (.t rfl) rfl (by first | (simp [AV.okc, shV]; done) | (intro e he; rw [List.mem_singleton.1 he]; rfl))) Tryd.underlying46 ni46 ty5 rfl rfl (by first | (simp; done) | (simp; omega)) rfl ?_
        intro v49
        refine W.q (Ev.assign (.t rfl)) rfl ?_
        refine W.nil ?_
        refine W.then ?_
        refine W.ret ?_
        refine W.blk_ret ?_
        refine W.retn (M' := [.arr _ 5 1 (l.map AV.u8 ++ _)]) (rs := [.tmp 4]) (avs := [_]) Tryd.results59 ⟨rfl, trivial⟩ rfl (.refl _) ?_
        refine ⟨_, rfl, congrArg (fun x => [ME.arr _ 5 1 x]) ?_⟩
        rw [List.map_append]
        congr 1
        first | exact enc_2 r (by omega) | exact enc_3 r (by omega) (by omega) | exact enc_4 r (by omega) | exact enc_bad r (by cases h : Utf8.valid r with | false => rfl | true => rw [valid_iff] at h; omega)
      · simp only [Bool.and_eq_false_iff, decide_eq_false_iff_not, hw] at hc_t25
        refine W.seq ?_
        refine W.region ?_
        refine W.q (Ev.move (.t rfl)) rfl ?_
        refine W.q (Ev.gti (.t rfl) .k) rfl ?_
        refine W.q (Ev.move (.t rfl)) rfl ?_
        refine W.qgT rfl rfl (Ev.move (.t rfl)) rfl ?_
        refine W.qgT rfl rfl (Ev.lei (.c rfl) .k) rfl ?_
        refine W.q (Ev.and (.t rfl) ⟨_, _, rfl, rfl, by first | (simp; done) | (intro hg_ hp_; simp [hp_]; done) | (simp <;> omega; done) | (simp_all; done) | grind⟩) rfl ?_
        refine W.q (Ev.assign (.t rfl)) rfl ?_
        refine W.nil ?_
        refine W.then ?_
        refine W.cond (.t rfl) (fun hc_t50 => ?_) (fun hc_t50 => ?_)
        · simp only [Bool.and_eq_true, decide_eq_true_eq, hw] at hc_t50
          refine W.seq ?_
          refine W.region ?_
          refine W.q (Ev.move (.t rfl)) rfl ?_
          refine W.q (Ev.move (.t rfl)) rfl ?_
          refine W.q (Ev.shr (c := 18) (.t rfl) .k (by decide) (by decide)) rfl ?_
          refine W.q (Ev.conv (.t rfl) ⟨_, Tryd.underlying21⟩ Tryd.underlying5) rfl ?_
          refine W.q (Ev.bor .k (.t rfl)) rfl ?_
          refine W.q (Ev.move (.t rfl)) rfl ?_
          refine W.q (Ev.shr (c := 12) (.t rfl) .k (by decide) (by decide)) rfl ?_
          refine W.q (Ev.conv (.t rfl) ⟨_, Tryd.underlying21⟩ Tryd.underlying5) rfl ?_
          refine W.q (Ev.band (.t rfl) .k) rfl ?_
          refine W.q (Ev.bor .k (.t rfl)) rfl ?_
          refine W.q (Ev.move (.t rfl)) rfl ?_
          refine W.q (Ev.shr (c := 6) (.t rfl) .k (by decide) (by decide)) rfl ?_
          refine W.q (Ev.conv (.t rfl) ⟨_, Tryd.underlying21⟩ Tryd.underlying5) rfl ?_
          refine W.q (Ev.band (.t rfl) .k) rfl ?_
          refine W.q (Ev.bor .k (.t rfl)) rfl ?_
          refine W.q (Ev.move (.t rfl)) rfl ?_
          refine W.q (Ev.conv (.t rfl) ⟨_, Tryd.underlying21⟩ Tryd.underlying5) rfl ?_
          refine W.q (Ev.band (.t rfl) .k) rfl ?_
          refine W.q (Ev.bor .k (.t rfl)) rfl ?_
          refine W.bs (es := [_, _, _, _]) Tryd.underlying46 ty5 ⟨rfl, (.t rfl), rfl, rfl, rfl, (.t rfl), rfl, rfl, rfl, (.t rfl), rfl, rfl, rfl, (.t rfl), rfl, rfl, trivial⟩ rfl (by decide) rfl rfl ?_
          first | refine W.app 0 (.t rfl) rfl (.sl (.t rfl) (by first | (simp [AV.okc, shV]; done) | (intro e he; rw [List.mem_singleton.1 he]; rfl))) Tryd.underlying46 ni46 ty5 rfl rfl (by first | (simp; done) | (simp; omega)) rfl ?_ | refine W.app 1 (.t rfl) rfl (.sl (.t rfl) (by first | (simp [AV.okc, shV]; done) | (intro e he; rw [List.mem_singleton.1 he]; rfl))) Tryd.underlying46 ni46 ty5 rfl rfl (by first | (simp; done) | (simp; omega)) rfl ?_ | refine W.app 2 (.t rfl) rfl (.sl (.t rfl) (by first | (simp [AV.okc, shV]; done) | (intro e he; rw [List.mem_singleton.1 he]; rfl))) Tryd.underlying46 ni46 ty5 rfl rfl (by first | (simp; done) | (simp; omega)) rfl ?_ | refine W.app 3 (.t rfl) rfl (.sl (.t rfl) (by first | (simp [AV.okc, shV]; done) | (intro e he; rw [List.mem_singleton.1 he]; rfl))) Tryd.underlying46 ni46 ty5 rfl rfl (by first | (simp; done) | (simp; omega)) rfl ?_ | refine W.app 0 (.t rfl) rfl (.arr 0 (.t rfl) rfl (by first | (simp [AV.okc, shV]; done) | (intro e he; rw [List.mem_singleton.1 he]; rfl))) Tryd.underlying46 ni46 ty5 rfl rfl (by first | (simp; done) | (simp; omega)) rfl ?_ | refine W.app 0 (.t rfl) rfl (.arr 1 (.t rfl) rfl (by first | (simp [AV.okc, shV]; done) | (intro e he; rw [List.mem_singleton.1 he]; rfl))) Tryd.underlying46 ni46 ty5 rfl rfl (by first | (simp; done) | (simp; omega)) rfl ?_ | refine W.app 0 (.t rfl) rfl (.arr 2 (.t rfl) rfl (by first | (simp [AV.okc, shV]; done) | (intro e he; rw [List.mem_singleton.1 he]; rfl))) Tryd.underlying46 ni46 ty5 rfl rfl (by first | (simp; done) | (simp; omega)) rfl ?_ | refine W.app 0 (.t rfl) rfl (.arr 3 (.t rfl) rfl (by first | (simp [AV.okc, shV]; done) | (intro e he; rw [List.mem_singleton.1 he]; rfl))) Tryd.underlying46 ni46 ty5 rfl rfl (by first | (simp; done) | (simp; omega)) rfl ?_ | refine W.app 1 (.t rfl) rfl (.arr 0 (.t rfl) rfl (by first | (simp [AV.okc, shV]; done) | (intro e he; rw [List.mem_singleton.1 he]; rfl))) Tryd.underlying46 ni46 ty5 rfl rfl (by first | (simp; done) | (simp; omega)) rfl ?_ | refine W.app 1 (.t rfl) rfl (.arr 1 (.t rfl) rfl (by first | (simp [AV.okc, shV]; done) | (intro e he; rw [List.mem_singleton.1 he]; rfl))) Tryd.underlying46 ni46 ty5 rfl rfl (by first | (simp; done) | (simp; omega)) rfl ?_ | refine W.app 1 (.t rfl) rfl (.arr 2 (.t rfl) rfl (by first | (simp [AV.okc, shV]; done) | (intro e he; rw [List.mem_singleton.1 he]; rfl))) Tryd.underlying46 ni46 ty5 rfl rfl (by first | (simp; done) | (simp; omega)) rfl ?_ | refine W.app 1 (.t rfl) rfl (.arr 3 (.t rfl) rfl (by first | (simp [AV.okc, shV]; done) | (intro e he; rw [List.mem_singleton.1 he]; rfl))) Tryd.underlying46 ni46 ty5 rfl rfl (by first | (simp; done) | (simp; omega)) rfl ?_ | refine W.app 2 (.t rfl) rfl (.arr 0 (.t rfl) rfl (by first | (simp [AV.okc, shV]; done) | (intro e he; rw [List.mem_singleton.1 he]; rfl))) Tryd.underlying46 ni46 ty5 rfl rfl (by first | (simp; done) | (simp; omega)) rfl ?_ | refine W.app 2 (.t rfl) rfl (.arr 1 (.t rfl) rfl (by first | (simp [AV.okc, shV]; done) | (intro e he; rw [List.mem_singleton.1 he]; rfl))) Tryd.underlying46 ni46 ty5 rfl rfl (by first | (simp; done) | (simp; omega)) rfl ?_ | refine W.app 2 (.t rfl) rfl (.arr 2 (.t rfl) rfl (by first | (simp [AV.okc, shV]; done) | (intro e he; rw [List.mem_singleton.1 he]; rfl))) Tryd.underlying46 ni46 ty5 rfl rfl (by first | (simp; done) | (simp; omega)) rfl ?_ | refine W.app 2 (.t rfl) rfl (.arr 3 (.t rfl) rfl (by first | (simp [AV.okc, shV]; done) | (intro e he; rw [List.mem_singleton.1 he]; rfl))) Tryd.underlying46 ni46 ty5 rfl rfl (by first | (simp; done) | (simp; omega)) rfl ?_ | refine W.app 3 (.t rfl) rfl (.arr 0 (.t rfl) rfl (by first | (simp [AV.okc, shV]; done) | (intro e he; rw [List.mem_singleton.1 he]; rfl))) Tryd.underlying46 ni46 ty5 rfl rfl (by first | (simp; done) | (simp; omega)) rfl ?_ | refine W.app 3 (.t rfl) rfl (.arr 1 (.t rfl) rfl (by first | (simp [AV.okc, shV]; done) | (intro e he; rw [List.mem_singleton.1 he]; rfl))) Tryd.underlying46 ni46 ty5 rfl rfl (by first | (simp; done) | (simp; omega)) rfl ?_ | refine W.app 3 (.t rfl) rfl (.arr 2 (.t rfl) rfl (by first | (simp [AV.okc, shV]; done) | (intro e he; rw [List.mem_singleton.1 he]; rfl))) Tryd.underlying46 ni46 ty5 rfl rfl (by first | (simp; done) | (simp; omega)) rfl ?_ | refine W.app 3 (.t rfl) rfl (.arr 3 (.t rfl) rfl (by first | (simp [AV.okc, shV]; done) | (intro e he; rw [List.mem_singleton.1 he]; rfl))) Tryd.underlying46 ni46 ty5 rfl rfl (by first | (simp; done) | (simp; omega)) rfl ?_
          intro v77
          refine W.q (Ev.assign (.t rfl)) rfl ?_
          refine W.nil ?_
          refine W.then ?_
          refine W.ret ?_
          refine W.blk_ret ?_
          refine W.retn (M' := [.arr _ 5 1 (l.map AV.u8 ++ _)]) (rs := [.tmp 4]) (avs := [_]) Tryd.results59 ⟨rfl, trivial⟩ rfl (.refl _) ?_
          refine ⟨_, rfl, congrArg (fun x => [ME.arr _ 5 1 x]) ?_⟩
          rw [List.map_append]
          congr 1
          first | exact enc_2 r (by omega) | exact enc_3 r (by omega) (by omega) | exact enc_4 r (by omega) | exact enc_bad r (by cases h : Utf8.valid r with | false => rfl | true => rw [valid_iff] at h; omega)
        · simp only [Bool.and_eq_false_iff, decide_eq_false_iff_not, hw] at hc_t50
          refine W.seq ?_
          refine W.region ?_
          refine W.q (Ev.move (.t rfl)) rfl ?_
          refine W.bs (es := [_, _, _]) Tryd.underlying46 ty5 ⟨rfl, .k, rfl, rfl, rfl, .k, rfl, rfl, rfl, .k, rfl, rfl, trivial⟩ rfl (by decide) rfl rfl ?_
          first | refine W.app 0 (.t rfl) rfl (.sl (.t rfl) (by first | (simp [AV.okc, shV]; done) | (intro e he; rw [List.mem_singleton.1 he]; rfl))) Tryd.underlying46 ni46 ty5 rfl rfl (by first | (simp; done) | (simp; omega)) rfl ?_ | refine W.app 1 (.t rfl) rfl (.sl (.t rfl) (by first | (simp [AV.okc, shV]; done) | (intro e he; rw [List.mem_singleton.1 he]; rfl))) Tryd.underlying46 ni46 ty5 rfl rfl (by first | (simp; done) | (simp; omega)) rfl ?_ | refine W.app 2 (.t rfl) rfl (.sl (.t rfl) (by first | (simp [AV.okc, shV]; done) | (intro e he; rw [List.mem_singleton.1 he]; rfl))) Tryd.underlying46 ni46 ty5 rfl rfl (by first | (simp; done) | (simp; omega)) rfl ?_ | refine W.app 3 (.t rfl) rfl (.sl (.t rfl) (by first | (simp [AV.okc, shV]; done) | (intro e he; rw [List.mem_singleton.1 he]; rfl))) Tryd.underlying46 ni46 ty5 rfl rfl (by first | (simp; done) | (simp; omega)) rfl ?_ | refine W.app 0 (.t rfl) rfl (.arr 0 (.t rfl) rfl (by first | (simp [AV.okc, shV]; done) | (intro e he; rw [List.mem_singleton.1 he]; rfl))) Tryd.underlying46 ni46 ty5 rfl rfl (by first | (simp; done) | (simp; omega)) rfl ?_ | refine W.app 0 (.t rfl) rfl (.arr 1 (.t rfl) rfl (by first | (simp [AV.okc, shV]; done) | (intro e he; rw [List.mem_singleton.1 he]; rfl))) Tryd.underlying46 ni46 ty5 rfl rfl (by first | (simp; done) | (simp; omega)) rfl ?_ | refine W.app 0 (.t rfl) rfl (.arr 2 (.t rfl) rfl (by first | (simp [AV.okc, shV]; done) | (intro e he; rw [List.mem_singleton.1 he]; rfl))) Tryd.underlying46 ni46 ty5 rfl rfl (by first | (simp; done) | (simp; omega)) rfl ?_ | refine W.app 0 (.t rfl) rfl (.arr 3 (.t rfl) rfl (by first | (simp [AV.okc, shV]; done) | (intro e he; rw [List.mem_singleton.1 he]; rfl))) Tryd.underlying46 ni46 ty5 rfl rfl (by first | (simp; done) | (simp; omega)) rfl ?_ | refine W.app 1 (.t rfl) rfl (.arr 0 (.t rfl) rfl (by first | (simp [AV.okc, shV]; done) | (intro e he; rw [List.mem_singleton.1 he]; rfl))) Tryd.underlying46 ni46 ty5 rfl rfl (by first | (simp; done) | (simp; omega)) rfl ?_ | refine W.app 1 (.t rfl) rfl (.arr 1 (.t rfl) rfl (by first | (simp [AV.okc, shV]; done) | (intro e he; rw [List.mem_singleton.1 he]; rfl))) Tryd.underlying46 ni46 ty5 rfl rfl (by first | (simp; done) | (simp; omega)) rfl ?_ | refine W.app 1 (.t rfl) rfl (.arr 2 (.t rfl) rfl (by first | (simp [AV.okc, shV]; done) | (intro e he; rw [List.mem_singleton.1 he]; rfl))) Tryd.underlying46 ni46 ty5 rfl rfl (by first | (simp; done) | (simp; omega)) rfl ?_ | refine W.app 1 (.t rfl) rfl (.arr 3 (.t rfl) rfl (by first | (simp [AV.okc, shV]; done) | (intro e he; rw [List.mem_singleton.1 he]; rfl))) Tryd.underlying46 ni46 ty5 rfl rfl (by first | (simp; done) | (simp; omega)) rfl ?_ | refine W.app 2 (.t rfl) rfl (.arr 0 (.t rfl) rfl (by first | (simp [AV.okc, shV]; done) | (intro e he; rw [List.mem_singleton.1 he]; rfl))) Tryd.underlying46 ni46 ty5 rfl rfl (by first | (simp; done) | (simp; omega)) rfl ?_ | refine W.app 2 (.t rfl) rfl (.arr 1 (.t rfl) rfl (by first | (simp [AV.okc, shV]; done) | (intro e he; rw [List.mem_singleton.1 he]; rfl))) Tryd.underlying46 ni46 ty5 rfl rfl (by first | (simp; done) | (simp; omega)) rfl ?_ | refine W.app 2 (.t rfl) rfl (.arr 2 (.t rfl) rfl (by first | (simp [AV.okc, shV]; done) | (intro e he; rw [List.mem_singleton.1 he]; rfl))) Tryd.underlying46 ni46 ty5 rfl rfl (by first | (simp; done) | (simp; omega)) rfl ?_ | refine W.app 2 (.t rfl) rfl (.arr 3 (.t rfl) rfl (by first | (simp [AV.okc, shV]; done) | (intro e he; rw [List.mem_singleton.1 he]; rfl))) Tryd.underlying46 ni46 ty5 rfl rfl (by first | (simp; done) | (simp; omega)) rfl ?_ | refine W.app 3 (.t rfl) rfl (.arr 0 (.t rfl) rfl (by first | (simp [AV.okc, shV]; done) | (intro e he; rw [List.mem_singleton.1 he]; rfl))) Tryd.underlying46 ni46 ty5 rfl rfl (by first | (simp; done) | (simp; omega)) rfl ?_ | refine W.app 3 (.t rfl) rfl (.arr 1 (.t rfl) rfl (by first | (simp [AV.okc, shV]; done) | (intro e he; rw [List.mem_singleton.1 he]; rfl))) Tryd.underlying46 ni46 ty5 rfl rfl (by first | (simp; done) | (simp; omega)) rfl ?_ | refine W.app 3 (.t rfl) rfl (.arr 2 (.t rfl) rfl (by first | (simp [AV.okc, shV]; done) | (intro e he; rw [List.mem_singleton.1 he]; rfl))) Tryd.underlying46 ni46 ty5 rfl rfl (by first | (simp; done) | (simp; omega)) rfl ?_ | refine W.app 3 (.t rfl) rfl (.arr 3 (.t rfl) rfl (by first | (simp [AV.okc, shV]; done) | (intro e he; rw [List.mem_singleton.1 he]; rfl))) Tryd.underlying46 ni46 ty5 rfl rfl (by first | (simp; done) | (simp; omega)) rfl ?_
          intro v10
          refine W.q (Ev.assign (.t rfl)) rfl ?_
          refine W.nil ?_
          refine W.then ?_
          refine W.ret ?_
          refine W.blk_ret ?_
          refine W.retn (M' := [.arr _ 5 1 (l.map AV.u8 ++ _)]) (rs := [.tmp 4]) (avs := [_]) Tryd.results59 ⟨rfl, trivial⟩ rfl (.refl _) ?_
          refine ⟨_, rfl, congrArg (fun x => [ME.arr _ 5 1 x]) ?_⟩
          rw [List.map_append]
          congr 1
          first | exact enc_2 r (by omega) | exact enc_3 r (by omega) (by omega) | exact enc_4 r (by omega) | exact enc_bad r (by cases h : Utf8.valid r with | false => rfl | true => rw [valid_iff] at h; omega)
    · simp only [Bool.and_eq_false_iff, decide_eq_false_iff_not, hw] at hc_t25
      refine W.region ?_
      refine W.q (Ev.move (.t rfl)) rfl ?_
      refine W.q (Ev.lti .k (.t rfl)) rfl ?_
      refine W.q (Ev.move (.t rfl)) rfl ?_
      refine W.qgT rfl rfl (Ev.move (.t rfl)) rfl ?_
      refine W.qgT rfl rfl (Ev.lei (.c rfl) .k) rfl ?_
      refine W.q (Ev.and (.t rfl) ⟨_, _, rfl, rfl, by first | (simp; done) | (intro hg_ hp_; simp [hp_]; done) | (simp <;> omega; done) | (simp_all; done) | grind⟩) rfl ?_
      refine W.q (Ev.assign (.t rfl)) rfl ?_
      refine W.nil ?_
      refine W.then ?_
      refine W.cond (.t rfl) (fun hc_t25 => ?_) (fun hc_t25 => ?_)
      · simp only [Bool.and_eq_true, decide_eq_true_eq, hw] at hc_t25
        refine W.seq ?_
        refine W.region ?_
        refine W.q (Ev.move (.t rfl)) rfl ?_
        refine W.q (Ev.move (.t rfl)) rfl ?_
        refine W.q (Ev.shr (c := 12) (.t rfl) .k (by decide) (by decide)) rfl ?_
        refine W.q (Ev.conv (.t rfl) ⟨_, Tryd.underlying21⟩ Tryd.underlying5) rfl ?_
        refine W.q (Ev.bor .k (.t rfl)) rfl ?_
        refine W.q (Ev.move (.t rfl)) rfl ?_
        refine W.q (Ev.shr (c := 6) (.t rfl) .k (by decide) (by decide)) rfl ?_
        refine W.q (Ev.conv (.t rfl) ⟨_, Tryd.underlying21⟩ Tryd.underlying5) rfl ?_
        refine W.q (Ev.band (.t rfl) .k) rfl ?_
        refine W.q (Ev.bor .k (.t rfl)) rfl ?_
        refine W.q (Ev.move (.t rfl)) rfl ?_
        refine W.q (Ev.conv (.t rfl) ⟨_, Tryd.underlying21⟩ Tryd.underlying5) rfl ?_
        refine W.q (Ev.band (.t rfl) .k) rfl ?_
        refine W.q (Ev.bor .k (.t rfl)) rfl ?_
        refine W.bs (es := [_, _, _]) Tryd.underlying46 ty5 ⟨rfl, (.t rfl), rfl, rfl, rfl, (.t rfl), rfl, rfl, rfl, (.t rfl), rfl, rfl, trivial⟩ rfl (by decide) rfl rfl ?_
        first | refine W.app 0 (.t rfl) rfl (.sl (.t rfl) (by first | (simp [AV.okc, shV]; done) | (intro e he; rw [List.mem_singleton.1 he]; rfl))) Tryd.underlying46 ni46 ty5 rfl rfl (by first | (simp; done) | (simp; omega)) rfl ?_ | refine W.app 1 (.t rfl) rfl (.sl (.t rfl) (by first | (simp [AV.okc, shV]; done) | (intro e he; rw [List.mem_singleton.1 he]; rfl))) Tryd.underlying46 ni46 ty5 rfl rfl (by first | (simp; done) | (simp; omega)) rfl ?_ | refine W.app 2 (.t rfl) rfl (.sl (.t rfl) (by first | (simp [AV.okc, shV]; done) | (intro e he; rw [List.mem_singleton.1 he]; rfl))) Tryd.underlying46 ni46 ty5 rfl rfl (by first | (simp; done) | (simp; omega)) rfl ?_ | refine W.app 3 (.t rfl) rfl (.sl (.t rfl) (by first | (simp [AV.okc, shV]; done) | (intro e he; rw [List.mem_singleton.1 he]; rfl))) Tryd.underlying46 ni46 ty5 rfl rfl (by first | (simp; done) | (simp; omega)) rfl ?_ | refine W.app 0 (.t rfl) rfl (.arr 0 (.t rfl) rfl (by first | (simp [AV.okc, shV]; done) | (intro e he; rw [List.mem_singleton.1 he]; rfl))) Tryd.underlying46 ni46 ty5 rfl rfl (by first | (simp; done) | (simp; omega)) rfl ?_ | refine W.app 0 (.t rfl) rfl (.arr 1 (.t rfl) rfl (by first | (simp [AV.okc, shV]; done) | (intro e he; rw [List.mem_singleton.1 he]; rfl))) Tryd.underlying46 ni46 ty5 rfl rfl (by first | (simp; done) | (simp; omega)) rfl ?_ | refine W.app 0 (.t rfl) rfl (.arr 2 (.t rfl) rfl (by first | (simp [AV.okc, shV]; done) | (intro e he; rw [List.mem_singleton.1 he]; rfl))) Tryd.underlying46 ni46 ty5 rfl rfl (by first | (simp; done) | (simp; omega)) rfl ?_ | refine W.app 0 (.t rfl) rfl (.arr 3 (.t rfl) rfl (by first | (simp [AV.okc, shV]; done) | (intro e he; rw [List.mem_singleton.1 he]; rfl))) Tryd.underlying46 ni46 ty5 rfl rfl (by first | (simp; done) | (simp; omega)) rfl ?_ | refine W.app 1 (.t rfl) rfl (.arr 0 (.t rfl) rfl (by first | (simp [AV.okc, shV]; done) | (intro e he; rw [List.mem_singleton.1 he]; rfl))) Tryd.underlying46 ni46 ty5 rfl rfl (by first | (simp; done) | (simp; omega)) rfl ?_ | refine W.app 1 (.t rfl) rfl (.arr 1 (.t rfl) rfl (by first | (simp [AV.okc, shV]; done) | (intro e he; rw [List.mem_singleton.1 he]; rfl))) Tryd.underlying46 ni46 ty5 rfl rfl (by first | (simp; done) | (simp; omega)) rfl ?_ | refine W.app 1 (.t rfl) rfl (.arr 2 (.t rfl) rfl (by first | (simp [AV.okc, shV]; done) | (intro e he; rw [List.mem_singleton.1 he]; rfl))) Tryd.underlying46 ni46 ty5 rfl rfl (by first | (simp; done) | (simp; omega)) rfl ?_ | refine W.app 1 (.t rfl) rfl (.arr 3 (.t rfl) rfl (by first | (simp [AV.okc, shV]; done) | (intro e he; rw [List.mem_singleton.1 he]; rfl))) Tryd.underlying46 ni46 ty5 rfl rfl (by first | (simp; done) | (simp; omega)) rfl ?_ | refine W.app 2 (.t rfl) rfl (.arr 0 (.t rfl) rfl (by first | (simp [AV.okc, shV]; done) | (intro e he; rw [List.mem_singleton.1 he]; rfl))) Tryd.underlying46 ni46 ty5 rfl rfl (by first | (simp; done) | (simp; omega)) rfl ?_ | refine W.app 2 (.t rfl) rfl (.arr 1 (.t rfl) rfl (by first | (simp [AV.okc, shV]; done) | (intro e he; rw [List.mem_singleton.1 he]; rfl))) Tryd.underlying46 ni46 ty5 rfl rfl (by first | (simp; done) | (simp; omega)) rfl ?_ | refine W.app 2 (.t rfl) rfl (.arr 2 (.t rfl) rfl (by first | (simp [AV.okc, shV]; done) | (intro e he; rw [List.mem_singleton.1 he]; rfl))) Tryd.underlying46 ni46 ty5 rfl rfl (by first | (simp; done) | (simp; omega)) rfl ?_ | refine W.app 2 (.t rfl) rfl (.arr 3 (.t rfl) rfl (by first | (simp [AV.okc, shV]; done) | (intro e he; rw [List.mem_singleton.1 he]; rfl))) Tryd.underlying46 ni46 ty5 rfl rfl (by first | (simp; done) | (simp; omega)) rfl ?_ | refine W.app 3 (.t rfl) rfl (.arr 0 (.t rfl) rfl (by first | (simp [AV.okc, shV]; done) | (intro e he; rw [List.mem_singleton.1 he]; rfl))) Tryd.underlying46 ni46 ty5 rfl rfl (by first | (simp; done) | (simp; omega)) rfl ?_ | refine W.app 3 (.t rfl) rfl (.arr 1 (.t rfl) rfl (by first | (simp [AV.okc, shV]; done) | (intro e he; rw [List.mem_singleton.1 he]; rfl))) Tryd.underlying46 ni46 ty5 rfl rfl (by first | (simp; done) | (simp; omega)) rfl ?_ | refine W.app 3 (.t rfl) rfl (.arr 2 (.t rfl) rfl (by first | (simp [AV.okc, shV]; done) | (intro e he; rw [List.mem_singleton.1 he]; rfl))) Tryd.underlying46 ni46 ty5 rfl rfl (by first | (simp; done) | (simp; omega)) rfl ?_ | refine W.app 3 (.t rfl) rfl (.arr 3 (.t rfl) rfl (by first | (simp [AV.okc, shV]; done) | (intro e he; rw [List.mem_singleton.1 he]; rfl))) Tryd.underlying46 ni46 ty5 rfl rfl (by first | (simp; done) | (simp; omega)) rfl ?_
        intro v49
        refine W.q (Ev.assign (.t rfl)) rfl ?_
        refine W.nil ?_
        refine W.then ?_
        refine W.ret ?_
        refine W.blk_ret ?_
        refine W.retn (M' := [.arr _ 5 1 (l.map AV.u8 ++ _)]) (rs := [.tmp 4]) (avs := [_]) Tryd.results59 ⟨rfl, trivial⟩ rfl (.refl _) ?_
        refine ⟨_, rfl, congrArg (fun x => [ME.arr _ 5 1 x]) ?_⟩
        rw [List.map_append]
        congr 1
        first | exact enc_2 r (by omega) | exact enc_3 r (by omega) (by omega) | exact enc_4 r (by omega) | exact enc_bad r (by cases h : Utf8.valid r with | false => rfl | true => rw [valid_iff] at h; omega)
      · simp only [Bool.and_eq_false_iff, decide_eq_false_iff_not, hw] at hc_t25
        refine W.seq ?_
        refine W.region ?_
        refine W.q (Ev.move (.t rfl)) rfl ?_
        refine W.q (Ev.gti (.t rfl) .k) rfl ?_
        refine W.q (Ev.move (.t rfl)) rfl ?_
        refine W.qgT rfl rfl (Ev.move (.t rfl)) rfl ?_
        refine W.qgT rfl rfl (Ev.lei (.c rfl) .k) rfl ?_
        refine W.q (Ev.and (.t rfl) ⟨_, _, rfl, rfl, by first | (simp; done) | (intro hg_ hp_; simp [hp_]; done) | (simp <;> omega; done) | (simp_all; done) | grind⟩) rfl ?_
        refine W.q (Ev.assign (.t rfl)) rfl ?_
        refine W.nil ?_
        refine W.then ?_
        refine W.cond (.t rfl) (fun hc_t50 => ?_) (fun hc_t50 => ?_)
        · simp only [Bool.and_eq_true, decide_eq_true_eq, hw] at hc_t50
          refine W.seq ?_
          refine W.region ?_
          refine W.q (Ev.move (.t rfl)) rfl ?_
          refine W.q (Ev.move (.t rfl)) rfl ?_
          refine W.q (Ev.shr (c := 18) (.t rfl) .k (by decide) (by decide)) rfl ?_
          refine W.q (Ev.conv (.t rfl) ⟨_, Tryd.underlying21⟩ Tryd.underlying5) rfl ?_
          refine W.q (Ev.bor .k (.t rfl)) rfl ?_
          refine W.q (Ev.move (.t rfl)) rfl ?_
          refine W.q (Ev.shr (c := 12) (.t rfl) .k (by decide) (by decide)) rfl ?_
          refine W.q (Ev.conv (.t rfl) ⟨_, Tryd.underlying21⟩ Tryd.underlying5) rfl ?_
          refine W.q (Ev.band (.t rfl) .k) rfl ?_
          refine W.q (Ev.bor .k (.t rfl)) rfl ?_
          refine W.q (Ev.move (.t rfl)) rfl ?_
          refine W.q (Ev.shr (c := 6) (.t rfl) .k (by decide) (by decide)) rfl ?_
          refine W.q (Ev.conv (.t rfl) ⟨_, Tryd.underlying21⟩ Tryd.underlying5) rfl ?_
          refine W.q (Ev.band (.t rfl) .k) rfl ?_
          refine W.q (Ev.bor .k (.t rfl)) rfl ?_
          refine W.q (Ev.move (.t rfl)) rfl ?_
          refine W.q (Ev.conv (.t rfl) ⟨_, Tryd.underlying21⟩ Tryd.underlying5) rfl ?_
          refine W.q (Ev.band (.t rfl) .k) rfl ?_
          refine W.q (Ev.bor .k (.t rfl)) rfl ?_
          refine W.bs (es := [_, _, _, _]) Tryd.underlying46 ty5 ⟨rfl, (.t rfl), rfl, rfl, rfl, (.t rfl), rfl, rfl, rfl, (.t rfl), rfl, rfl, rfl, (.t rfl), rfl, rfl, trivial⟩ rfl (by decide) rfl rfl ?_
          first | refine W.app 0 (.t rfl) rfl (.sl (.t rfl) (by first | (simp [AV.okc, shV]; done) | (intro e he; rw [List.mem_singleton.1 he]; rfl))) Tryd.underlying46 ni46 ty5 rfl rfl (by first | (simp; done) | (simp; omega)) rfl ?_ | refine W.app 1 (.t rfl) rfl (.sl (.t rfl) (by first | (simp [AV.okc, shV]; done) | (intro e he; rw [List.mem_singleton.1 he]; rfl))) Tryd.underlying46 ni46 ty5 rfl rfl (by first | (simp; done) | (simp; omega)) rfl ?_ | refine W.app 2 (.t rfl) rfl (.sl (.t rfl) (by first | (simp [AV.okc, shV]; done) | (intro e he; rw [List.mem_singleton.1 he]; rfl))) Tryd.underlying46 ni46 ty5 rfl rfl (by first | (simp; done) | (simp; omega)) rfl ?_ | refine W.app 3 (.t rfl) rfl (.sl (.t rfl) (by first | (simp [AV.okc, shV]; done) | (intro e he; rw [List.mem_singleton.1 he]; rfl))) Tryd.underlying46 ni46 ty5 rfl rfl (by first | (simp; done) | (simp; omega)) rfl ?_ | refine W.app 0 (.t rfl) rfl (.arr 0 (.t rfl) rfl (by first | (simp [AV.okc, shV]; done) | (intro e he; rw [List.mem_singleton.1 he]; rfl))) Tryd.underlying46 ni46 ty5 rfl rfl (by first | (simp; done) | (simp; omega)) rfl ?_ | refine W.app 0 (.t rfl) rfl (.arr 1 (.t rfl) rfl (by first | (simp [AV.okc, shV]; done) | (intro e he; rw [List.mem_singleton.1 he]; rfl))) Tryd.underlying46 ni46 ty5 rfl rfl (by first | (simp; done) | (simp; omega)) rfl ?_ | refine W.app 0 (.t rfl) rfl (.arr 2 (.t rfl) rfl (by first | (simp [AV.okc, shV]; done) | (intro e he; rw [List.mem_singleton.1 he]; rfl))) Tryd.underlying46 ni46 ty5 rfl rfl (by first | (simp; done) | (simp; omega)) rfl ?_ | refine W.app 0 (.t rfl) rfl (.arr 3 (.t rfl) rfl (by first | (simp [AV.okc, shV]; done) | (intro e he; rw [List.mem_singleton.1 he]; rfl))) Tryd.underlying46 ni46 ty5 rfl rfl (by first | (simp; done) | (simp; omega)) rfl ?_ | refine W.app 1 (.t rfl) rfl (.arr 0 (.t rfl) rfl (by first | (simp [AV.okc, shV]; done) | (intro e he; rw [List.mem_singleton.1 he]; rfl))) Tryd.underlying46 ni46 ty5 rfl rfl (by first | (simp; done) | (simp; omega)) rfl ?_ | refine W.app 1 (.t rfl) rfl (.arr 1 (.t rfl) rfl (by first | (simp [AV.okc, shV]; done) | (intro e he; rw [List.mem_singleton.1 he]; rfl))) Tryd.underlying46 ni46 ty5 rfl rfl (by first | (simp; done) | (simp; omega)) rfl ?_ | refine W.app 1 (.t rfl) rfl (.arr 2 (.t rfl) rfl (by first | (simp [AV.okc, shV]; done) | (intro e he; rw [List.mem_singleton.1 he]; rfl))) Tryd.underlying46 ni46 ty5 rfl rfl (by first | (simp; done) | (simp; omega)) rfl ?_ | refine W.app 1 (.t rfl) rfl (.arr 3 (.t rfl) rfl (by first | (simp [AV.okc, shV]; done) | (intro e he; rw [List.mem_singleton.1 he]; rfl))) Tryd.underlying46 ni46 ty5 rfl rfl (by first | (simp; done) | (simp; omega)) rfl ?_ | refine W.app 2 (.t rfl) rfl (.arr 0 (.t rfl) rfl (by first | (simp [AV.okc, shV]; done) | (intro e he; rw [List.mem_singleton.1 he]; rfl))) Tryd.underlying46 ni46 ty5 rfl rfl (by first | (simp; done) | (simp; omega)) rfl ?_ | refine W.app 2 (.t rfl) rfl (.arr 1 (.t rfl) rfl (by first | (simp [AV.okc, shV]; done) | (intro e he; rw [List.mem_singleton.1 he]; rfl))) Tryd.underlying46 ni46 ty5 rfl rfl (by first | (simp; done) | (simp; omega)) rfl ?_ | refine W.app 2 (.t rfl) rfl (.arr 2 (.t rfl) rfl (by first | (simp [AV.okc, shV]; done) | (intro e he; rw [List.mem_singleton.1 he]; rfl))) Tryd.underlying46 ni46 ty5 rfl rfl (by first | (simp; done) | (simp; omega)) rfl ?_ | refine W.app 2 (.t rfl) rfl (.arr 3 (.t rfl) rfl (by first | (simp [AV.okc, shV]; done) | (intro e he; rw [List.mem_singleton.1 he]; rfl))) Tryd.underlying46 ni46 ty5 rfl rfl (by first | (simp; done) | (simp; omega)) rfl ?_ | refine W.app 3 (.t rfl) rfl (.arr 0 (.t rfl) rfl (by first | (simp [AV.okc, shV]; done) | (intro e he; rw [List.mem_singleton.1 he]; rfl))) Tryd.underlying46 ni46 ty5 rfl rfl (by first | (simp; done) | (simp; omega)) rfl ?_ | refine W.app 3 (.t rfl) rfl (.arr 1 (.t rfl) rfl (by first | (simp [AV.okc, shV]; done) | (intro e he; rw [List.mem_singleton.1 he]; rfl))) Tryd.underlying46 ni46 ty5 rfl rfl (by first | (simp; done) | (simp; omega)) rfl ?_ | refine W.app 3 (.t rfl) rfl (.arr 2 (.t rfl) rfl (by first | (simp [AV.okc, shV]; done) | (intro e he; rw [List.mem_singleton.1 he]; rfl))) Tryd.underlying46 ni46 ty5 rfl rfl (by first | (simp; done) | (simp; omega)) rfl ?_ | refine W.app 3 (.t rfl) rfl (.arr 3 (.t rfl) rfl (by first | (simp [AV.okc, shV]; done) | (intro e he; rw [List.mem_singleton.1 he]; rfl))) Tryd.underlying46 ni46 ty5 rfl rfl (by first | (simp; done) | (simp; omega)) rfl ?_
          intro v77
          refine W.q (Ev.assign (.t rfl)) rfl ?_
          refine W.nil ?_
          refine W.then ?_
          refine W.ret ?_
          refine W.blk_ret ?_
          refine W.retn (M' := [.arr _ 5 1 (l.map AV.u8 ++ _)]) (rs := [.tmp 4]) (avs := [_]) Tryd.results59 ⟨rfl, trivial⟩ rfl (.refl _) ?_
          refine ⟨_, rfl, congrArg (fun x => [ME.arr _ 5 1 x]) ?_⟩
          rw [List.map_append]
          congr 1
          first | exact enc_2 r (by omega) | exact enc_3 r (by omega) (by omega) | exact enc_4 r (by omega) | exact enc_bad r (by cases h : Utf8.valid r with | false => rfl | true => rw [valid_iff] at h; omega)
        · simp only [Bool.and_eq_false_iff, decide_eq_false_iff_not, hw] at hc_t50
          refine W.seq ?_
          refine W.region ?_
          refine W.q (Ev.move (.t rfl)) rfl ?_
          refine W.bs (es := [_, _, _]) Tryd.underlying46 ty5 ⟨rfl, .k, rfl, rfl, rfl, .k, rfl, rfl, rfl, .k, rfl, rfl, trivial⟩ rfl (by decide) rfl rfl ?_
          first | refine W.app 0 (.t rfl) rfl (.sl (.t rfl) (by first | (simp [AV.okc, shV]; done) | (intro e he; rw [List.mem_singleton.1 he]; rfl))) Tryd.underlying46 ni46 ty5 rfl rfl (by first | (simp; done) | (simp; omega)) rfl ?_ | refine W.app 1 (.t rfl) rfl (.sl (.t rfl) (by first | (simp [AV.okc, shV]; done) | (intro e he; rw [List.mem_singleton.1 he]; rfl))) Tryd.underlying46 ni46 ty5 rfl rfl (by first | (simp; done) | (simp; omega)) rfl ?_ | refine W.app 2 (.t rfl) rfl (.sl (.t rfl) (by first | (simp [AV.okc, shV]; done) | (intro e he; rw [List.mem_singleton.1 he]; rfl))) Tryd.underlying46 ni46 ty5 rfl rfl (by first | (simp; done) | (simp; omega)) rfl ?_ | refine W.app 3 (.t rfl) rfl (.sl (.t rfl) (by first | (simp [AV.okc, shV]; done) | (intro e he; rw [List.mem_singleton.1 he]; rfl))) Tryd.underlying46 ni46 ty5 rfl rfl (by first | (simp; done) | (simp; omega)) rfl ?_ | refine W.app 0 (.t rfl) rfl (.arr 0 (.t rfl) rfl (by first | (simp [AV.okc, shV]; done) | (intro e he; rw [List.mem_singleton.1 he]; rfl))) Tryd.underlying46 ni46 ty5 rfl rfl (by first | (simp; done) | (simp; omega)) rfl ?_ | refine W.app 0 (.t rfl) rfl (.arr 1 (.t rfl) rfl (by first | (simp [AV.okc, shV]; done) | (intro e he; rw [List.mem_singleton.1 he]; rfl))) Tryd.underlying46 ni46 ty5 rfl rfl (by first | (simp; done) | (simp; omega)) rfl ?_ | refine W.app 0 (.t rfl) rfl (.arr 2 (.t rfl) rfl (by first | (simp [AV.okc, shV]; done) | (intro e he; rw [List.mem_singleton.1 he]; rfl))) Tryd.underlying46 ni46 ty5 rfl rfl (by first | (simp; done) | (simp; omega)) rfl ?_ | refine W.app 0 (.t rfl) rfl (.arr 3 (.t rfl) rfl (by first | (simp [AV.okc, shV]; done) | (intro e he; rw [List.mem_singleton.1 he]; rfl))) Tryd.underlying46 ni46 ty5 rfl rfl (by first | (simp; done) | (simp; omega)) rfl ?_ | refine W.app 1 (.t rfl) rfl (.arr 0 (.t rfl) rfl (by first | (simp [AV.okc, shV]; done) | (intro e he; rw [List.mem_singleton.1 he]; rfl))) Tryd.underlying46 ni46 ty5 rfl rfl (by first | (simp; done) | (simp; omega)) rfl ?_ | refine W.app 1 (.t rfl) rfl (.arr 1 (.t rfl) rfl (by first | (simp [AV.okc, shV]; done) | (intro e he; rw [List.mem_singleton.1 he]; rfl))) Tryd.underlying46 ni46 ty5 rfl rfl (by first | (simp; done) | (simp; omega)) rfl ?_ | refine W.app 1 (.t rfl) rfl (.arr 2 (.t rfl) rfl (by first | (simp [AV.okc, shV]; done) | (intro e he; rw [List.mem_singleton.1 he]; rfl))) Tryd.underlying46 ni46 ty5 rfl rfl (by first | (simp; done) | (simp; omega)) rfl ?_ | refine W.app 1 (.t rfl) rfl (.arr 3 (.t rfl) rfl (by first | (simp [AV.okc, shV]; done) | (intro e he; rw [List.mem_singleton.1 he]; rfl))) Tryd.underlying46 ni46 ty5 rfl rfl (by first | (simp; done) | (simp; omega)) rfl ?_ | refine W.app 2 (.t rfl) rfl (.arr 0 (.t rfl) rfl (by first | (simp [AV.okc, shV]; done) | (intro e he; rw [List.mem_singleton.1 he]; rfl))) Tryd.underlying46 ni46 ty5 rfl rfl (by first | (simp; done) | (simp; omega)) rfl ?_ | refine W.app 2 (.t rfl) rfl (.arr 1 (.t rfl) rfl (by first | (simp [AV.okc, shV]; done) | (intro e he; rw [List.mem_singleton.1 he]; rfl))) Tryd.underlying46 ni46 ty5 rfl rfl (by first | (simp; done) | (simp; omega)) rfl ?_ | refine W.app 2 (.t rfl) rfl (.arr 2 (.t rfl) rfl (by first | (simp [AV.okc, shV]; done) | (intro e he; rw [List.mem_singleton.1 he]; rfl))) Tryd.underlying46 ni46 ty5 rfl rfl (by first | (simp; done) | (simp; omega)) rfl ?_ | refine W.app 2 (.t rfl) rfl (.arr 3 (.t rfl) rfl (by first | (simp [AV.okc, shV]; done) | (intro e he; rw [List.mem_singleton.1 he]; rfl))) Tryd.underlying46 ni46 ty5 rfl rfl (by first | (simp; done) | (simp; omega)) rfl ?_ | refine W.app 3 (.t rfl) rfl (.arr 0 (.t rfl) rfl (by first | (simp [AV.okc, shV]; done) | (intro e he; rw [List.mem_singleton.1 he]; rfl))) Tryd.underlying46 ni46 ty5 rfl rfl (by first | (simp; done) | (simp; omega)) rfl ?_ | refine W.app 3 (.t rfl) rfl (.arr 1 (.t rfl) rfl (by first | (simp [AV.okc, shV]; done) | (intro e he; rw [List.mem_singleton.1 he]; rfl))) Tryd.underlying46 ni46 ty5 rfl rfl (by first | (simp; done) | (simp; omega)) rfl ?_ | refine W.app 3 (.t rfl) rfl (.arr 2 (.t rfl) rfl (by first | (simp [AV.okc, shV]; done) | (intro e he; rw [List.mem_singleton.1 he]; rfl))) Tryd.underlying46 ni46 ty5 rfl rfl (by first | (simp; done) | (simp; omega)) rfl ?_ | refine W.app 3 (.t rfl) rfl (.arr 3 (.t rfl) rfl (by first | (simp [AV.okc, shV]; done) | (intro e he; rw [List.mem_singleton.1 he]; rfl))) Tryd.underlying46 ni46 ty5 rfl rfl (by first | (simp; done) | (simp; omega)) rfl ?_
          intro v10
          refine W.q (Ev.assign (.t rfl)) rfl ?_
          refine W.nil ?_
          refine W.then ?_
          refine W.ret ?_
          refine W.blk_ret ?_
          refine W.retn (M' := [.arr _ 5 1 (l.map AV.u8 ++ _)]) (rs := [.tmp 4]) (avs := [_]) Tryd.results59 ⟨rfl, trivial⟩ rfl (.refl _) ?_
          refine ⟨_, rfl, congrArg (fun x => [ME.arr _ 5 1 x]) ?_⟩
          rw [List.map_append]
          congr 1
          first | exact enc_2 r (by omega) | exact enc_3 r (by omega) (by omega) | exact enc_4 r (by omega) | exact enc_bad r (by cases h : Utf8.valid r with | false => rfl | true => rw [valid_iff] at h; omega)

theorem c_AppendRune (v : Value) (l : List UInt8) (r : Int) (hl : l.length ≤ 17592186044416) (hr : -2147483648 ≤ r ∧ r ≤ 2147483647) : FnC Tryd.prog 44 [.lit v, .lit (.int .i32 r)] [.arr v 5 1 (l.map AV.u8)] (fun r' M' => ∃ v', r' = .lit v' ∧ M' = [.arr v' 5 1 ((l ++ enc r).map AV.u8)]) :=  by
  refine FnC.mk Tryd.func44 (by kernel_rfl) rfl Tryd.ntmps44 rfl (fun w0 F => ?_)
  have hw : IntKind.u32.wrap r = r % 4294967296 := by rw [IntKind.wrap_u32]
  refine W.seq ?_
  refine W.region ?_
  refine W.q (Ev.assign .k) rfl ?_
  refine W.nil ?_
  refine W.then ?_
  refine W.seq ?_
  refine W.seq ?_
  refine W.region ?_
  refine W.q (Ev.move (.t rfl)) rfl ?_
  refine W.q (Ev.conv (.t rfl) ⟨_, Tryd.underlying21⟩ Tryd.underlying69) rfl ?_
  refine W.q (Ev.lei (.t rfl) .k) rfl ?_
  refine W.nil ?_
  refine W.then ?_
  refine W.cond (.t rfl) (fun hc_t7 => ?_) (fun hc_t7 => ?_)
  · simp only [decide_eq_true_eq, hw] at hc_t7
    refine W.seq ?_
    refine W.region ?_
    refine W.q (Ev.move (.t rfl)) rfl ?_
    refine W.q (Ev.move (.t rfl)) rfl ?_
    refine W.q (Ev.conv (.t rfl) ⟨_, Tryd.underlying21⟩ Tryd.underlying5) rfl ?_
    refine W.bs (es := [_]) Tryd.underlying46 ty5 ⟨rfl, (.t rfl), rfl, rfl, trivial⟩ rfl (by decide) rfl rfl ?_
    first | refine W.app 0 (.t rfl) rfl (.sl (.t rfl) (by first | (simp [AV.okc, shV]; done) | (intro e he; rw [List.mem_singleton.1 he]; rfl))) Tryd.underlying46 ni46 ty5 rfl rfl (by first | (simp; done) | (simp; omega)) rfl ?_ | refine W.app 1 (.t rfl) rfl (.sl (.t rfl) (by first | (simp [AV.okc, shV]; done) | (intro e he; rw [List.mem_singleton.1 he]; rfl))) Tryd.underlying46 ni46 ty5 rfl rfl (by first | (simp; done) | (simp; omega)) rfl ?_ | refine W.app 2 (.t rfl) rfl (.sl (.t rfl) (by first | (simp [AV.okc, shV]; done) | (intro e he; rw [List.mem_singleton.1 he]; rfl))) Tryd.underlying46 ni46 ty5 rfl rfl (by first | (simp; done) | (simp; omega)) rfl ?_ | refine W.app 3 (.t rfl) rfl (.sl (.t rfl) (by first | (simp [AV.okc, shV]; done) | (intro e he; rw [List.mem_singleton.1 he]; rfl))) Tryd.underlying46 ni46 ty5 rfl rfl (by first | (simp; done) | (simp; omega)) rfl ?_ | refine W.app 0 (.t rfl) rfl (.arr 0 (.t rfl) rfl (by first | (simp [AV.okc, shV]; done) | (intro e he; rw [List.mem_singleton.1 he]; rfl))) Tryd.underlying46 ni46 ty5 rfl rfl (by first | (simp; done) | (simp; omega)) rfl ?_ | refine W.app 0 (.t rfl) rfl (.arr 1 (.t rfl) rfl (by first | (simp [AV.okc, shV]; done) | (intro e he; rw [List.mem_singleton.1 he]; rfl))) Tryd.underlying46 ni46 ty5 rfl rfl (by first | (simp; done) | (simp; omega)) rfl ?_ | refine W.app 0 (.t rfl) rfl (.arr 2 (.t rfl) rfl (by first | (simp [AV.okc, shV]; done) | (intro e he; rw [List.mem_singleton.1 he]; rfl))) Tryd.underlying46 ni46 ty5 rfl rfl (by first | (simp; done) | (simp; omega)) rfl ?_ | refine W.app 0 (.t rfl) rfl (.arr 3 (.t rfl) rfl (by first | (simp [AV.okc, shV]; done) | (intro e he; rw [List.mem_singleton.1 he]; rfl))) Tryd.underlying46 ni46 ty5 rfl rfl (by first | (simp; done) | (simp; omega)) rfl ?_ | refine W.app 1 (.t rfl) rfl (.arr 0 (.t rfl) rfl (by first | (simp [AV.okc, shV]; done) | (intro e he; rw [List.mem_singleton.1 he]; rfl))) Tryd.underlying46 ni46 ty5 rfl rfl (by first | (simp; done) | (simp; omega)) rfl ?_ | refine W.app 1 (.t rfl) rfl (.arr 1 (.t rfl) rfl (by first | (simp [AV.okc, shV]; done) | (intro e he; rw [List.mem_singleton.1 he]; rfl))) Tryd.underlying46 ni46 ty5 rfl rfl (by first | (simp; done) | (simp; omega)) rfl ?_ | refine W.app 1 (.t rfl) rfl (.arr 2 (.t rfl) rfl (by first | (simp [AV.okc, shV]; done) | (intro e he; rw [List.mem_singleton.1 he]; rfl))) Tryd.underlying46 ni46 ty5 rfl rfl (by first | (simp; done) | (simp; omega)) rfl ?_ | refine W.app 1 (.t rfl) rfl (.arr 3 (.t rfl) rfl (by first | (simp [AV.okc, shV]; done) | (intro e he; rw [List.mem_singleton.1 he]; rfl))) Tryd.underlying46 ni46 ty5 rfl rfl (by first | (simp; done) | (simp; omega)) rfl ?_ | refine W.app 2 (.t rfl) rfl (.arr 0 (.t rfl) rfl (by first | (simp [AV.okc, shV]; done) | (intro e he; rw [List.mem_singleton.1 he]; rfl))) Tryd.underlying46 ni46 ty5 rfl rfl (by first | (simp; done) | (simp; omega)) rfl ?_ | refine W.app 2 (.t rfl) rfl (.arr 1 (.t rfl) rfl (by first | (simp [AV.okc, shV]; done) | (intro e he; rw [List.mem_singleton.1 he]; rfl))) Tryd.underlying46 ni46 ty5 rfl rfl (by first | (simp; done) | (simp; omega)) rfl ?_ | refine W.app 2 (.t rfl) rfl (.arr 2 (.t rfl) rfl (by first | (simp [AV.okc, shV]; done) | (intro e he; rw [List.mem_singleton.1 he]; rfl))) Tryd.underlying46 ni46 ty5 rfl rfl (by first | (simp; done) | (simp; omega)) rfl ?_ | refine W.app 2 (.t rfl) rfl (.arr 3 (.t rfl) rfl (by first | (simp [AV.okc, shV]; done) | (intro e he; rw [List.mem_singleton.1 he]; rfl))) Tryd.underlying46 ni46 ty5 rfl rfl (by first | (simp; done) | (simp; omega)) rfl ?_ | refine W.app 3 (.t rfl) rfl (.arr 0 (.t rfl) rfl (by first | (simp [AV.okc, shV]; done) | (intro e he; rw [List.mem_singleton.1 he]; rfl))) Tryd.underlying46 ni46 ty5 rfl rfl (by first | (simp; done) | (simp; omega)) rfl ?_ | refine W.app 3 (.t rfl) rfl (.arr 1 (.t rfl) rfl (by first | (simp [AV.okc, shV]; done) | (intro e he; rw [List.mem_singleton.1 he]; rfl))) Tryd.underlying46 ni46 ty5 rfl rfl (by first | (simp; done) | (simp; omega)) rfl ?_ | refine W.app 3 (.t rfl) rfl (.arr 2 (.t rfl) rfl (by first | (simp [AV.okc, shV]; done) | (intro e he; rw [List.mem_singleton.1 he]; rfl))) Tryd.underlying46 ni46 ty5 rfl rfl (by first | (simp; done) | (simp; omega)) rfl ?_ | refine W.app 3 (.t rfl) rfl (.arr 3 (.t rfl) rfl (by first | (simp [AV.okc, shV]; done) | (intro e he; rw [List.mem_singleton.1 he]; rfl))) Tryd.underlying46 ni46 ty5 rfl rfl (by first | (simp; done) | (simp; omega)) rfl ?_
    intro v12
    refine W.q (Ev.assign (.t rfl)) rfl ?_
    refine W.nil ?_
    refine W.then ?_
    refine W.ret ?_
    refine W.then_ret ?_
    refine W.retn (M' := [.arr _ 5 1 _]) (D := []) (rs := [.tmp 4]) (avs := [_]) Tryd.results44 ⟨rfl, trivial⟩ rfl (.refl _) ?_
    first | (refine ⟨_, rfl, congrArg (fun x => [ME.arr _ 5 1 x]) ?_⟩; rw [List.map_append]; congr 1; exact enc_1 r (by omega)) | exact ⟨_, rfl, rfl⟩
  · simp only [decide_eq_false_iff_not, hw] at hc_t7
    refine W.skip ?_
    refine W.then ?_
    refine W.seq ?_
    refine W.region ?_
    refine W.q (Ev.move (.t rfl)) rfl ?_
    refine W.q (Ev.move (.t rfl)) rfl ?_
    refine W.call (c_appendNA v l r hl (by omega) hr) ⟨(.t rfl), (.t rfl), trivial⟩ (.refl _) rfl ?_
    rintro _ _ ⟨v15, rfl, rfl⟩
    refine W.q (Ev.assign (.t rfl)) rfl ?_
    refine W.nil ?_
    refine W.then ?_
    refine W.ret ?_
    refine W.retn (M' := [.arr _ 5 1 _]) (D := []) (rs := [.tmp 4]) (avs := [_]) Tryd.results44 ⟨rfl, trivial⟩ rfl (.refl _) ?_
    first | (refine ⟨_, rfl, congrArg (fun x => [ME.arr _ 5 1 x]) ?_⟩; rw [List.map_append]; congr 1; exact enc_1 r (by omega)) | exact ⟨_, rfl, rfl⟩

theorem c_WriteRune (b : Nat) (p : Option Addr) (v : Value) (l : List UInt8) (hp : p = none ∨ p = some ⟨b, 0, none⟩) (hl : l.length < 17592186044416) (y : Nat) (hy : y ≤ 1114111) : FnC Tryd.prog 28 [.lit (.pointer (some ⟨b, 0, none⟩)), .lit (.int .i32 (y : Int))] [.box b 48 [.lit (.pointer p), .lit v], .arr v 5 1 (l.map AV.u8)] (fun r M => (∃ k, r = .tup [.lit (.int .i64 k), .lit .nilIface]) ∧ ∃ v', M = [.box b 48 [.lit (.pointer (some ⟨b, 0, none⟩)), .lit v'], .arr v' 5 1 ((l ++ enc (y : Int)).map AV.u8)]) :=  by
  refine FnC.mk Tryd.func28 (by kernel_rfl) rfl Tryd.ntmps28 rfl (fun w0 F => ?_)
  have hlm : (l.map AV.u8).length = l.length := List.length_map ..
  have hlm2 : ((l ++ enc (y : Int)).map AV.u8).length = l.length + (enc (y : Int)).length := by simp
  have hel := enc_len (y : Int)
  refine W.seq ?_
  refine W.region ?_
  refine W.q (Ev.assign .k) rfl ?_
  refine W.q (Ev.assign .k) rfl ?_
  refine W.nil ?_
  refine W.then ?_
  refine W.seq ?_
  refine W.region ?_
  refine W.q (Ev.move (.t rfl)) rfl ?_
  refine W.call (WBld.c_copyCheck b v p hp) ⟨(.t rfl), trivial⟩ (.refl _) rfl ?_
  rintro _ _ ⟨rfl, rfl⟩
  refine W.nil ?_
  refine W.then ?_
  refine W.seq ?_
  refine W.region ?_
  refine W.q (Ev.move (.t rfl)) rfl ?_
  refine W.q (Ev.nilc (.t rfl)) rfl ?_
  first | refine W.q (Ev.fae (.t rfl) fa48_1 rfl) rfl ?_ | refine W.q (Ev.fab (.t rfl) fa48_1) rfl ?_ | refine W.q (Ev.faa (.t rfl) fa48_1) rfl ?_
  first | refine W.q (Ev.lde1 (.t rfl) ag46) rfl ?_ | refine W.q (Ev.ldb1 0 (.t rfl) rfl ag46 rfl) rfl ?_ | refine W.q (Ev.ldb1 1 (.t rfl) rfl ag46 rfl) rfl ?_ | refine W.q (Ev.ldb1 2 (.t rfl) rfl ag46 rfl) rfl ?_ | refine W.q (Ev.ldb1 3 (.t rfl) rfl ag46 rfl) rfl ?_
  first | refine W.q (Ev.lensl (.t rfl) Tryd.underlying46) rfl ?_ | refine W.q (Ev.lenar (i := 0) (.t rfl) rfl Tryd.underlying46) rfl ?_ | refine W.q (Ev.lenar (i := 1) (.t rfl) rfl Tryd.underlying46) rfl ?_ | refine W.q (Ev.lenar (i := 2) (.t rfl) rfl Tryd.underlying46) rfl ?_ | refine W.q (Ev.lenar (i := 3) (.t rfl) rfl Tryd.underlying46) rfl ?_
  refine W.q (Ev.assign (.t rfl)) rfl ?_
  refine W.nil ?_
  refine W.then ?_
  refine W.seq ?_
  refine W.region ?_
  refine W.q (Ev.move (.t rfl)) rfl ?_
  refine W.q (Ev.move (.t rfl)) rfl ?_
  refine W.q (Ev.nilc (.t rfl)) rfl ?_
  first | refine W.q (Ev.fae (.t rfl) fa48_1 rfl) rfl ?_ | refine W.q (Ev.fab (.t rfl) fa48_1) rfl ?_ | refine W.q (Ev.faa (.t rfl) fa48_1) rfl ?_
  first | refine W.q (Ev.lde1 (.t rfl) ag46) rfl ?_ | refine W.q (Ev.ldb1 0 (.t rfl) rfl ag46 rfl) rfl ?_ | refine W.q (Ev.ldb1 1 (.t rfl) rfl ag46 rfl) rfl ?_ | refine W.q (Ev.ldb1 2 (.t rfl) rfl ag46 rfl) rfl ?_ | refine W.q (Ev.ldb1 3 (.t rfl) rfl ag46 rfl) rfl ?_
  refine W.q (Ev.move (.t rfl)) rfl ?_
  refine W.call (c_AppendRune v l y (by omega) (by omega)) ⟨(.t rfl), (.t rfl), trivial⟩ (List.Perm.swap _ _ []) rfl ?_
  rintro _ _ ⟨v20, rfl, rfl⟩
  refine W.arr_inv 0 rfl (fun a20 n20 c20 h20 => ?_)
  subst h20
  refine W.q (Ev.nilc (.t rfl)) rfl ?_
  first | refine W.q (Ev.fae (.t rfl) fa48_1 rfl) rfl ?_ | refine W.q (Ev.fab (.t rfl) fa48_1) rfl ?_ | refine W.q (Ev.faa (.t rfl) fa48_1) rfl ?_
  first | refine W.stb 0 (.t rfl) (.t rfl) rfl ty46 rfl rfl rfl ?_ | refine W.stb 1 (.t rfl) (.t rfl) rfl ty46 rfl rfl rfl ?_ | refine W.stb 2 (.t rfl) (.t rfl) rfl ty46 rfl rfl rfl ?_ | refine W.stb 3 (.t rfl) (.t rfl) rfl ty46 rfl rfl rfl ?_
  refine W.nil ?_
  refine W.then ?_
  refine W.seq ?_
  refine W.region ?_
  refine W.q (Ev.move (.t rfl)) rfl ?_
  refine W.q (Ev.nilc (.t rfl)) rfl ?_
  first | refine W.q (Ev.fae (.t rfl) fa48_1 rfl) rfl ?_ | refine W.q (Ev.fab (.t rfl) fa48_1) rfl ?_ | refine W.q (Ev.faa (.t rfl) fa48_1) rfl ?_
  first | refine W.q (Ev.lde1 (.t rfl) ag46) rfl ?_ | refine W.q (Ev.ldb1 0 (.t rfl) rfl ag46 rfl) rfl ?_ | refine W.q (Ev.ldb1 1 (.t rfl) rfl ag46 rfl) rfl ?_ | refine W.q (Ev.ldb1 2 (.t rfl) rfl ag46 rfl) rfl ?_ | refine W.q (Ev.ldb1 3 (.t rfl) rfl ag46 rfl) rfl ?_
  first | refine W.q (Ev.lensl (.t rfl) Tryd.underlying46) rfl ?_ | refine W.q (Ev.lenar (i := 0) (.t rfl) rfl Tryd.underlying46) rfl ?_ | refine W.q (Ev.lenar (i := 1) (.t rfl) rfl Tryd.underlying46) rfl ?_ | refine W.q (Ev.lenar (i := 2) (.t rfl) rfl Tryd.underlying46) rfl ?_ | refine W.q (Ev.lenar (i := 3) (.t rfl) rfl Tryd.underlying46) rfl ?_
  refine W.q (Ev.move (.t rfl)) rfl ?_
  first | refine W.q (Ev.sub (.t rfl) (.t rfl) (fun _ => by omega)) rfl ?_ | refine W.q (Ev.subw (.t rfl) (.t rfl)) rfl ?_
  refine W.q (Ev.assign (.t rfl)) rfl ?_
  refine W.q (Ev.assign .k) rfl ?_
  refine W.nil ?_
  refine W.then ?_
  refine W.ret ?_
  refine W.retn (M' := [.box b 48 _, .arr _ 5 1 _]) (rs := [.tmp 4, .tmp 5]) (avs := [_, _]) Tryd.results28 ⟨rfl, rfl, trivial⟩ rfl (List.Perm.swap _ _ []) ?_
  exact ⟨⟨_, rfl⟩, _, rfl⟩

end WPut2

end Go.Proofs.YtohncieijjhnjaaDoor
end

section
set_option linter.unusedVariables false
set_option linter.unusedSimpArgs false
set_option maxRecDepth 100000
namespace Go.Proofs.YtohncieijjhnjaaDoor
open Go.Vl

namespace WIndex

theorem c_IndexByte0 (l : List UInt8) (c : UInt8) : FnP Tryd.prog 40 [.str l, .lit (.int .u8 (c.toNat : Int))] (.int (idxI (fun b => b == c) l)) :=  by
  refine FnC.mk Tryd.func40 (by kernel_rfl) rfl Tryd.ntmps40 rfl (fun w0 F => ?_)
  refine W.seq ?_
  refine W.region ?_
  refine W.q (Ev.assign .k) rfl ?_
  refine W.nil ?_
  refine W.then ?_
  refine W.seq ?_
  refine W.region ?_
  refine W.q (Ev.move (.t rfl)) rfl ?_
  refine W.q (Ev.move (.t rfl)) rfl ?_
  refine W.q (Ev.ixb (fn := Tryd.f54) Tryd.func54 rfl rfl rfl rfl (.t rfl) (.t rfl)) rfl ?_
  refine W.q (Ev.assign (.t rfl)) rfl ?_
  refine W.nil ?_
  refine W.then ?_
  refine W.ret ?_
  refine W.retn (M' := []) (rs := [.tmp 4]) (avs := [_]) Tryd.results40 ⟨rfl, trivial⟩ rfl (.refl _) ?_
  exact ⟨rfl, rfl⟩

theorem c_IndexByte (l : List UInt8) (c : UInt8) : FnP Tryd.prog 26 [.str l, .lit (.int .u8 (c.toNat : Int))] (.int (idxI (fun b => b == c) l)) :=  by
  refine FnC.mk Tryd.func26 (by kernel_rfl) rfl Tryd.ntmps26 rfl (fun w0 F => ?_)
  refine W.seq ?_
  refine W.region ?_
  refine W.q (Ev.assign .k) rfl ?_
  refine W.nil ?_
  refine W.then ?_
  refine W.seq ?_
  refine W.region ?_
  refine W.q (Ev.move (.t rfl)) rfl ?_
  refine W.q (Ev.move (.t rfl)) rfl ?_
  refine W.callp (c_IndexByte0 l c) ⟨(.t rfl), (.t rfl), trivial⟩ rfl ?_
  refine W.q (Ev.assign (.t rfl)) rfl ?_
  refine W.nil ?_
  refine W.then ?_
  refine W.ret ?_
  refine W.retn (M' := []) (rs := [.tmp 4]) (avs := [_]) Tryd.results26 ⟨rfl, trivial⟩ rfl (.refl _) ?_
  exact ⟨rfl, rfl⟩

end WIndex

end Go.Proofs.YtohncieijjhnjaaDoor
end

section
set_option linter.unusedVariables false
set_option linter.unusedSimpArgs false
set_option maxRecDepth 100000
namespace Go.Proofs.YtohncieijjhnjaaDoor
open Go.Vl

namespace WAny

theorem at_pms (p : Nat) (h : p < 3) : (dec (List.drop p ([43, 45, 95] : List UInt8))).2 = 1 ∧ (dec (List.drop p ([43, 45, 95] : List UInt8))).1 < 96 := by
  rcases (show p = 0 ∨ p = 1 ∨ p = 2 by omega) with rfl | rfl | rfl <;> decide
theorem idx_hi (l : List UInt8) (b : UInt8) (h : ∀ c ∈ l, c.toNat < 128) (hb : 128 ≤ b.toNat) : idxI (fun c => c == b) l = -1 := by
  induction l with
  | nil => rfl
  | cons c r ih =>
    have h0 := h c List.mem_cons_self
    have h1 : (c == b) = false := by rw [beq_eq_false_iff_ne]; rintro rfl; omega
    have h2 := ih (fun c hc => h c (List.mem_cons_of_mem _ hc))
    simp [idxI, h1, h2]
theorem at_enc (A : List UInt8) (b : UInt8) : (A ++ [b]).getD A.length 0 = b := by
  rw [List.getD_eq_getElem?_getD, List.getElem?_append_right (Nat.le_refl _), Nat.sub_self]; rfl

theorem c_IndexRune (r : Nat) (hr : r ≤ 1114111) : FnC Tryd.prog 61 [.str [43, 45, 95], .lit (.int .i32 (r : Int))] [] (fun r' M => M = [] ∧ ∃ k : Int, r' = .int k ∧ decide (0 ≤ k) = decide (r = 43 ∨ r = 45 ∨ r = 95)) :=  by
  refine FnC.mk Tryd.func61 (by kernel_rfl) rfl Tryd.ntmps61 rfl (fun w0 F => ?_)
  have hV := WPut2.c_ValidRune (r : Int)
  refine W.seq ?_
  refine W.region ?_
  refine W.q (Ev.assign .k) rfl ?_
  refine W.nil ?_
  refine W.then ?_
  refine W.block ?_
  refine W.seq ?_
  refine W.region ?_
  refine W.q (Ev.move (.t rfl)) rfl ?_
  refine W.q (Ev.lei .k (.t rfl)) rfl ?_
  refine W.q (Ev.move (.t rfl)) rfl ?_
  refine W.qgT rfl rfl (Ev.move (.t rfl)) rfl ?_
  refine W.qgT rfl rfl (Ev.lti (.c rfl) .k) rfl ?_
  refine W.q (Ev.and (.t rfl) ⟨_, _, rfl, rfl, by first | (simp; done) | (intro hg_ hp_; simp [hp_]; done) | (simp <;> omega; done) | (simp_all; done) | grind⟩) rfl ?_
  refine W.q (Ev.assign (.t rfl)) rfl ?_
  refine W.nil ?_
  refine W.then ?_
  refine W.cond (.t rfl) (fun hc_t160 => ?_) (fun hc_t160 => ?_)
  · have h128 : r < 128 := by simp only [Bool.and_eq_true, decide_eq_true_eq] at hc_t160; omega
    refine W.seq ?_
    refine W.region ?_
    refine W.q (Ev.move (.t rfl)) rfl ?_
    refine W.q (Ev.move (.t rfl)) rfl ?_
    refine W.q (Ev.conv (.t rfl) ⟨_, Tryd.underlying21⟩ Tryd.underlying5) rfl ?_
    refine W.is (t := 169) (g := true) (av' := AV.u8 (o8 r)) rfl (congrArg (fun z => AV.lit (.int .u8 z)) (by rw [o8_toNat _ (by omega), IntKind.wrap_u8]; omega)) ?_
    refine W.callp (WIndex.c_IndexByte [43, 45, 95] (o8 r)) ⟨(.t rfl), (.t rfl), trivial⟩ rfl ?_
    refine W.q (Ev.assign (.t rfl)) rfl ?_
    refine W.nil ?_
    refine W.then ?_
    refine W.ret ?_
    refine W.blk_ret ?_
    refine W.retn (M' := []) (D := _) (rs := [.tmp 4]) (avs := [_]) Tryd.results61 ⟨rfl, trivial⟩ rfl (.refl _) ?_
    first | exact ⟨rfl, _, rfl, by rw [h533]; decide⟩ | exact ⟨rfl, _, rfl, by rw [decide_eq_false (show ¬ (r = 43 ∨ r = 45 ∨ r = 95) by omega)]; decide⟩ | (refine ⟨rfl, _, rfl, ?_⟩; exact (by decide : ∀ r : Fin 128, decide (0 ≤ idxI (fun b => b == o8 r.val) [43, 45, 95]) = decide (r.val = 43 ∨ r.val = 45 ∨ r.val = 95)) ⟨r, h128⟩)
  · have h128 : 128 ≤ r := by simp at hc_t160; omega
    refine W.seq ?_
    refine W.region ?_
    refine W.q (Ev.move (.t rfl)) rfl ?_
    refine W.q (Ev.eqi (.t rfl) .k) rfl ?_
    refine W.q (Ev.assign (.t rfl)) rfl ?_
    refine W.nil ?_
    refine W.then ?_
    refine W.cond (.t rfl) (fun hc_t171 => ?_) (fun hc_t171 => ?_)
    · have h533 : r = 65533 := by have h := eq_of_beq hc_t171; omega
      refine W.seq ?_
      refine W.seq ?_
      refine W.region ?_
      refine W.q (Ev.move (.t rfl)) rfl ?_
      refine W.rng (.t rfl) Tryd.underlying9 rfl ?_
      intro b175
      refine W.nil ?_
      refine W.then ?_
      refine W.block ?_
      refine W.loop (D := []) (ι := Nat) (fun pz => [(175, true, .lit (.pointer (some ⟨b175, 0, none⟩))), (0, true, .str [43, 45, 95])]) (fun pz => [.obj b175 (.stringIter ⟨#[43, 45, 95]⟩ pz)]) (fun pz => pz ≤ 3) (fun pz => 3 - pz) 0 ⟨rfl, rfl, trivial⟩ (.refl _) (Nat.zero_le _) ?_
      intro pz hpz
      dsimp only at hpz ⊢
      by_cases hp : pz < 3
      · have hat := at_pms pz hp
        refine W.seq ?_
        refine W.region ?_
        first | refine W.nxtT 0 (.t rfl) rfl (by omega) rfl ?_ | refine W.nxtF 0 (.t rfl) rfl (by omega) rfl ?_ | refine W.nxtT 1 (.t rfl) rfl (by omega) rfl ?_ | refine W.nxtF 1 (.t rfl) rfl (by omega) rfl ?_ | refine W.nxtT 2 (.t rfl) rfl (by omega) rfl ?_ | refine W.nxtF 2 (.t rfl) rfl (by omega) rfl ?_ | refine W.nxtT 3 (.t rfl) rfl (by omega) rfl ?_ | refine W.nxtF 3 (.t rfl) rfl (by omega) rfl ?_
        refine W.q (Ev.extract (.t rfl) rfl) rfl ?_
        refine W.nil ?_
        refine W.then ?_
        refine W.seq ?_
        refine W.condT (.t rfl) ?_
        refine W.skip ?_
        refine W.then ?_
        refine W.block ?_
        refine W.seq ?_
        refine W.region ?_
        refine W.q (Ev.extract (.t rfl) rfl) rfl ?_
        refine W.q (Ev.extract (.t rfl) rfl) rfl ?_
        refine W.q (Ev.assign (.t rfl)) rfl ?_
        refine W.q (Ev.assign (.t rfl)) rfl ?_
        refine W.nil ?_
        refine W.then ?_
        refine W.seq ?_
        refine W.region ?_
        refine W.q (Ev.move (.t rfl)) rfl ?_
        refine W.q (Ev.eqi (.t rfl) .k) rfl ?_
        refine W.nil ?_
        refine W.then ?_
        refine W.is (t := 181) (g := true) (av' := .lit (.bool false)) rfl (congrArg (fun b => AV.lit (.bool b)) (by have := at_pms pz hp; simp; omega)) ?_
        refine W.condF (.t rfl) ?_
        refine W.skip ?_
        refine W.blk_normal ?_
        refine W.then ?_
        refine W.reach (D := []) (pz + 1) ⟨rfl, rfl, trivial⟩ (by rw [← hat.1]; exact .refl _) ⟨by omega, by omega⟩
      · skip
        refine W.seq ?_
        refine W.region ?_
        first | refine W.nxtT 0 (.t rfl) rfl (by omega) rfl ?_ | refine W.nxtF 0 (.t rfl) rfl (by omega) rfl ?_ | refine W.nxtT 1 (.t rfl) rfl (by omega) rfl ?_ | refine W.nxtF 1 (.t rfl) rfl (by omega) rfl ?_ | refine W.nxtT 2 (.t rfl) rfl (by omega) rfl ?_ | refine W.nxtF 2 (.t rfl) rfl (by omega) rfl ?_ | refine W.nxtT 3 (.t rfl) rfl (by omega) rfl ?_ | refine W.nxtF 3 (.t rfl) rfl (by omega) rfl ?_
        refine W.q (Ev.extract (.t rfl) rfl) rfl ?_
        refine W.nil ?_
        refine W.then ?_
        refine W.seq ?_
        refine W.condF (.t rfl) ?_
        refine W.exit ?_
        refine W.then_exit ?_
        refine W.then_exit ?_
        refine W.blk_hit ?_
        refine W.then ?_
        refine W.seq ?_
        refine W.region ?_
        refine W.q (Ev.assign .k) rfl ?_
        refine W.nil ?_
        refine W.then ?_
        refine W.ret ?_
        refine W.blk_ret ?_
        refine W.retn (M' := []) (D := _) (rs := [.tmp 4]) (avs := [_]) Tryd.results61 ⟨rfl, trivial⟩ rfl (.refl _) ?_
        first | exact ⟨rfl, _, rfl, by rw [h533]; decide⟩ | exact ⟨rfl, _, rfl, by rw [decide_eq_false (show ¬ (r = 43 ∨ r = 45 ∨ r = 95) by omega)]; decide⟩ | (refine ⟨rfl, _, rfl, ?_⟩; exact (by decide : ∀ r : Fin 128, decide (0 ≤ idxI (fun b => b == o8 r.val) [43, 45, 95]) = decide (r.val = 43 ∨ r.val = 45 ∨ r.val = 95)) ⟨r, h128⟩)
    · have h533 : ¬ r = 65533 := by have h := beq_eq_false_iff_ne.1 hc_t171; omega
      refine W.seq ?_
      refine W.region ?_
      refine W.q (Ev.move (.t rfl)) rfl ?_
      refine W.callp (hV) ⟨(.t rfl), trivial⟩ rfl ?_
      refine W.q (Ev.not (.t rfl)) rfl ?_
      refine W.q (Ev.assign (.t rfl)) rfl ?_
      refine W.nil ?_
      refine W.then ?_
      refine W.cond (.t rfl) (fun hc_t183 => ?_) (fun hc_t183 => ?_)
      · skip
        refine W.seq ?_
        refine W.region ?_
        refine W.q (Ev.assign .k) rfl ?_
        refine W.nil ?_
        refine W.then ?_
        refine W.ret ?_
        refine W.blk_ret ?_
        refine W.retn (M' := []) (D := _) (rs := [.tmp 4]) (avs := [_]) Tryd.results61 ⟨rfl, trivial⟩ rfl (.refl _) ?_
        first | exact ⟨rfl, _, rfl, by rw [h533]; decide⟩ | exact ⟨rfl, _, rfl, by rw [decide_eq_false (show ¬ (r = 43 ∨ r = 45 ∨ r = 95) by omega)]; decide⟩ | (refine ⟨rfl, _, rfl, ?_⟩; exact (by decide : ∀ r : Fin 128, decide (0 ≤ idxI (fun b => b == o8 r.val) [43, 45, 95]) = decide (r.val = 43 ∨ r.val = 45 ∨ r.val = 95)) ⟨r, h128⟩)
      · obtain ⟨A, b, hen, hA1, hA3, hb⟩ := Une.enc_last r ⟨h128, hr⟩
        have hAl : (A ++ [b]).length = A.length + 1 := by simp
        have h3l : ([43, 45, 95] : List UInt8).length = 3 := rfl
        refine W.scope ?_
        refine W.seq ?_
        refine W.region ?_
        refine W.q (Ev.move (.t rfl)) rfl ?_
        refine W.q (Ev.r2s (.t rfl) Tryd.underlying21 Tryd.underlying9) rfl ?_
        refine W.is (t := 18) (g := true) (av' := .str (A ++ [b])) rfl (congrArg AV.str hen) ?_
        refine W.q (Ev.assign (.t rfl)) rfl ?_
        refine W.nil ?_
        refine W.then ?_
        refine W.seq ?_
        refine W.region ?_
        refine W.q (Ev.move (.t rfl)) rfl ?_
        refine W.q (Ev.lens (.t rfl) Tryd.underlying9) rfl ?_
        first | refine W.q (Ev.sub (.t rfl) .k (fun _ => by omega)) rfl ?_ | refine W.q (Ev.subw (.t rfl) .k) rfl ?_
        refine W.is (t := 21) (g := true) (av' := .int ((A.length : Nat) : Int)) rfl (congrArg AV.int (by omega)) ?_
        refine W.q (Ev.assign (.t rfl)) rfl ?_
        refine W.nil ?_
        refine W.then ?_
        refine W.seq ?_
        refine W.region ?_
        refine W.q (Ev.move (.t rfl)) rfl ?_
        refine W.q (Ev.assign (.t rfl)) rfl ?_
        refine W.nil ?_
        refine W.then ?_
        refine W.seq ?_
        refine W.region ?_
        refine W.q (Ev.assign .k) rfl ?_
        refine W.nil ?_
        refine W.then ?_
        refine W.seq ?_
        refine W.block ?_
        have hgb : (A ++ [b]).getD ((A.length : Nat) : Int).toNat 0 = b := by rw [Int.toNat_natCast]; exact at_enc A b
        have hpm : ∀ c ∈ ([43, 45, 95] : List UInt8), c.toNat < 128 := by decide
        refine W.loop (D := []) (ι := Unit) (fun _ => [(9, true, .int ((A.length : Nat) : Int)), (8, true, .int ((A.length : Nat) : Int)), (7, true, .str (A ++ [b])), (0, true, .str [43, 45, 95])]) (fun _ => []) (fun _ => True) (fun _ => 0) () ⟨rfl, rfl, rfl, rfl, trivial⟩ (.refl _) trivial ?_
        intro _ _
        dsimp only
        rcases (show A.length < 3 ∨ A.length = 3 by omega) with hlt | hend
        · skip
          refine W.seq ?_
          refine W.seq ?_
          refine W.region ?_
          refine W.q (Ev.move (.t rfl)) rfl ?_
          refine W.q (Ev.move (.t rfl)) rfl ?_
          refine W.q (Ev.lens (.t rfl) Tryd.underlying9) rfl ?_
          refine W.q (Ev.lti (.t rfl) (.t rfl)) rfl ?_
          refine W.nil ?_
          refine W.then ?_
          refine W.is (t := 26) (g := true) (av' := .lit (.bool true)) rfl (congrArg (fun b => AV.lit (.bool b)) (by exact decide_eq_true (by show ((A.length : Nat) : Int) < 3; omega))) ?_
          refine W.condT (.t rfl) ?_
          refine W.skip ?_
          refine W.then ?_
          refine W.block ?_
          refine W.scope ?_
          refine W.seq ?_
          refine W.seq ?_
          refine W.drawn (by kernel_rfl) (by kernel_rfl) ?_
          refine DP.q (Ev.move (.t rfl)) rfl ?_
          refine DP.q (Ev.move (.t rfl)) rfl ?_
          refine DP.q (Ev.ats' (.t rfl) (.t rfl) Tryd.underlying9 (fun hg => by first | omega | (simp at hg; omega))) rfl ?_
          refine DP.q (Ev.move (.t rfl)) rfl ?_
          refine DP.q (Ev.move (.t rfl)) rfl ?_
          refine DP.q (Ev.ats' (.t rfl) (.t rfl) Tryd.underlying9 (fun hg => by first | omega | (simp at hg; omega))) rfl ?_
          refine DP.q (Ev.nei (.t rfl) (.t rfl)) rfl ?_
          refine DP.nil ?_
          refine W.then ?_
          refine W.is (t := 33) (g := true) (av' := .lit (.bool true)) rfl (congrArg (fun b => AV.lit (.bool b)) (by rw [hgb]; have h0 := hpm _ (getD_memG 0 [43, 45, 95] A.length hlt); rw [Int.toNat_natCast]; simp only [bne_iff_ne, ne_eq]; omega)) ?_
          refine W.condT (.t rfl) ?_
          refine W.seq ?_
          refine W.drawn (by kernel_rfl) (by kernel_rfl) ?_
          refine DP.q (Ev.move (.t rfl)) rfl ?_
          refine DP.q (Ev.move (.t rfl)) rfl ?_
          first | refine DP.q (Ev.add (.t rfl) .k (fun _ => by omega)) rfl ?_ | refine DP.q (Ev.addw (.t rfl) .k) rfl ?_
          refine DP.q (Ev.subs (lo := some (.tmp 36)) (hi := none) (.t rfl) Tryd.underlying9 (.t rfl) rfl (fun _ => by omega)) rfl ?_
          refine DP.q (Ev.move (.t rfl)) rfl ?_
          refine DP.q (Ev.move (.t rfl)) rfl ?_
          refine DP.q (Ev.ats' (.t rfl) (.t rfl) Tryd.underlying9 (fun hg => by first | omega | (simp at hg; omega))) rfl ?_
          refine DP.callp (WIndex.c_IndexByte _ _) ⟨(.t rfl), (.t rfl), trivial⟩ rfl ?_
          refine DP.q (Ev.assign (.t rfl)) rfl ?_
          refine DP.nil ?_
          refine W.then ?_
          refine W.seq ?_
          refine W.seq ?_
          refine W.region ?_
          refine W.q (Ev.move (.t rfl)) rfl ?_
          refine W.q (Ev.lti (.t rfl) .k) rfl ?_
          refine W.nil ?_
          refine W.then ?_
          refine W.is (t := 43) (g := true) (av' := .lit (.bool true)) rfl (congrArg (fun b => AV.lit (.bool b)) (by rw [idx_hi _ _ (fun c hc => hpm c (by first | exact List.mem_of_mem_drop hc | exact List.mem_of_mem_take (List.mem_of_mem_drop hc))) (by rw [hgb]; exact hb)]; decide)) ?_
          refine W.condT (.t rfl) ?_
          refine W.seq ?_
          refine W.region ?_
          refine W.q (Ev.assign .k) rfl ?_
          refine W.nil ?_
          refine W.then ?_
          refine W.ret ?_
          refine W.then_ret ?_
          refine W.then_ret ?_
          refine W.sc_ret ?_
          refine W.blk_ret ?_
          refine W.then_ret ?_
          refine W.blk_ret ?_
          refine W.then_ret ?_
          refine W.sc_ret ?_
          refine W.blk_ret ?_
          refine W.retn (M' := []) (D := _) (rs := [.tmp 4]) (avs := [_]) Tryd.results61 ⟨rfl, trivial⟩ rfl (.refl _) ?_
          first | exact ⟨rfl, _, rfl, by rw [h533]; decide⟩ | exact ⟨rfl, _, rfl, by rw [decide_eq_false (show ¬ (r = 43 ∨ r = 45 ∨ r = 95) by omega)]; decide⟩ | (refine ⟨rfl, _, rfl, ?_⟩; exact (by decide : ∀ r : Fin 128, decide (0 ≤ idxI (fun b => b == o8 r.val) [43, 45, 95]) = decide (r.val = 43 ∨ r.val = 45 ∨ r.val = 95)) ⟨r, h128⟩)
        · skip
          refine W.seq ?_
          refine W.seq ?_
          refine W.region ?_
          refine W.q (Ev.move (.t rfl)) rfl ?_
          refine W.q (Ev.move (.t rfl)) rfl ?_
          refine W.q (Ev.lens (.t rfl) Tryd.underlying9) rfl ?_
          refine W.q (Ev.lti (.t rfl) (.t rfl)) rfl ?_
          refine W.nil ?_
          refine W.then ?_
          refine W.is (t := 26) (g := true) (av' := .lit (.bool false)) rfl (congrArg (fun b => AV.lit (.bool b)) (by exact decide_eq_false (by show ¬ ((A.length : Nat) : Int) < 3; omega))) ?_
          refine W.condF (.t rfl) ?_
          refine W.exit ?_
          refine W.then_exit ?_
          refine W.then_exit ?_
          refine W.blk_hit ?_
          refine W.then ?_
          refine W.seq ?_
          refine W.seq ?_
          refine W.region ?_
          refine W.q (Ev.assign .k) rfl ?_
          refine W.nil ?_
          refine W.then ?_
          refine W.ret ?_
          refine W.then_ret ?_
          refine W.sc_ret ?_
          refine W.blk_ret ?_
          refine W.retn (M' := []) (D := _) (rs := [.tmp 4]) (avs := [_]) Tryd.results61 ⟨rfl, trivial⟩ rfl (.refl _) ?_
          first | exact ⟨rfl, _, rfl, by rw [h533]; decide⟩ | exact ⟨rfl, _, rfl, by rw [decide_eq_false (show ¬ (r = 43 ∨ r = 45 ∨ r = 95) by omega)]; decide⟩ | (refine ⟨rfl, _, rfl, ?_⟩; exact (by decide : ∀ r : Fin 128, decide (0 ≤ idxI (fun b => b == o8 r.val) [43, 45, 95]) = decide (r.val = 43 ∨ r.val = 45 ∨ r.val = 95)) ⟨r, h128⟩)

end WAny

end Go.Proofs.YtohncieijjhnjaaDoor
end

section
set_option linter.unusedVariables false
set_option linter.unusedSimpArgs false
set_option maxRecDepth 100000
namespace Go.Proofs.YtohncieijjhnjaaDoor
open Go.Vl

namespace WIxAny

theorem sgn_here (s : List UInt8) (p : Nat) (hp : p < s.length) (h : (dec (s.drop p)).1 = 43 ∨ (dec (s.drop p)).1 = 45 ∨ (dec (s.drop p)).1 = 95) : s.any Une.sgn = true := by
  obtain ⟨_, b, hb, hv⟩ := Une.dec_asc (s.drop p) (by intro e; have := congrArg List.length e; simp at this; omega) (by omega)
  have hm : b ∈ s := List.mem_of_mem_drop (List.mem_of_mem_take (by rw [hb]; exact List.mem_cons_self))
  rw [hv] at h
  refine List.any_eq_true.2 ⟨b, hm, ?_⟩
  rcases h with h | h | h
  · rw [show b = 43 from UInt8.toNat_inj.1 h]; rfl
  · rw [show b = 45 from UInt8.toNat_inj.1 h]; rfl
  · rw [show b = 95 from UInt8.toNat_inj.1 h]; rfl
theorem sgn_step (s : List UInt8) (p : Nat) (hp : p < s.length) (h : ¬ ((dec (s.drop p)).1 = 43 ∨ (dec (s.drop p)).1 = 45 ∨ (dec (s.drop p)).1 = 95)) (h0 : (s.take p).any Une.sgn = false) : (s.take (p + (dec (s.drop p)).2)).any Une.sgn = false := by
  have hne : s.drop p ≠ [] := by intro e; have := congrArg List.length e; simp at this; omega
  rw [List.take_add, List.any_append, h0, Bool.false_or]
  by_cases h1 : (dec (s.drop p)).1 < 128
  · obtain ⟨hw, b, hb, hv⟩ := Une.dec_asc (s.drop p) hne h1
    rw [hw, hb]
    rw [hv] at h
    cases hs : Une.sgn b with
    | false => simp [hs]
    | true =>
      exfalso; apply h
      simp only [Une.sgn, Bool.or_eq_true, beq_iff_eq] at hs
      rcases hs with (rfl | rfl) | rfl
      · exact .inl rfl
      · exact .inr (.inl rfl)
      · exact .inr (.inr rfl)
  · exact Une.dec_sgn _ hne (by omega)

theorem c_should (n : Int) : FnP Tryd.prog 81 [.int n] (.bool (decide (8 < n))) :=  by
  refine FnC.mk Tryd.func81 (by kernel_rfl) rfl Tryd.ntmps81 rfl (fun w0 F => ?_)
  refine W.seq ?_
  refine W.region ?_
  refine W.q (Ev.assign .k) rfl ?_
  refine W.nil ?_
  refine W.then ?_
  refine W.seq ?_
  refine W.region ?_
  refine W.q (Ev.move (.t rfl)) rfl ?_
  refine W.q (Ev.gti (.t rfl) .k) rfl ?_
  refine W.q (Ev.assign (.t rfl)) rfl ?_
  refine W.nil ?_
  refine W.then ?_
  refine W.ret ?_
  refine W.retn (M' := []) (rs := [.tmp 2]) (avs := [_]) Tryd.results81 ⟨rfl, trivial⟩ rfl (.refl _) ?_
  exact ⟨rfl, rfl⟩

theorem c_IndexAny (s : List UInt8) (hs : s.length ≤ 7) : FnC Tryd.prog 70 [.str s, .str [43, 45, 95]] [] (fun r M => M = [] ∧ ∃ k : Int, r = .int k ∧ decide (0 ≤ k) = s.any Une.sgn) :=  by
  refine FnC.mk Tryd.func70 (by kernel_rfl) rfl Tryd.ntmps70 rfl (fun w0 F => ?_)
  refine W.seq ?_
  refine W.region ?_
  refine W.q (Ev.assign .k) rfl ?_
  refine W.nil ?_
  refine W.then ?_
  refine W.seq ?_
  refine W.seq ?_
  refine W.region ?_
  refine W.q (Ev.move (.t rfl)) rfl ?_
  refine W.q (Ev.eqs (.t rfl) .k) rfl ?_
  refine W.nil ?_
  refine W.then ?_
  refine W.is (t := 12) (g := true) (av' := .lit (.bool false)) rfl (congrArg (fun b => AV.lit (.bool b)) (by decide)) ?_
  refine W.condF (.t rfl) ?_
  refine W.skip ?_
  refine W.then ?_
  refine W.seq ?_
  refine W.seq ?_
  refine W.region ?_
  refine W.q (Ev.move (.t rfl)) rfl ?_
  refine W.q (Ev.lens (.t rfl) Tryd.underlying9) rfl ?_
  refine W.q (Ev.eqi (.t rfl) .k) rfl ?_
  refine W.nil ?_
  refine W.then ?_
  refine W.is (t := 15) (g := true) (av' := .lit (.bool false)) rfl (congrArg (fun b => AV.lit (.bool b)) (by decide)) ?_
  refine W.condF (.t rfl) ?_
  refine W.skip ?_
  refine W.then ?_
  refine W.seq ?_
  refine W.seq ?_
  refine W.region ?_
  refine W.q (Ev.move (.t rfl)) rfl ?_
  refine W.q (Ev.lens (.t rfl) Tryd.underlying9) rfl ?_
  refine W.callp (c_should _) ⟨(.t rfl), trivial⟩ rfl ?_
  refine W.nil ?_
  refine W.then ?_
  refine W.is (t := 26) (g := true) (av' := .lit (.bool false)) rfl (congrArg (fun b => AV.lit (.bool b)) (by exact decide_eq_false (by omega))) ?_
  refine W.condF (.t rfl) ?_
  refine W.skip ?_
  refine W.then ?_
  refine W.seq ?_
  refine W.seq ?_
  refine W.region ?_
  refine W.q (Ev.move (.t rfl)) rfl ?_
  refine W.rng (.t rfl) Tryd.underlying9 rfl ?_
  intro b45
  refine W.nil ?_
  refine W.then ?_
  refine W.block ?_
  refine W.loop (D := []) (ι := Nat) (fun pz => [(45, true, .lit (.pointer (some ⟨b45, 0, none⟩))), (1, true, .str [43, 45, 95])]) (fun pz => [.obj b45 (.stringIter ⟨s.toArray⟩ pz)]) (fun pz => pz ≤ s.length ∧ (s.take pz).any Une.sgn = false) (fun pz => s.length - pz) 0 ⟨rfl, rfl, trivial⟩ (.refl _) ⟨Nat.zero_le _, rfl⟩ ?_
  rintro pz ⟨hpz, hz⟩
  dsimp only at hpz hz ⊢
  have hle := dec_le (s.drop pz)
  by_cases hp : pz < s.length
  · have hw := dec_width (s.drop pz) (by intro e; have := congrArg List.length e; simp at this; omega)
    rw [List.length_drop] at hw
    refine W.seq ?_
    refine W.region ?_
    first | refine W.nxtT 0 (.t rfl) rfl (by omega) rfl ?_ | refine W.nxtF 0 (.t rfl) rfl (by omega) rfl ?_ | refine W.nxtT 1 (.t rfl) rfl (by omega) rfl ?_ | refine W.nxtF 1 (.t rfl) rfl (by omega) rfl ?_ | refine W.nxtT 2 (.t rfl) rfl (by omega) rfl ?_ | refine W.nxtF 2 (.t rfl) rfl (by omega) rfl ?_ | refine W.nxtT 3 (.t rfl) rfl (by omega) rfl ?_ | refine W.nxtF 3 (.t rfl) rfl (by omega) rfl ?_
    refine W.q (Ev.extract (.t rfl) rfl) rfl ?_
    refine W.nil ?_
    refine W.then ?_
    refine W.seq ?_
    refine W.condT (.t rfl) ?_
    refine W.skip ?_
    refine W.then ?_
    refine W.block ?_
    refine W.seq ?_
    refine W.region ?_
    refine W.q (Ev.extract (.t rfl) rfl) rfl ?_
    refine W.q (Ev.extract (.t rfl) rfl) rfl ?_
    refine W.q (Ev.assign (.t rfl)) rfl ?_
    refine W.q (Ev.assign (.t rfl)) rfl ?_
    refine W.nil ?_
    refine W.then ?_
    refine W.seq ?_
    refine W.region ?_
    refine W.q (Ev.move (.t rfl)) rfl ?_
    refine W.q (Ev.move (.t rfl)) rfl ?_
    refine W.call (WAny.c_IndexRune (dec (s.drop pz)).1 hle) ⟨(.t rfl), (.t rfl), trivial⟩ (.refl _) rfl ?_
    rintro _ _ ⟨rfl, k52, rfl, hk52⟩
    refine W.q (Ev.gei (.t rfl) .k) rfl ?_
    refine W.nil ?_
    refine W.then ?_
    refine W.cond (.t rfl) (fun hc_t53 => ?_) (fun hc_t53 => ?_)
    · have h52 := of_decide_eq_true (hk52.symm.trans hc_t53)
      have hany := sgn_here s pz hp h52
      refine W.seq ?_
      refine W.region ?_
      refine W.q (Ev.move (.t rfl)) rfl ?_
      refine W.q (Ev.assign (.t rfl)) rfl ?_
      refine W.nil ?_
      refine W.then ?_
      refine W.ret ?_
      refine W.blk_ret ?_
      refine W.then_ret ?_
      refine W.blk_ret ?_
      refine W.then_ret ?_
      refine W.retn (M' := []) (D := _) (rs := [.tmp 4]) (avs := [_]) Tryd.results70 ⟨rfl, trivial⟩ rfl (.refl _) ?_
      first | exact ⟨rfl, _, rfl, by rw [hz]; decide⟩ | exact ⟨rfl, _, rfl, by rw [hany]; exact decide_eq_true (by omega)⟩
    · have h52 := of_decide_eq_false (hk52.symm.trans hc_t53)
      have hno := sgn_step s pz hp h52 hz
      refine W.skip ?_
      refine W.blk_normal ?_
      refine W.then ?_
      refine W.reach (D := []) (pz + (dec (s.drop pz)).2) ⟨rfl, rfl, trivial⟩ (.refl _) ⟨⟨by omega, hno⟩, by show s.length - (pz + _) < s.length - pz; omega⟩
  · rw [List.take_of_length_le (by omega)] at hz
    refine W.seq ?_
    refine W.region ?_
    first | refine W.nxtT 0 (.t rfl) rfl (by omega) rfl ?_ | refine W.nxtF 0 (.t rfl) rfl (by omega) rfl ?_ | refine W.nxtT 1 (.t rfl) rfl (by omega) rfl ?_ | refine W.nxtF 1 (.t rfl) rfl (by omega) rfl ?_ | refine W.nxtT 2 (.t rfl) rfl (by omega) rfl ?_ | refine W.nxtF 2 (.t rfl) rfl (by omega) rfl ?_ | refine W.nxtT 3 (.t rfl) rfl (by omega) rfl ?_ | refine W.nxtF 3 (.t rfl) rfl (by omega) rfl ?_
    refine W.q (Ev.extract (.t rfl) rfl) rfl ?_
    refine W.nil ?_
    refine W.then ?_
    refine W.seq ?_
    refine W.condF (.t rfl) ?_
    refine W.exit ?_
    refine W.then_exit ?_
    refine W.then_exit ?_
    refine W.blk_hit ?_
    refine W.then ?_
    refine W.seq ?_
    refine W.region ?_
    refine W.q (Ev.assign .k) rfl ?_
    refine W.nil ?_
    refine W.then ?_
    refine W.ret ?_
    refine W.retn (M' := []) (D := _) (rs := [.tmp 4]) (avs := [_]) Tryd.results70 ⟨rfl, trivial⟩ rfl (.refl _) ?_
    first | exact ⟨rfl, _, rfl, by rw [hz]; decide⟩ | exact ⟨rfl, _, rfl, by rw [hany]; exact decide_eq_true (by omega)⟩

theorem c_ContainsAny (s : List UInt8) (hs : s.length ≤ 7) : FnP Tryd.prog 56 [.str s, .str [43, 45, 95]] (.bool (s.any Une.sgn)) :=  by
  refine FnC.mk Tryd.func56 (by kernel_rfl) rfl Tryd.ntmps56 rfl (fun w0 F => ?_)
  refine W.seq ?_
  refine W.region ?_
  refine W.q (Ev.assign .k) rfl ?_
  refine W.nil ?_
  refine W.then ?_
  refine W.seq ?_
  refine W.region ?_
  refine W.q (Ev.move (.t rfl)) rfl ?_
  refine W.q (Ev.move (.t rfl)) rfl ?_
  refine W.call (c_IndexAny s hs) ⟨(.t rfl), (.t rfl), trivial⟩ (.refl _) rfl ?_
  rintro _ _ ⟨rfl, k7, rfl, hk7⟩
  refine W.q (Ev.gei (.t rfl) .k) rfl ?_
  refine W.q (Ev.assign (.t rfl)) rfl ?_
  refine W.nil ?_
  refine W.then ?_
  refine W.ret ?_
  refine W.retn (M' := []) (D := _) (rs := [.tmp 4]) (avs := [_]) Tryd.results56 ⟨rfl, trivial⟩ rfl (.refl _) ?_
  exact ⟨congrArg AV.bool hk7, rfl⟩

end WIxAny

end Go.Proofs.YtohncieijjhnjaaDoor
end
