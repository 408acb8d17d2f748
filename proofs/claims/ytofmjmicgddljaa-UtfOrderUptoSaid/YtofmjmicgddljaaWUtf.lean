/-
  The functions of package utf.
-/
import Derived.Test.YtofmjmicgddljaaEnc
import Derived.Test.YtofmjmicgddljaaBase
set_option linter.unusedVariables false
set_option linter.unusedSimpArgs false
set_option maxRecDepth 100000
namespace Go.Proofs.Ytofmjmicgddljaa
open Go.Vl

namespace WUtf
theorem ty3 : Ty Try.prog 3 1 8 (.int .i64 0) := Ty.of (by kernel_rfl)
theorem ty5 : Ty Try.prog 5 1 1 (.int .u8 0) := Ty.of (by kernel_rfl)
theorem ni22 : NotInt Try.prog 22 := .inl ⟨_, Try.underlying22⟩
theorem ni61 : NotInt Try.prog 61 := .inl ⟨_, Try.underlying61⟩
theorem c_Runes (s : List UInt8) (hs : s.length ≤ 17592186044416) : FnP Try.prog 12 [.str s] (.sl 1 (rvs s)) :=  by
  refine FnC.mk Try.func12 (by kernel_rfl) rfl Try.ntmps12 rfl (fun w0 F => ?_)
  refine W.seq ?_
  refine W.region ?_
  refine W.q (Ev.assign .k) rfl ?_
  refine W.nil ?_
  refine W.then ?_
  refine W.seq ?_
  refine W.region ?_
  refine W.q (Ev.assign .k) rfl ?_
  refine W.nil ?_
  refine W.then ?_
  refine W.seq ?_
  refine W.seq ?_
  refine W.region ?_
  refine W.q (Ev.move (.t rfl)) rfl ?_
  refine W.rng (.t rfl) Try.underlying9 rfl ?_
  intro b7
  refine W.nil ?_
  refine W.then ?_
  refine W.block ?_
  refine W.own_nil 3 1 ?_
  refine W.loop (D := []) (ι := Nat × List AV × Value) (fun z => [(7, true, .lit (.pointer (some ⟨b7, 0, none⟩))), (3, true, .lit z.2.2)]) (fun z => [.arr z.2.2 3 1 z.2.1, .obj b7 (.stringIter ⟨s.toArray⟩ z.1)]) (fun z => z.1 ≤ s.length ∧ z.2.1 ++ rvs (s.drop z.1) = rvs s ∧ z.2.1.length ≤ z.1) (fun z => s.length - z.1) (0, [], .slice none 0 0) ⟨rfl, rfl, trivial⟩ (.refl _) ⟨Nat.zero_le _, by simp, Nat.le_refl _⟩ ?_
  rintro ⟨p, es, v⟩ ⟨hp1, hp2, hp3⟩
  dsimp only at hp1 hp2 hp3 ⊢
  have hle := dec_le (s.drop p)
  by_cases hp : p < s.length
  · have hw := dec_width (s.drop p) (by intro e; have := congrArg List.length e; simp at this; omega)
    rw [List.length_drop] at hw
    refine W.seq ?_
    refine W.region ?_
    first | refine W.nxtT 0 (.t rfl) rfl (by omega) rfl ?_ | refine W.nxtF 0 (.t rfl) rfl (by omega) rfl ?_ | refine W.nxtT 1 (.t rfl) rfl (by omega) rfl ?_ | refine W.nxtF 1 (.t rfl) rfl (by omega) rfl ?_ | refine W.nxtT 2 (.t rfl) rfl (by omega) rfl ?_ | refine W.nxtF 2 (.t rfl) rfl (by omega) rfl ?_ | refine W.nxtT 3 (.t rfl) rfl (by omega) rfl ?_ | refine W.nxtF 3 (.t rfl) rfl (by omega) rfl ?_
    refine W.q (Ev.extract (.t rfl) rfl) rfl ?_
    refine W.nil ?_
    refine W.then ?_
    refine W.seq ?_
    refine W.condT (.t rfl) ?_
    refine W.skip ?_
    refine W.then ?_
    refine W.block ?_
    refine W.seq ?_
    refine W.region ?_
    refine W.q (Ev.extract (.t rfl) rfl) rfl ?_
    refine W.q (Ev.assign (.t rfl)) rfl ?_
    refine W.nil ?_
    refine W.then ?_
    refine W.region ?_
    refine W.q (Ev.move (.t rfl)) rfl ?_
    refine W.q (Ev.move (.t rfl)) rfl ?_
    first | refine W.q (Ev.conv64 (.t rfl) ⟨_, Try.underlying21⟩ Try.underlying3 (fun _ => by omega)) rfl ?_ | refine W.q (Ev.conv (.t rfl) ⟨_, Try.underlying21⟩ Try.underlying3) rfl ?_
    refine W.bs (es := [_]) Try.underlying22 ty3 ⟨rfl, (.t rfl), rfl, rfl, trivial⟩ rfl (by decide) rfl rfl ?_
    first | refine W.app 0 (.t rfl) rfl (.sl (.t rfl) (by simp [AV.okc, shV])) Try.underlying22 ni22 ty3 rfl rfl (by simp; omega) rfl ?_ | refine W.app 1 (.t rfl) rfl (.sl (.t rfl) (by simp [AV.okc, shV])) Try.underlying22 ni22 ty3 rfl rfl (by simp; omega) rfl ?_ | refine W.app 2 (.t rfl) rfl (.sl (.t rfl) (by simp [AV.okc, shV])) Try.underlying22 ni22 ty3 rfl rfl (by simp; omega) rfl ?_ | refine W.app 3 (.t rfl) rfl (.sl (.t rfl) (by simp [AV.okc, shV])) Try.underlying22 ni22 ty3 rfl rfl (by simp; omega) rfl ?_ | refine W.app 0 (.t rfl) rfl (.arr 0 (.t rfl) rfl (by simp [AV.okc, shV])) Try.underlying22 ni22 ty3 rfl rfl (by simp; omega) rfl ?_ | refine W.app 0 (.t rfl) rfl (.arr 1 (.t rfl) rfl (by simp [AV.okc, shV])) Try.underlying22 ni22 ty3 rfl rfl (by simp; omega) rfl ?_ | refine W.app 0 (.t rfl) rfl (.arr 2 (.t rfl) rfl (by simp [AV.okc, shV])) Try.underlying22 ni22 ty3 rfl rfl (by simp; omega) rfl ?_ | refine W.app 0 (.t rfl) rfl (.arr 3 (.t rfl) rfl (by simp [AV.okc, shV])) Try.underlying22 ni22 ty3 rfl rfl (by simp; omega) rfl ?_ | refine W.app 1 (.t rfl) rfl (.arr 0 (.t rfl) rfl (by simp [AV.okc, shV])) Try.underlying22 ni22 ty3 rfl rfl (by simp; omega) rfl ?_ | refine W.app 1 (.t rfl) rfl (.arr 1 (.t rfl) rfl (by simp [AV.okc, shV])) Try.underlying22 ni22 ty3 rfl rfl (by simp; omega) rfl ?_ | refine W.app 1 (.t rfl) rfl (.arr 2 (.t rfl) rfl (by simp [AV.okc, shV])) Try.underlying22 ni22 ty3 rfl rfl (by simp; omega) rfl ?_ | refine W.app 1 (.t rfl) rfl (.arr 3 (.t rfl) rfl (by simp [AV.okc, shV])) Try.underlying22 ni22 ty3 rfl rfl (by simp; omega) rfl ?_ | refine W.app 2 (.t rfl) rfl (.arr 0 (.t rfl) rfl (by simp [AV.okc, shV])) Try.underlying22 ni22 ty3 rfl rfl (by simp; omega) rfl ?_ | refine W.app 2 (.t rfl) rfl (.arr 1 (.t rfl) rfl (by simp [AV.okc, shV])) Try.underlying22 ni22 ty3 rfl rfl (by simp; omega) rfl ?_ | refine W.app 2 (.t rfl) rfl (.arr 2 (.t rfl) rfl (by simp [AV.okc, shV])) Try.underlying22 ni22 ty3 rfl rfl (by simp; omega) rfl ?_ | refine W.app 2 (.t rfl) rfl (.arr 3 (.t rfl) rfl (by simp [AV.okc, shV])) Try.underlying22 ni22 ty3 rfl rfl (by simp; omega) rfl ?_ | refine W.app 3 (.t rfl) rfl (.arr 0 (.t rfl) rfl (by simp [AV.okc, shV])) Try.underlying22 ni22 ty3 rfl rfl (by simp; omega) rfl ?_ | refine W.app 3 (.t rfl) rfl (.arr 1 (.t rfl) rfl (by simp [AV.okc, shV])) Try.underlying22 ni22 ty3 rfl rfl (by simp; omega) rfl ?_ | refine W.app 3 (.t rfl) rfl (.arr 2 (.t rfl) rfl (by simp [AV.okc, shV])) Try.underlying22 ni22 ty3 rfl rfl (by simp; omega) rfl ?_ | refine W.app 3 (.t rfl) rfl (.arr 3 (.t rfl) rfl (by simp [AV.okc, shV])) Try.underlying22 ni22 ty3 rfl rfl (by simp; omega) rfl ?_
    intro v15
    refine W.q (Ev.assign (.t rfl)) rfl ?_
    refine W.nil ?_
    refine W.blk_normal ?_
    refine W.then ?_
    refine W.reach (D := []) (p + (dec (s.drop p)).2, es ++ [.int ((dec (s.drop p)).1 : Int)], v15) ⟨rfl, rfl, trivial⟩ (.refl _) ⟨⟨?_, ?_, ?_⟩, ?_⟩
    · show p + _ ≤ _; omega
    · show _ ++ _ = _; rw [← hp2, rvs_drop s p hp]; simp
    · show List.length _ ≤ p + _; simp; omega
    · show s.length - _ < s.length - p; omega
  · skip
    refine W.seq ?_
    refine W.region ?_
    first | refine W.nxtT 0 (.t rfl) rfl (by omega) rfl ?_ | refine W.nxtF 0 (.t rfl) rfl (by omega) rfl ?_ | refine W.nxtT 1 (.t rfl) rfl (by omega) rfl ?_ | refine W.nxtF 1 (.t rfl) rfl (by omega) rfl ?_ | refine W.nxtT 2 (.t rfl) rfl (by omega) rfl ?_ | refine W.nxtF 2 (.t rfl) rfl (by omega) rfl ?_ | refine W.nxtT 3 (.t rfl) rfl (by omega) rfl ?_ | refine W.nxtF 3 (.t rfl) rfl (by omega) rfl ?_
    refine W.q (Ev.extract (.t rfl) rfl) rfl ?_
    refine W.nil ?_
    refine W.then ?_
    refine W.seq ?_
    refine W.condF (.t rfl) ?_
    refine W.exit ?_
    refine W.then_exit ?_
    refine W.then_exit ?_
    refine W.blk_hit ?_
    refine W.then ?_
    refine W.seq ?_
    refine W.region ?_
    refine W.q (Ev.move (.t rfl)) rfl ?_
    refine W.q (Ev.assign (.t rfl)) rfl ?_
    refine W.nil ?_
    refine W.then ?_
    refine W.ret ?_
    refine W.freeze (M1 := []) (M2 := []) (D := _) (v := v) (L' := [(2, true, .sl 1 es)]) (.refl _) ⟨⟨_, rfl, .one .hit⟩, trivial⟩ trivial ?_
    refine W.retn (M' := []) (rs := [.tmp 2]) (avs := [_]) Try.results12 ⟨rfl, trivial⟩ rfl (.refl _) ?_
    have e : s.drop p = [] := List.drop_of_length_le (by omega)
    rw [e] at hp2
    exact ⟨congrArg (AV.sl 1) (by rw [← hp2]; simp [rvs, runes_nil]), rfl⟩

theorem c_ValidRune (r : Int) : FnP Try.prog 39 [.lit (.int .i32 r)] (.bool (Utf8.valid r)) :=  by
  refine FnC.mk Try.func39 (by kernel_rfl) rfl Try.ntmps39 rfl (fun w0 F => ?_)
  refine W.seq ?_
  refine W.region ?_
  refine W.q (Ev.assign .k) rfl ?_
  refine W.nil ?_
  refine W.then ?_
  refine W.seq ?_
  refine W.block ?_
  refine W.seq ?_
  refine W.region ?_
  refine W.q (Ev.move (.t rfl)) rfl ?_
  refine W.q (Ev.lei .k (.t rfl)) rfl ?_
  refine W.q (Ev.move (.t rfl)) rfl ?_
  refine W.qgT rfl rfl (Ev.move (.t rfl)) rfl ?_
  refine W.qgT rfl rfl (Ev.lti (.c rfl) .k) rfl ?_
  refine W.q (Ev.and (.t rfl) ⟨_, _, rfl, rfl, by simp⟩) rfl ?_
  refine W.q (Ev.assign (.t rfl)) rfl ?_
  refine W.nil ?_
  refine W.then ?_
  refine W.cond (.t rfl) (fun hc_t3 => ?_) (fun hc_t3 => ?_)
  · simp at hc_t3
    refine W.seq ?_
    refine W.region ?_
    refine W.q (Ev.assign .k) rfl ?_
    refine W.nil ?_
    refine W.then ?_
    refine W.ret ?_
    refine W.blk_ret ?_
    refine W.then_ret ?_
    refine W.retn (M' := []) (rs := [.tmp 2]) (avs := [_]) Try.results39 ⟨rfl, trivial⟩ rfl (.refl _) ?_
    exact ⟨congrArg AV.bool (by simp [Utf8.valid]; omega), rfl⟩
  · simp at hc_t3
    refine W.seq ?_
    refine W.region ?_
    refine W.q (Ev.move (.t rfl)) rfl ?_
    refine W.q (Ev.lti .k (.t rfl)) rfl ?_
    refine W.q (Ev.move (.t rfl)) rfl ?_
    refine W.qgT rfl rfl (Ev.move (.t rfl)) rfl ?_
    refine W.qgT rfl rfl (Ev.lei (.c rfl) .k) rfl ?_
    refine W.q (Ev.and (.t rfl) ⟨_, _, rfl, rfl, by simp⟩) rfl ?_
    refine W.q (Ev.assign (.t rfl)) rfl ?_
    refine W.nil ?_
    refine W.then ?_
    refine W.cond (.t rfl) (fun hc_t10 => ?_) (fun hc_t10 => ?_)
    · simp at hc_t10
      refine W.seq ?_
      refine W.region ?_
      refine W.q (Ev.assign .k) rfl ?_
      refine W.nil ?_
      refine W.then ?_
      refine W.ret ?_
      refine W.blk_ret ?_
      refine W.then_ret ?_
      refine W.retn (M' := []) (rs := [.tmp 2]) (avs := [_]) Try.results39 ⟨rfl, trivial⟩ rfl (.refl _) ?_
      exact ⟨congrArg AV.bool (by simp [Utf8.valid]; omega), rfl⟩
    · simp at hc_t10
      refine W.skip ?_
      refine W.blk_normal ?_
      refine W.then ?_
      refine W.seq ?_
      refine W.region ?_
      refine W.q (Ev.assign .k) rfl ?_
      refine W.nil ?_
      refine W.then ?_
      refine W.ret ?_
      refine W.retn (M' := []) (rs := [.tmp 2]) (avs := [_]) Try.results39 ⟨rfl, trivial⟩ rfl (.refl _) ?_
      exact ⟨congrArg AV.bool (by simp [Utf8.valid]; omega), rfl⟩

theorem c_appendNA (v : Value) (l : List UInt8) (r : Int) (hl : l.length ≤ 17592186044416) (hr0 : ¬ (0 ≤ r ∧ r ≤ 127)) (hr : -2147483648 ≤ r ∧ r ≤ 2147483647) : FnC Try.prog 41 [.lit v, .lit (.int .i32 r)] [.arr v 5 1 (l.map AV.u8)] (fun r' M' => ∃ v', r' = .lit v' ∧ M' = [.arr v' 5 1 ((l ++ enc r).map AV.u8)]) :=  by
  refine FnC.mk Try.func41 (by kernel_rfl) rfl Try.ntmps41 rfl (fun w0 F => ?_)
  have hna : ¬ (0 ≤ r ∧ r ≤ 127) := hr0
  have hw : IntKind.u32.wrap r = r % 4294967296 := by rw [IntKind.wrap_u32]
  refine W.seq ?_
  refine W.region ?_
  refine W.q (Ev.assign .k) rfl ?_
  refine W.nil ?_
  refine W.then ?_
  refine W.seq ?_
  refine W.region ?_
  refine W.q (Ev.move (.t rfl)) rfl ?_
  refine W.q (Ev.conv (.t rfl) ⟨_, Try.underlying21⟩ Try.underlying77) rfl ?_
  refine W.q (Ev.assign (.t rfl)) rfl ?_
  refine W.nil ?_
  refine W.then ?_
  refine W.block ?_
  refine W.seq ?_
  refine W.region ?_
  refine W.q (Ev.move (.t rfl)) rfl ?_
  refine W.q (Ev.lei (.t rfl) .k) rfl ?_
  refine W.q (Ev.assign (.t rfl)) rfl ?_
  refine W.nil ?_
  refine W.then ?_
  refine W.cond (.t rfl) (fun hc_t11 => ?_) (fun hc_t11 => ?_)
  · simp only [Bool.and_eq_true, decide_eq_true_eq, hw] at hc_t11
    refine W.seq ?_
    refine W.region ?_
    refine W.q (Ev.move (.t rfl)) rfl ?_
    refine W.q (Ev.move (.t rfl)) rfl ?_
    refine W.q (Ev.shr (c := 6) (.t rfl) .k (by decide) (by decide)) rfl ?_
    refine W.q (Ev.conv (.t rfl) ⟨_, Try.underlying21⟩ Try.underlying5) rfl ?_
    refine W.q (Ev.bor .k (.t rfl)) rfl ?_
    refine W.q (Ev.move (.t rfl)) rfl ?_
    refine W.q (Ev.conv (.t rfl) ⟨_, Try.underlying21⟩ Try.underlying5) rfl ?_
    refine W.q (Ev.band (.t rfl) .k) rfl ?_
    refine W.q (Ev.bor .k (.t rfl)) rfl ?_
    refine W.bs (es := [_, _]) Try.underlying61 ty5 ⟨rfl, (.t rfl), rfl, rfl, rfl, (.t rfl), rfl, rfl, trivial⟩ rfl (by decide) rfl rfl ?_
    first | refine W.app 0 (.t rfl) rfl (.sl (.t rfl) (by simp [AV.okc, shV])) Try.underlying61 ni61 ty5 rfl rfl (by simp; omega) rfl ?_ | refine W.app 1 (.t rfl) rfl (.sl (.t rfl) (by simp [AV.okc, shV])) Try.underlying61 ni61 ty5 rfl rfl (by simp; omega) rfl ?_ | refine W.app 2 (.t rfl) rfl (.sl (.t rfl) (by simp [AV.okc, shV])) Try.underlying61 ni61 ty5 rfl rfl (by simp; omega) rfl ?_ | refine W.app 3 (.t rfl) rfl (.sl (.t rfl) (by simp [AV.okc, shV])) Try.underlying61 ni61 ty5 rfl rfl (by simp; omega) rfl ?_ | refine W.app 0 (.t rfl) rfl (.arr 0 (.t rfl) rfl (by simp [AV.okc, shV])) Try.underlying61 ni61 ty5 rfl rfl (by simp; omega) rfl ?_ | refine W.app 0 (.t rfl) rfl (.arr 1 (.t rfl) rfl (by simp [AV.okc, shV])) Try.underlying61 ni61 ty5 rfl rfl (by simp; omega) rfl ?_ | refine W.app 0 (.t rfl) rfl (.arr 2 (.t rfl) rfl (by simp [AV.okc, shV])) Try.underlying61 ni61 ty5 rfl rfl (by simp; omega) rfl ?_ | refine W.app 0 (.t rfl) rfl (.arr 3 (.t rfl) rfl (by simp [AV.okc, shV])) Try.underlying61 ni61 ty5 rfl rfl (by simp; omega) rfl ?_ | refine W.app 1 (.t rfl) rfl (.arr 0 (.t rfl) rfl (by simp [AV.okc, shV])) Try.underlying61 ni61 ty5 rfl rfl (by simp; omega) rfl ?_ | refine W.app 1 (.t rfl) rfl (.arr 1 (.t rfl) rfl (by simp [AV.okc, shV])) Try.underlying61 ni61 ty5 rfl rfl (by simp; omega) rfl ?_ | refine W.app 1 (.t rfl) rfl (.arr 2 (.t rfl) rfl (by simp [AV.okc, shV])) Try.underlying61 ni61 ty5 rfl rfl (by simp; omega) rfl ?_ | refine W.app 1 (.t rfl) rfl (.arr 3 (.t rfl) rfl (by simp [AV.okc, shV])) Try.underlying61 ni61 ty5 rfl rfl (by simp; omega) rfl ?_ | refine W.app 2 (.t rfl) rfl (.arr 0 (.t rfl) rfl (by simp [AV.okc, shV])) Try.underlying61 ni61 ty5 rfl rfl (by simp; omega) rfl ?_ | refine W.app 2 (.t rfl) rfl (.arr 1 (.t rfl) rfl (by simp [AV.okc, shV])) Try.underlying61 ni61 ty5 rfl rfl (by simp; omega) rfl ?_ | refine W.app 2 (.t rfl) rfl (.arr 2 (.t rfl) rfl (by simp [AV.okc, shV])) Try.underlying61 ni61 ty5 rfl rfl (by simp; omega) rfl ?_ | refine W.app 2 (.t rfl) rfl (.arr 3 (.t rfl) rfl (by simp [AV.okc, shV])) Try.underlying61 ni61 ty5 rfl rfl (by simp; omega) rfl ?_ | refine W.app 3 (.t rfl) rfl (.arr 0 (.t rfl) rfl (by simp [AV.okc, shV])) Try.underlying61 ni61 ty5 rfl rfl (by simp; omega) rfl ?_ | refine W.app 3 (.t rfl) rfl (.arr 1 (.t rfl) rfl (by simp [AV.okc, shV])) Try.underlying61 ni61 ty5 rfl rfl (by simp; omega) rfl ?_ | refine W.app 3 (.t rfl) rfl (.arr 2 (.t rfl) rfl (by simp [AV.okc, shV])) Try.underlying61 ni61 ty5 rfl rfl (by simp; omega) rfl ?_ | refine W.app 3 (.t rfl) rfl (.arr 3 (.t rfl) rfl (by simp [AV.okc, shV])) Try.underlying61 ni61 ty5 rfl rfl (by simp; omega) rfl ?_
    intro v24
    refine W.q (Ev.assign (.t rfl)) rfl ?_
    refine W.nil ?_
    refine W.then ?_
    refine W.ret ?_
    refine W.blk_ret ?_
    refine W.retn (M' := [.arr _ 5 1 (l.map AV.u8 ++ _)]) (rs := [.tmp 4]) (avs := [_]) Try.results41 ⟨rfl, trivial⟩ rfl (.refl _) ?_
    refine ⟨_, rfl, congrArg (fun x => [ME.arr _ 5 1 x]) ?_⟩
    rw [List.map_append]
    congr 1
    first | exact enc_2 r (by omega) | exact enc_3 r (by omega) (by omega) | exact enc_4 r (by omega) | exact enc_bad r (by cases h : Utf8.valid r with | false => rfl | true => rw [valid_iff] at h; omega)
  · simp only [Bool.and_eq_false_iff, decide_eq_false_iff_not, hw] at hc_t11
    refine W.seq ?_
    refine W.seq ?_
    refine W.region ?_
    refine W.q (Ev.move (.t rfl)) rfl ?_
    refine W.q (Ev.lti (.t rfl) .k) rfl ?_
    refine W.q (Ev.assign (.t rfl)) rfl ?_
    refine W.nil ?_
    refine W.then ?_
    refine W.cond (.t rfl) (fun hc_t25 => ?_) (fun hc_t25 => ?_)
    · simp only [Bool.and_eq_true, decide_eq_true_eq, hw] at hc_t25
      refine W.skip ?_
      refine W.then ?_
      refine W.cond (.t rfl) (fun hc_t25 => ?_) (fun hc_t25 => ?_)
      · simp only [Bool.and_eq_true, decide_eq_true_eq, hw] at hc_t25
        refine W.seq ?_
        refine W.region ?_
        refine W.q (Ev.move (.t rfl)) rfl ?_
        refine W.q (Ev.move (.t rfl)) rfl ?_
        refine W.q (Ev.shr (c := 12) (.t rfl) .k (by decide) (by decide)) rfl ?_
        refine W.q (Ev.conv (.t rfl) ⟨_, Try.underlying21⟩ Try.underlying5) rfl ?_
        refine W.q (Ev.bor .k (.t rfl)) rfl ?_
        refine W.q (Ev.move (.t rfl)) rfl ?_
        refine W.q (Ev.shr (c := 6) (.t rfl) .k (by decide) (by decide)) rfl ?_
        refine W.q (Ev.conv (.t rfl) ⟨_, Try.underlying21⟩ Try.underlying5) rfl ?_
        refine W.q (Ev.band (.t rfl) .k) rfl ?_
        refine W.q (Ev.bor .k (.t rfl)) rfl ?_
        refine W.q (Ev.move (.t rfl)) rfl ?_
        refine W.q (Ev.conv (.t rfl) ⟨_, Try.underlying21⟩ Try.underlying5) rfl ?_
        refine W.q (Ev.band (.t rfl) .k) rfl ?_
        refine W.q (Ev.bor .k (.t rfl)) rfl ?_
        refine W.bs (es := [_, _, _]) Try.underlying61 ty5 ⟨rfl, (.t rfl), rfl, rfl, rfl, (.t rfl), rfl, rfl, rfl, (.t rfl), rfl, rfl, trivial⟩ rfl (by decide) rfl rfl ?_
        first | refine W.app 0 (.t rfl) rfl (.sl (.t rfl) (by simp [AV.okc, shV])) Try.underlying61 ni61 ty5 rfl rfl (by simp; omega) rfl ?_ | refine W.app 1 (.t rfl) rfl (.sl (.t rfl) (by simp [AV.okc, shV])) Try.underlying61 ni61 ty5 rfl rfl (by simp; omega) rfl ?_ | refine W.app 2 (.t rfl) rfl (.sl (.t rfl) (by simp [AV.okc, shV])) Try.underlying61 ni61 ty5 rfl rfl (by simp; omega) rfl ?_ | refine W.app 3 (.t rfl) rfl (.sl (.t rfl) (by simp [AV.okc, shV])) Try.underlying61 ni61 ty5 rfl rfl (by simp; omega) rfl ?_ | refine W.app 0 (.t rfl) rfl (.arr 0 (.t rfl) rfl (by simp [AV.okc, shV])) Try.underlying61 ni61 ty5 rfl rfl (by simp; omega) rfl ?_ | refine W.app 0 (.t rfl) rfl (.arr 1 (.t rfl) rfl (by simp [AV.okc, shV])) Try.underlying61 ni61 ty5 rfl rfl (by simp; omega) rfl ?_ | refine W.app 0 (.t rfl) rfl (.arr 2 (.t rfl) rfl (by simp [AV.okc, shV])) Try.underlying61 ni61 ty5 rfl rfl (by simp; omega) rfl ?_ | refine W.app 0 (.t rfl) rfl (.arr 3 (.t rfl) rfl (by simp [AV.okc, shV])) Try.underlying61 ni61 ty5 rfl rfl (by simp; omega) rfl ?_ | refine W.app 1 (.t rfl) rfl (.arr 0 (.t rfl) rfl (by simp [AV.okc, shV])) Try.underlying61 ni61 ty5 rfl rfl (by simp; omega) rfl ?_ | refine W.app 1 (.t rfl) rfl (.arr 1 (.t rfl) rfl (by simp [AV.okc, shV])) Try.underlying61 ni61 ty5 rfl rfl (by simp; omega) rfl ?_ | refine W.app 1 (.t rfl) rfl (.arr 2 (.t rfl) rfl (by simp [AV.okc, shV])) Try.underlying61 ni61 ty5 rfl rfl (by simp; omega) rfl ?_ | refine W.app 1 (.t rfl) rfl (.arr 3 (.t rfl) rfl (by simp [AV.okc, shV])) Try.underlying61 ni61 ty5 rfl rfl (by simp; omega) rfl ?_ | refine W.app 2 (.t rfl) rfl (.arr 0 (.t rfl) rfl (by simp [AV.okc, shV])) Try.underlying61 ni61 ty5 rfl rfl (by simp; omega) rfl ?_ | refine W.app 2 (.t rfl) rfl (.arr 1 (.t rfl) rfl (by simp [AV.okc, shV])) Try.underlying61 ni61 ty5 rfl rfl (by simp; omega) rfl ?_ | refine W.app 2 (.t rfl) rfl (.arr 2 (.t rfl) rfl (by simp [AV.okc, shV])) Try.underlying61 ni61 ty5 rfl rfl (by simp; omega) rfl ?_ | refine W.app 2 (.t rfl) rfl (.arr 3 (.t rfl) rfl (by simp [AV.okc, shV])) Try.underlying61 ni61 ty5 rfl rfl (by simp; omega) rfl ?_ | refine W.app 3 (.t rfl) rfl (.arr 0 (.t rfl) rfl (by simp [AV.okc, shV])) Try.underlying61 ni61 ty5 rfl rfl (by simp; omega) rfl ?_ | refine W.app 3 (.t rfl) rfl (.arr 1 (.t rfl) rfl (by simp [AV.okc, shV])) Try.underlying61 ni61 ty5 rfl rfl (by simp; omega) rfl ?_ | refine W.app 3 (.t rfl) rfl (.arr 2 (.t rfl) rfl (by simp [AV.okc, shV])) Try.underlying61 ni61 ty5 rfl rfl (by simp; omega) rfl ?_ | refine W.app 3 (.t rfl) rfl (.arr 3 (.t rfl) rfl (by simp [AV.okc, shV])) Try.underlying61 ni61 ty5 rfl rfl (by simp; omega) rfl ?_
        intro v49
        refine W.q (Ev.assign (.t rfl)) rfl ?_
        refine W.nil ?_
        refine W.then ?_
        refine W.ret ?_
        refine W.blk_ret ?_
        refine W.retn (M' := [.arr _ 5 1 (l.map AV.u8 ++ _)]) (rs := [.tmp 4]) (avs := [_]) Try.results41 ⟨rfl, trivial⟩ rfl (.refl _) ?_
        refine ⟨_, rfl, congrArg (fun x => [ME.arr _ 5 1 x]) ?_⟩
        rw [List.map_append]
        congr 1
        first | exact enc_2 r (by omega) | exact enc_3 r (by omega) (by omega) | exact enc_4 r (by omega) | exact enc_bad r (by cases h : Utf8.valid r with | false => rfl | true => rw [valid_iff] at h; omega)
      · simp only [Bool.and_eq_false_iff, decide_eq_false_iff_not, hw] at hc_t25
        refine W.seq ?_
        refine W.region ?_
        refine W.q (Ev.move (.t rfl)) rfl ?_
        refine W.q (Ev.gti (.t rfl) .k) rfl ?_
        refine W.q (Ev.move (.t rfl)) rfl ?_
        refine W.qgT rfl rfl (Ev.move (.t rfl)) rfl ?_
        refine W.qgT rfl rfl (Ev.lei (.c rfl) .k) rfl ?_
        refine W.q (Ev.and (.t rfl) ⟨_, _, rfl, rfl, by simp⟩) rfl ?_
        refine W.q (Ev.assign (.t rfl)) rfl ?_
        refine W.nil ?_
        refine W.then ?_
        refine W.cond (.t rfl) (fun hc_t50 => ?_) (fun hc_t50 => ?_)
        · simp only [Bool.and_eq_true, decide_eq_true_eq, hw] at hc_t50
          refine W.seq ?_
          refine W.region ?_
          refine W.q (Ev.move (.t rfl)) rfl ?_
          refine W.q (Ev.move (.t rfl)) rfl ?_
          refine W.q (Ev.shr (c := 18) (.t rfl) .k (by decide) (by decide)) rfl ?_
          refine W.q (Ev.conv (.t rfl) ⟨_, Try.underlying21⟩ Try.underlying5) rfl ?_
          refine W.q (Ev.bor .k (.t rfl)) rfl ?_
          refine W.q (Ev.move (.t rfl)) rfl ?_
          refine W.q (Ev.shr (c := 12) (.t rfl) .k (by decide) (by decide)) rfl ?_
          refine W.q (Ev.conv (.t rfl) ⟨_, Try.underlying21⟩ Try.underlying5) rfl ?_
          refine W.q (Ev.band (.t rfl) .k) rfl ?_
          refine W.q (Ev.bor .k (.t rfl)) rfl ?_
          refine W.q (Ev.move (.t rfl)) rfl ?_
          refine W.q (Ev.shr (c := 6) (.t rfl) .k (by decide) (by decide)) rfl ?_
          refine W.q (Ev.conv (.t rfl) ⟨_, Try.underlying21⟩ Try.underlying5) rfl ?_
          refine W.q (Ev.band (.t rfl) .k) rfl ?_
          refine W.q (Ev.bor .k (.t rfl)) rfl ?_
          refine W.q (Ev.move (.t rfl)) rfl ?_
          refine W.q (Ev.conv (.t rfl) ⟨_, Try.underlying21⟩ Try.underlying5) rfl ?_
          refine W.q (Ev.band (.t rfl) .k) rfl ?_
          refine W.q (Ev.bor .k (.t rfl)) rfl ?_
          refine W.bs (es := [_, _, _, _]) Try.underlying61 ty5 ⟨rfl, (.t rfl), rfl, rfl, rfl, (.t rfl), rfl, rfl, rfl, (.t rfl), rfl, rfl, rfl, (.t rfl), rfl, rfl, trivial⟩ rfl (by decide) rfl rfl ?_
          first | refine W.app 0 (.t rfl) rfl (.sl (.t rfl) (by simp [AV.okc, shV])) Try.underlying61 ni61 ty5 rfl rfl (by simp; omega) rfl ?_ | refine W.app 1 (.t rfl) rfl (.sl (.t rfl) (by simp [AV.okc, shV])) Try.underlying61 ni61 ty5 rfl rfl (by simp; omega) rfl ?_ | refine W.app 2 (.t rfl) rfl (.sl (.t rfl) (by simp [AV.okc, shV])) Try.underlying61 ni61 ty5 rfl rfl (by simp; omega) rfl ?_ | refine W.app 3 (.t rfl) rfl (.sl (.t rfl) (by simp [AV.okc, shV])) Try.underlying61 ni61 ty5 rfl rfl (by simp; omega) rfl ?_ | refine W.app 0 (.t rfl) rfl (.arr 0 (.t rfl) rfl (by simp [AV.okc, shV])) Try.underlying61 ni61 ty5 rfl rfl (by simp; omega) rfl ?_ | refine W.app 0 (.t rfl) rfl (.arr 1 (.t rfl) rfl (by simp [AV.okc, shV])) Try.underlying61 ni61 ty5 rfl rfl (by simp; omega) rfl ?_ | refine W.app 0 (.t rfl) rfl (.arr 2 (.t rfl) rfl (by simp [AV.okc, shV])) Try.underlying61 ni61 ty5 rfl rfl (by simp; omega) rfl ?_ | refine W.app 0 (.t rfl) rfl (.arr 3 (.t rfl) rfl (by simp [AV.okc, shV])) Try.underlying61 ni61 ty5 rfl rfl (by simp; omega) rfl ?_ | refine W.app 1 (.t rfl) rfl (.arr 0 (.t rfl) rfl (by simp [AV.okc, shV])) Try.underlying61 ni61 ty5 rfl rfl (by simp; omega) rfl ?_ | refine W.app 1 (.t rfl) rfl (.arr 1 (.t rfl) rfl (by simp [AV.okc, shV])) Try.underlying61 ni61 ty5 rfl rfl (by simp; omega) rfl ?_ | refine W.app 1 (.t rfl) rfl (.arr 2 (.t rfl) rfl (by simp [AV.okc, shV])) Try.underlying61 ni61 ty5 rfl rfl (by simp; omega) rfl ?_ | refine W.app 1 (.t rfl) rfl (.arr 3 (.t rfl) rfl (by simp [AV.okc, shV])) Try.underlying61 ni61 ty5 rfl rfl (by simp; omega) rfl ?_ | refine W.app 2 (.t rfl) rfl (.arr 0 (.t rfl) rfl (by simp [AV.okc, shV])) Try.underlying61 ni61 ty5 rfl rfl (by simp; omega) rfl ?_ | refine W.app 2 (.t rfl) rfl (.arr 1 (.t rfl) rfl (by simp [AV.okc, shV])) Try.underlying61 ni61 ty5 rfl rfl (by simp; omega) rfl ?_ | refine W.app 2 (.t rfl) rfl (.arr 2 (.t rfl) rfl (by simp [AV.okc, shV])) Try.underlying61 ni61 ty5 rfl rfl (by simp; omega) rfl ?_ | refine W.app 2 (.t rfl) rfl (.arr 3 (.t rfl) rfl (by simp [AV.okc, shV])) Try.underlying61 ni61 ty5 rfl rfl (by simp; omega) rfl ?_ | refine W.app 3 (.t rfl) rfl (.arr 0 (.t rfl) rfl (by simp [AV.okc, shV])) Try.underlying61 ni61 ty5 rfl rfl (by simp; omega) rfl ?_ | refine W.app 3 (.t rfl) rfl (.arr 1 (.t rfl) rfl (by simp [AV.okc, shV])) Try.underlying61 ni61 ty5 rfl rfl (by simp; omega) rfl ?_ | refine W.app 3 (.t rfl) rfl (.arr 2 (.t rfl) rfl (by simp [AV.okc, shV])) Try.underlying61 ni61 ty5 rfl rfl (by simp; omega) rfl ?_ | refine W.app 3 (.t rfl) rfl (.arr 3 (.t rfl) rfl (by simp [AV.okc, shV])) Try.underlying61 ni61 ty5 rfl rfl (by simp; omega) rfl ?_
          intro v77
          refine W.q (Ev.assign (.t rfl)) rfl ?_
          refine W.nil ?_
          refine W.then ?_
          refine W.ret ?_
          refine W.blk_ret ?_
          refine W.retn (M' := [.arr _ 5 1 (l.map AV.u8 ++ _)]) (rs := [.tmp 4]) (avs := [_]) Try.results41 ⟨rfl, trivial⟩ rfl (.refl _) ?_
          refine ⟨_, rfl, congrArg (fun x => [ME.arr _ 5 1 x]) ?_⟩
          rw [List.map_append]
          congr 1
          first | exact enc_2 r (by omega) | exact enc_3 r (by omega) (by omega) | exact enc_4 r (by omega) | exact enc_bad r (by cases h : Utf8.valid r with | false => rfl | true => rw [valid_iff] at h; omega)
        · simp only [Bool.and_eq_false_iff, decide_eq_false_iff_not, hw] at hc_t50
          refine W.seq ?_
          refine W.region ?_
          refine W.q (Ev.move (.t rfl)) rfl ?_
          refine W.bs (es := [_, _, _]) Try.underlying61 ty5 ⟨rfl, .k, rfl, rfl, rfl, .k, rfl, rfl, rfl, .k, rfl, rfl, trivial⟩ rfl (by decide) rfl rfl ?_
          first | refine W.app 0 (.t rfl) rfl (.sl (.t rfl) (by simp [AV.okc, shV])) Try.underlying61 ni61 ty5 rfl rfl (by simp; omega) rfl ?_ | refine W.app 1 (.t rfl) rfl (.sl (.t rfl) (by simp [AV.okc, shV])) Try.underlying61 ni61 ty5 rfl rfl (by simp; omega) rfl ?_ | refine W.app 2 (.t rfl) rfl (.sl (.t rfl) (by simp [AV.okc, shV])) Try.underlying61 ni61 ty5 rfl rfl (by simp; omega) rfl ?_ | refine W.app 3 (.t rfl) rfl (.sl (.t rfl) (by simp [AV.okc, shV])) Try.underlying61 ni61 ty5 rfl rfl (by simp; omega) rfl ?_ | refine W.app 0 (.t rfl) rfl (.arr 0 (.t rfl) rfl (by simp [AV.okc, shV])) Try.underlying61 ni61 ty5 rfl rfl (by simp; omega) rfl ?_ | refine W.app 0 (.t rfl) rfl (.arr 1 (.t rfl) rfl (by simp [AV.okc, shV])) Try.underlying61 ni61 ty5 rfl rfl (by simp; omega) rfl ?_ | refine W.app 0 (.t rfl) rfl (.arr 2 (.t rfl) rfl (by simp [AV.okc, shV])) Try.underlying61 ni61 ty5 rfl rfl (by simp; omega) rfl ?_ | refine W.app 0 (.t rfl) rfl (.arr 3 (.t rfl) rfl (by simp [AV.okc, shV])) Try.underlying61 ni61 ty5 rfl rfl (by simp; omega) rfl ?_ | refine W.app 1 (.t rfl) rfl (.arr 0 (.t rfl) rfl (by simp [AV.okc, shV])) Try.underlying61 ni61 ty5 rfl rfl (by simp; omega) rfl ?_ | refine W.app 1 (.t rfl) rfl (.arr 1 (.t rfl) rfl (by simp [AV.okc, shV])) Try.underlying61 ni61 ty5 rfl rfl (by simp; omega) rfl ?_ | refine W.app 1 (.t rfl) rfl (.arr 2 (.t rfl) rfl (by simp [AV.okc, shV])) Try.underlying61 ni61 ty5 rfl rfl (by simp; omega) rfl ?_ | refine W.app 1 (.t rfl) rfl (.arr 3 (.t rfl) rfl (by simp [AV.okc, shV])) Try.underlying61 ni61 ty5 rfl rfl (by simp; omega) rfl ?_ | refine W.app 2 (.t rfl) rfl (.arr 0 (.t rfl) rfl (by simp [AV.okc, shV])) Try.underlying61 ni61 ty5 rfl rfl (by simp; omega) rfl ?_ | refine W.app 2 (.t rfl) rfl (.arr 1 (.t rfl) rfl (by simp [AV.okc, shV])) Try.underlying61 ni61 ty5 rfl rfl (by simp; omega) rfl ?_ | refine W.app 2 (.t rfl) rfl (.arr 2 (.t rfl) rfl (by simp [AV.okc, shV])) Try.underlying61 ni61 ty5 rfl rfl (by simp; omega) rfl ?_ | refine W.app 2 (.t rfl) rfl (.arr 3 (.t rfl) rfl (by simp [AV.okc, shV])) Try.underlying61 ni61 ty5 rfl rfl (by simp; omega) rfl ?_ | refine W.app 3 (.t rfl) rfl (.arr 0 (.t rfl) rfl (by simp [AV.okc, shV])) Try.underlying61 ni61 ty5 rfl rfl (by simp; omega) rfl ?_ | refine W.app 3 (.t rfl) rfl (.arr 1 (.t rfl) rfl (by simp [AV.okc, shV])) Try.underlying61 ni61 ty5 rfl rfl (by simp; omega) rfl ?_ | refine W.app 3 (.t rfl) rfl (.arr 2 (.t rfl) rfl (by simp [AV.okc, shV])) Try.underlying61 ni61 ty5 rfl rfl (by simp; omega) rfl ?_ | refine W.app 3 (.t rfl) rfl (.arr 3 (.t rfl) rfl (by simp [AV.okc, shV])) Try.underlying61 ni61 ty5 rfl rfl (by simp; omega) rfl ?_
          intro v10
          refine W.q (Ev.assign (.t rfl)) rfl ?_
          refine W.nil ?_
          refine W.then ?_
          refine W.ret ?_
          refine W.blk_ret ?_
          refine W.retn (M' := [.arr _ 5 1 (l.map AV.u8 ++ _)]) (rs := [.tmp 4]) (avs := [_]) Try.results41 ⟨rfl, trivial⟩ rfl (.refl _) ?_
          refine ⟨_, rfl, congrArg (fun x => [ME.arr _ 5 1 x]) ?_⟩
          rw [List.map_append]
          congr 1
          first | exact enc_2 r (by omega) | exact enc_3 r (by omega) (by omega) | exact enc_4 r (by omega) | exact enc_bad r (by cases h : Utf8.valid r with | false => rfl | true => rw [valid_iff] at h; omega)
    · simp only [Bool.and_eq_false_iff, decide_eq_false_iff_not, hw] at hc_t25
      refine W.region ?_
      refine W.q (Ev.move (.t rfl)) rfl ?_
      refine W.q (Ev.lti .k (.t rfl)) rfl ?_
      refine W.q (Ev.move (.t rfl)) rfl ?_
      refine W.qgT rfl rfl (Ev.move (.t rfl)) rfl ?_
      refine W.qgT rfl rfl (Ev.lei (.c rfl) .k) rfl ?_
      refine W.q (Ev.and (.t rfl) ⟨_, _, rfl, rfl, by simp⟩) rfl ?_
      refine W.q (Ev.assign (.t rfl)) rfl ?_
      refine W.nil ?_
      refine W.then ?_
      refine W.cond (.t rfl) (fun hc_t25 => ?_) (fun hc_t25 => ?_)
      · simp only [Bool.and_eq_true, decide_eq_true_eq, hw] at hc_t25
        refine W.seq ?_
        refine W.region ?_
        refine W.q (Ev.move (.t rfl)) rfl ?_
        refine W.q (Ev.move (.t rfl)) rfl ?_
        refine W.q (Ev.shr (c := 12) (.t rfl) .k (by decide) (by decide)) rfl ?_
        refine W.q (Ev.conv (.t rfl) ⟨_, Try.underlying21⟩ Try.underlying5) rfl ?_
        refine W.q (Ev.bor .k (.t rfl)) rfl ?_
        refine W.q (Ev.move (.t rfl)) rfl ?_
        refine W.q (Ev.shr (c := 6) (.t rfl) .k (by decide) (by decide)) rfl ?_
        refine W.q (Ev.conv (.t rfl) ⟨_, Try.underlying21⟩ Try.underlying5) rfl ?_
        refine W.q (Ev.band (.t rfl) .k) rfl ?_
        refine W.q (Ev.bor .k (.t rfl)) rfl ?_
        refine W.q (Ev.move (.t rfl)) rfl ?_
        refine W.q (Ev.conv (.t rfl) ⟨_, Try.underlying21⟩ Try.underlying5) rfl ?_
        refine W.q (Ev.band (.t rfl) .k) rfl ?_
        refine W.q (Ev.bor .k (.t rfl)) rfl ?_
        refine W.bs (es := [_, _, _]) Try.underlying61 ty5 ⟨rfl, (.t rfl), rfl, rfl, rfl, (.t rfl), rfl, rfl, rfl, (.t rfl), rfl, rfl, trivial⟩ rfl (by decide) rfl rfl ?_
        first | refine W.app 0 (.t rfl) rfl (.sl (.t rfl) (by simp [AV.okc, shV])) Try.underlying61 ni61 ty5 rfl rfl (by simp; omega) rfl ?_ | refine W.app 1 (.t rfl) rfl (.sl (.t rfl) (by simp [AV.okc, shV])) Try.underlying61 ni61 ty5 rfl rfl (by simp; omega) rfl ?_ | refine W.app 2 (.t rfl) rfl (.sl (.t rfl) (by simp [AV.okc, shV])) Try.underlying61 ni61 ty5 rfl rfl (by simp; omega) rfl ?_ | refine W.app 3 (.t rfl) rfl (.sl (.t rfl) (by simp [AV.okc, shV])) Try.underlying61 ni61 ty5 rfl rfl (by simp; omega) rfl ?_ | refine W.app 0 (.t rfl) rfl (.arr 0 (.t rfl) rfl (by simp [AV.okc, shV])) Try.underlying61 ni61 ty5 rfl rfl (by simp; omega) rfl ?_ | refine W.app 0 (.t rfl) rfl (.arr 1 (.t rfl) rfl (by simp [AV.okc, shV])) Try.underlying61 ni61 ty5 rfl rfl (by simp; omega) rfl ?_ | refine W.app 0 (.t rfl) rfl (.arr 2 (.t rfl) rfl (by simp [AV.okc, shV])) Try.underlying61 ni61 ty5 rfl rfl (by simp; omega) rfl ?_ | refine W.app 0 (.t rfl) rfl (.arr 3 (.t rfl) rfl (by simp [AV.okc, shV])) Try.underlying61 ni61 ty5 rfl rfl (by simp; omega) rfl ?_ | refine W.app 1 (.t rfl) rfl (.arr 0 (.t rfl) rfl (by simp [AV.okc, shV])) Try.underlying61 ni61 ty5 rfl rfl (by simp; omega) rfl ?_ | refine W.app 1 (.t rfl) rfl (.arr 1 (.t rfl) rfl (by simp [AV.okc, shV])) Try.underlying61 ni61 ty5 rfl rfl (by simp; omega) rfl ?_ | refine W.app 1 (.t rfl) rfl (.arr 2 (.t rfl) rfl (by simp [AV.okc, shV])) Try.underlying61 ni61 ty5 rfl rfl (by simp; omega) rfl ?_ | refine W.app 1 (.t rfl) rfl (.arr 3 (.t rfl) rfl (by simp [AV.okc, shV])) Try.underlying61 ni61 ty5 rfl rfl (by simp; omega) rfl ?_ | refine W.app 2 (.t rfl) rfl (.arr 0 (.t rfl) rfl (by simp [AV.okc, shV])) Try.underlying61 ni61 ty5 rfl rfl (by simp; omega) rfl ?_ | refine W.app 2 (.t rfl) rfl (.arr 1 (.t rfl) rfl (by simp [AV.okc, shV])) Try.underlying61 ni61 ty5 rfl rfl (by simp; omega) rfl ?_ | refine W.app 2 (.t rfl) rfl (.arr 2 (.t rfl) rfl (by simp [AV.okc, shV])) Try.underlying61 ni61 ty5 rfl rfl (by simp; omega) rfl ?_ | refine W.app 2 (.t rfl) rfl (.arr 3 (.t rfl) rfl (by simp [AV.okc, shV])) Try.underlying61 ni61 ty5 rfl rfl (by simp; omega) rfl ?_ | refine W.app 3 (.t rfl) rfl (.arr 0 (.t rfl) rfl (by simp [AV.okc, shV])) Try.underlying61 ni61 ty5 rfl rfl (by simp; omega) rfl ?_ | refine W.app 3 (.t rfl) rfl (.arr 1 (.t rfl) rfl (by simp [AV.okc, shV])) Try.underlying61 ni61 ty5 rfl rfl (by simp; omega) rfl ?_ | refine W.app 3 (.t rfl) rfl (.arr 2 (.t rfl) rfl (by simp [AV.okc, shV])) Try.underlying61 ni61 ty5 rfl rfl (by simp; omega) rfl ?_ | refine W.app 3 (.t rfl) rfl (.arr 3 (.t rfl) rfl (by simp [AV.okc, shV])) Try.underlying61 ni61 ty5 rfl rfl (by simp; omega) rfl ?_
        intro v49
        refine W.q (Ev.assign (.t rfl)) rfl ?_
        refine W.nil ?_
        refine W.then ?_
        refine W.ret ?_
        refine W.blk_ret ?_
        refine W.retn (M' := [.arr _ 5 1 (l.map AV.u8 ++ _)]) (rs := [.tmp 4]) (avs := [_]) Try.results41 ⟨rfl, trivial⟩ rfl (.refl _) ?_
        refine ⟨_, rfl, congrArg (fun x => [ME.arr _ 5 1 x]) ?_⟩
        rw [List.map_append]
        congr 1
        first | exact enc_2 r (by omega) | exact enc_3 r (by omega) (by omega) | exact enc_4 r (by omega) | exact enc_bad r (by cases h : Utf8.valid r with | false => rfl | true => rw [valid_iff] at h; omega)
      · simp only [Bool.and_eq_false_iff, decide_eq_false_iff_not, hw] at hc_t25
        refine W.seq ?_
        refine W.region ?_
        refine W.q (Ev.move (.t rfl)) rfl ?_
        refine W.q (Ev.gti (.t rfl) .k) rfl ?_
        refine W.q (Ev.move (.t rfl)) rfl ?_
        refine W.qgT rfl rfl (Ev.move (.t rfl)) rfl ?_
        refine W.qgT rfl rfl (Ev.lei (.c rfl) .k) rfl ?_
        refine W.q (Ev.and (.t rfl) ⟨_, _, rfl, rfl, by simp⟩) rfl ?_
        refine W.q (Ev.assign (.t rfl)) rfl ?_
        refine W.nil ?_
        refine W.then ?_
        refine W.cond (.t rfl) (fun hc_t50 => ?_) (fun hc_t50 => ?_)
        · simp only [Bool.and_eq_true, decide_eq_true_eq, hw] at hc_t50
          refine W.seq ?_
          refine W.region ?_
          refine W.q (Ev.move (.t rfl)) rfl ?_
          refine W.q (Ev.move (.t rfl)) rfl ?_
          refine W.q (Ev.shr (c := 18) (.t rfl) .k (by decide) (by decide)) rfl ?_
          refine W.q (Ev.conv (.t rfl) ⟨_, Try.underlying21⟩ Try.underlying5) rfl ?_
          refine W.q (Ev.bor .k (.t rfl)) rfl ?_
          refine W.q (Ev.move (.t rfl)) rfl ?_
          refine W.q (Ev.shr (c := 12) (.t rfl) .k (by decide) (by decide)) rfl ?_
          refine W.q (Ev.conv (.t rfl) ⟨_, Try.underlying21⟩ Try.underlying5) rfl ?_
          refine W.q (Ev.band (.t rfl) .k) rfl ?_
          refine W.q (Ev.bor .k (.t rfl)) rfl ?_
          refine W.q (Ev.move (.t rfl)) rfl ?_
          refine W.q (Ev.shr (c := 6) (.t rfl) .k (by decide) (by decide)) rfl ?_
          refine W.q (Ev.conv (.t rfl) ⟨_, Try.underlying21⟩ Try.underlying5) rfl ?_
          refine W.q (Ev.band (.t rfl) .k) rfl ?_
          refine W.q (Ev.bor .k (.t rfl)) rfl ?_
          refine W.q (Ev.move (.t rfl)) rfl ?_
          refine W.q (Ev.conv (.t rfl) ⟨_, Try.underlying21⟩ Try.underlying5) rfl ?_
          refine W.q (Ev.band (.t rfl) .k) rfl ?_
          refine W.q (Ev.bor .k (.t rfl)) rfl ?_
          refine W.bs (es := [_, _, _, _]) Try.underlying61 ty5 ⟨rfl, (.t rfl), rfl, rfl, rfl, (.t rfl), rfl, rfl, rfl, (.t rfl), rfl, rfl, rfl, (.t rfl), rfl, rfl, trivial⟩ rfl (by decide) rfl rfl ?_
          first | refine W.app 0 (.t rfl) rfl (.sl (.t rfl) (by simp [AV.okc, shV])) Try.underlying61 ni61 ty5 rfl rfl (by simp; omega) rfl ?_ | refine W.app 1 (.t rfl) rfl (.sl (.t rfl) (by simp [AV.okc, shV])) Try.underlying61 ni61 ty5 rfl rfl (by simp; omega) rfl ?_ | refine W.app 2 (.t rfl) rfl (.sl (.t rfl) (by simp [AV.okc, shV])) Try.underlying61 ni61 ty5 rfl rfl (by simp; omega) rfl ?_ | refine W.app 3 (.t rfl) rfl (.sl (.t rfl) (by simp [AV.okc, shV])) Try.underlying61 ni61 ty5 rfl rfl (by simp; omega) rfl ?_ | refine W.app 0 (.t rfl) rfl (.arr 0 (.t rfl) rfl (by simp [AV.okc, shV])) Try.underlying61 ni61 ty5 rfl rfl (by simp; omega) rfl ?_ | refine W.app 0 (.t rfl) rfl (.arr 1 (.t rfl) rfl (by simp [AV.okc, shV])) Try.underlying61 ni61 ty5 rfl rfl (by simp; omega) rfl ?_ | refine W.app 0 (.t rfl) rfl (.arr 2 (.t rfl) rfl (by simp [AV.okc, shV])) Try.underlying61 ni61 ty5 rfl rfl (by simp; omega) rfl ?_ | refine W.app 0 (.t rfl) rfl (.arr 3 (.t rfl) rfl (by simp [AV.okc, shV])) Try.underlying61 ni61 ty5 rfl rfl (by simp; omega) rfl ?_ | refine W.app 1 (.t rfl) rfl (.arr 0 (.t rfl) rfl (by simp [AV.okc, shV])) Try.underlying61 ni61 ty5 rfl rfl (by simp; omega) rfl ?_ | refine W.app 1 (.t rfl) rfl (.arr 1 (.t rfl) rfl (by simp [AV.okc, shV])) Try.underlying61 ni61 ty5 rfl rfl (by simp; omega) rfl ?_ | refine W.app 1 (.t rfl) rfl (.arr 2 (.t rfl) rfl (by simp [AV.okc, shV])) Try.underlying61 ni61 ty5 rfl rfl (by simp; omega) rfl ?_ | refine W.app 1 (.t rfl) rfl (.arr 3 (.t rfl) rfl (by simp [AV.okc, shV])) Try.underlying61 ni61 ty5 rfl rfl (by simp; omega) rfl ?_ | refine W.app 2 (.t rfl) rfl (.arr 0 (.t rfl) rfl (by simp [AV.okc, shV])) Try.underlying61 ni61 ty5 rfl rfl (by simp; omega) rfl ?_ | refine W.app 2 (.t rfl) rfl (.arr 1 (.t rfl) rfl (by simp [AV.okc, shV])) Try.underlying61 ni61 ty5 rfl rfl (by simp; omega) rfl ?_ | refine W.app 2 (.t rfl) rfl (.arr 2 (.t rfl) rfl (by simp [AV.okc, shV])) Try.underlying61 ni61 ty5 rfl rfl (by simp; omega) rfl ?_ | refine W.app 2 (.t rfl) rfl (.arr 3 (.t rfl) rfl (by simp [AV.okc, shV])) Try.underlying61 ni61 ty5 rfl rfl (by simp; omega) rfl ?_ | refine W.app 3 (.t rfl) rfl (.arr 0 (.t rfl) rfl (by simp [AV.okc, shV])) Try.underlying61 ni61 ty5 rfl rfl (by simp; omega) rfl ?_ | refine W.app 3 (.t rfl) rfl (.arr 1 (.t rfl) rfl (by simp [AV.okc, shV])) Try.underlying61 ni61 ty5 rfl rfl (by simp; omega) rfl ?_ | refine W.app 3 (.t rfl) rfl (.arr 2 (.t rfl) rfl (by simp [AV.okc, shV])) Try.underlying61 ni61 ty5 rfl rfl (by simp; omega) rfl ?_ | refine W.app 3 (.t rfl) rfl (.arr 3 (.t rfl) rfl (by simp [AV.okc, shV])) Try.underlying61 ni61 ty5 rfl rfl (by simp; omega) rfl ?_
          intro v77
          refine W.q (Ev.assign (.t rfl)) rfl ?_
          refine W.nil ?_
          refine W.then ?_
          refine W.ret ?_
          refine W.blk_ret ?_
          refine W.retn (M' := [.arr _ 5 1 (l.map AV.u8 ++ _)]) (rs := [.tmp 4]) (avs := [_]) Try.results41 ⟨rfl, trivial⟩ rfl (.refl _) ?_
          refine ⟨_, rfl, congrArg (fun x => [ME.arr _ 5 1 x]) ?_⟩
          rw [List.map_append]
          congr 1
          first | exact enc_2 r (by omega) | exact enc_3 r (by omega) (by omega) | exact enc_4 r (by omega) | exact enc_bad r (by cases h : Utf8.valid r with | false => rfl | true => rw [valid_iff] at h; omega)
        · simp only [Bool.and_eq_false_iff, decide_eq_false_iff_not, hw] at hc_t50
          refine W.seq ?_
          refine W.region ?_
          refine W.q (Ev.move (.t rfl)) rfl ?_
          refine W.bs (es := [_, _, _]) Try.underlying61 ty5 ⟨rfl, .k, rfl, rfl, rfl, .k, rfl, rfl, rfl, .k, rfl, rfl, trivial⟩ rfl (by decide) rfl rfl ?_
          first | refine W.app 0 (.t rfl) rfl (.sl (.t rfl) (by simp [AV.okc, shV])) Try.underlying61 ni61 ty5 rfl rfl (by simp; omega) rfl ?_ | refine W.app 1 (.t rfl) rfl (.sl (.t rfl) (by simp [AV.okc, shV])) Try.underlying61 ni61 ty5 rfl rfl (by simp; omega) rfl ?_ | refine W.app 2 (.t rfl) rfl (.sl (.t rfl) (by simp [AV.okc, shV])) Try.underlying61 ni61 ty5 rfl rfl (by simp; omega) rfl ?_ | refine W.app 3 (.t rfl) rfl (.sl (.t rfl) (by simp [AV.okc, shV])) Try.underlying61 ni61 ty5 rfl rfl (by simp; omega) rfl ?_ | refine W.app 0 (.t rfl) rfl (.arr 0 (.t rfl) rfl (by simp [AV.okc, shV])) Try.underlying61 ni61 ty5 rfl rfl (by simp; omega) rfl ?_ | refine W.app 0 (.t rfl) rfl (.arr 1 (.t rfl) rfl (by simp [AV.okc, shV])) Try.underlying61 ni61 ty5 rfl rfl (by simp; omega) rfl ?_ | refine W.app 0 (.t rfl) rfl (.arr 2 (.t rfl) rfl (by simp [AV.okc, shV])) Try.underlying61 ni61 ty5 rfl rfl (by simp; omega) rfl ?_ | refine W.app 0 (.t rfl) rfl (.arr 3 (.t rfl) rfl (by simp [AV.okc, shV])) Try.underlying61 ni61 ty5 rfl rfl (by simp; omega) rfl ?_ | refine W.app 1 (.t rfl) rfl (.arr 0 (.t rfl) rfl (by simp [AV.okc, shV])) Try.underlying61 ni61 ty5 rfl rfl (by simp; omega) rfl ?_ | refine W.app 1 (.t rfl) rfl (.arr 1 (.t rfl) rfl (by simp [AV.okc, shV])) Try.underlying61 ni61 ty5 rfl rfl (by simp; omega) rfl ?_ | refine W.app 1 (.t rfl) rfl (.arr 2 (.t rfl) rfl (by simp [AV.okc, shV])) Try.underlying61 ni61 ty5 rfl rfl (by simp; omega) rfl ?_ | refine W.app 1 (.t rfl) rfl (.arr 3 (.t rfl) rfl (by simp [AV.okc, shV])) Try.underlying61 ni61 ty5 rfl rfl (by simp; omega) rfl ?_ | refine W.app 2 (.t rfl) rfl (.arr 0 (.t rfl) rfl (by simp [AV.okc, shV])) Try.underlying61 ni61 ty5 rfl rfl (by simp; omega) rfl ?_ | refine W.app 2 (.t rfl) rfl (.arr 1 (.t rfl) rfl (by simp [AV.okc, shV])) Try.underlying61 ni61 ty5 rfl rfl (by simp; omega) rfl ?_ | refine W.app 2 (.t rfl) rfl (.arr 2 (.t rfl) rfl (by simp [AV.okc, shV])) Try.underlying61 ni61 ty5 rfl rfl (by simp; omega) rfl ?_ | refine W.app 2 (.t rfl) rfl (.arr 3 (.t rfl) rfl (by simp [AV.okc, shV])) Try.underlying61 ni61 ty5 rfl rfl (by simp; omega) rfl ?_ | refine W.app 3 (.t rfl) rfl (.arr 0 (.t rfl) rfl (by simp [AV.okc, shV])) Try.underlying61 ni61 ty5 rfl rfl (by simp; omega) rfl ?_ | refine W.app 3 (.t rfl) rfl (.arr 1 (.t rfl) rfl (by simp [AV.okc, shV])) Try.underlying61 ni61 ty5 rfl rfl (by simp; omega) rfl ?_ | refine W.app 3 (.t rfl) rfl (.arr 2 (.t rfl) rfl (by simp [AV.okc, shV])) Try.underlying61 ni61 ty5 rfl rfl (by simp; omega) rfl ?_ | refine W.app 3 (.t rfl) rfl (.arr 3 (.t rfl) rfl (by simp [AV.okc, shV])) Try.underlying61 ni61 ty5 rfl rfl (by simp; omega) rfl ?_
          intro v10
          refine W.q (Ev.assign (.t rfl)) rfl ?_
          refine W.nil ?_
          refine W.then ?_
          refine W.ret ?_
          refine W.blk_ret ?_
          refine W.retn (M' := [.arr _ 5 1 (l.map AV.u8 ++ _)]) (rs := [.tmp 4]) (avs := [_]) Try.results41 ⟨rfl, trivial⟩ rfl (.refl _) ?_
          refine ⟨_, rfl, congrArg (fun x => [ME.arr _ 5 1 x]) ?_⟩
          rw [List.map_append]
          congr 1
          first | exact enc_2 r (by omega) | exact enc_3 r (by omega) (by omega) | exact enc_4 r (by omega) | exact enc_bad r (by cases h : Utf8.valid r with | false => rfl | true => rw [valid_iff] at h; omega)

theorem c_AppendRune (v : Value) (l : List UInt8) (r : Int) (hl : l.length ≤ 17592186044416) (hr : -2147483648 ≤ r ∧ r ≤ 2147483647) : FnC Try.prog 32 [.lit v, .lit (.int .i32 r)] [.arr v 5 1 (l.map AV.u8)] (fun r' M' => ∃ v', r' = .lit v' ∧ M' = [.arr v' 5 1 ((l ++ enc r).map AV.u8)]) :=  by
  refine FnC.mk Try.func32 (by kernel_rfl) rfl Try.ntmps32 rfl (fun w0 F => ?_)
  have hw : IntKind.u32.wrap r = r % 4294967296 := by rw [IntKind.wrap_u32]
  refine W.seq ?_
  refine W.region ?_
  refine W.q (Ev.assign .k) rfl ?_
  refine W.nil ?_
  refine W.then ?_
  refine W.seq ?_
  refine W.seq ?_
  refine W.region ?_
  refine W.q (Ev.move (.t rfl)) rfl ?_
  refine W.q (Ev.conv (.t rfl) ⟨_, Try.underlying21⟩ Try.underlying77) rfl ?_
  refine W.q (Ev.lei (.t rfl) .k) rfl ?_
  refine W.nil ?_
  refine W.then ?_
  refine W.cond (.t rfl) (fun hc_t7 => ?_) (fun hc_t7 => ?_)
  · simp only [decide_eq_true_eq, hw] at hc_t7
    refine W.seq ?_
    refine W.region ?_
    refine W.q (Ev.move (.t rfl)) rfl ?_
    refine W.q (Ev.move (.t rfl)) rfl ?_
    refine W.q (Ev.conv (.t rfl) ⟨_, Try.underlying21⟩ Try.underlying5) rfl ?_
    refine W.bs (es := [_]) Try.underlying61 ty5 ⟨rfl, (.t rfl), rfl, rfl, trivial⟩ rfl (by decide) rfl rfl ?_
    first | refine W.app 0 (.t rfl) rfl (.sl (.t rfl) (by simp [AV.okc, shV])) Try.underlying61 ni61 ty5 rfl rfl (by simp; omega) rfl ?_ | refine W.app 1 (.t rfl) rfl (.sl (.t rfl) (by simp [AV.okc, shV])) Try.underlying61 ni61 ty5 rfl rfl (by simp; omega) rfl ?_ | refine W.app 2 (.t rfl) rfl (.sl (.t rfl) (by simp [AV.okc, shV])) Try.underlying61 ni61 ty5 rfl rfl (by simp; omega) rfl ?_ | refine W.app 3 (.t rfl) rfl (.sl (.t rfl) (by simp [AV.okc, shV])) Try.underlying61 ni61 ty5 rfl rfl (by simp; omega) rfl ?_ | refine W.app 0 (.t rfl) rfl (.arr 0 (.t rfl) rfl (by simp [AV.okc, shV])) Try.underlying61 ni61 ty5 rfl rfl (by simp; omega) rfl ?_ | refine W.app 0 (.t rfl) rfl (.arr 1 (.t rfl) rfl (by simp [AV.okc, shV])) Try.underlying61 ni61 ty5 rfl rfl (by simp; omega) rfl ?_ | refine W.app 0 (.t rfl) rfl (.arr 2 (.t rfl) rfl (by simp [AV.okc, shV])) Try.underlying61 ni61 ty5 rfl rfl (by simp; omega) rfl ?_ | refine W.app 0 (.t rfl) rfl (.arr 3 (.t rfl) rfl (by simp [AV.okc, shV])) Try.underlying61 ni61 ty5 rfl rfl (by simp; omega) rfl ?_ | refine W.app 1 (.t rfl) rfl (.arr 0 (.t rfl) rfl (by simp [AV.okc, shV])) Try.underlying61 ni61 ty5 rfl rfl (by simp; omega) rfl ?_ | refine W.app 1 (.t rfl) rfl (.arr 1 (.t rfl) rfl (by simp [AV.okc, shV])) Try.underlying61 ni61 ty5 rfl rfl (by simp; omega) rfl ?_ | refine W.app 1 (.t rfl) rfl (.arr 2 (.t rfl) rfl (by simp [AV.okc, shV])) Try.underlying61 ni61 ty5 rfl rfl (by simp; omega) rfl ?_ | refine W.app 1 (.t rfl) rfl (.arr 3 (.t rfl) rfl (by simp [AV.okc, shV])) Try.underlying61 ni61 ty5 rfl rfl (by simp; omega) rfl ?_ | refine W.app 2 (.t rfl) rfl (.arr 0 (.t rfl) rfl (by simp [AV.okc, shV])) Try.underlying61 ni61 ty5 rfl rfl (by simp; omega) rfl ?_ | refine W.app 2 (.t rfl) rfl (.arr 1 (.t rfl) rfl (by simp [AV.okc, shV])) Try.underlying61 ni61 ty5 rfl rfl (by simp; omega) rfl ?_ | refine W.app 2 (.t rfl) rfl (.arr 2 (.t rfl) rfl (by simp [AV.okc, shV])) Try.underlying61 ni61 ty5 rfl rfl (by simp; omega) rfl ?_ | refine W.app 2 (.t rfl) rfl (.arr 3 (.t rfl) rfl (by simp [AV.okc, shV])) Try.underlying61 ni61 ty5 rfl rfl (by simp; omega) rfl ?_ | refine W.app 3 (.t rfl) rfl (.arr 0 (.t rfl) rfl (by simp [AV.okc, shV])) Try.underlying61 ni61 ty5 rfl rfl (by simp; omega) rfl ?_ | refine W.app 3 (.t rfl) rfl (.arr 1 (.t rfl) rfl (by simp [AV.okc, shV])) Try.underlying61 ni61 ty5 rfl rfl (by simp; omega) rfl ?_ | refine W.app 3 (.t rfl) rfl (.arr 2 (.t rfl) rfl (by simp [AV.okc, shV])) Try.underlying61 ni61 ty5 rfl rfl (by simp; omega) rfl ?_ | refine W.app 3 (.t rfl) rfl (.arr 3 (.t rfl) rfl (by simp [AV.okc, shV])) Try.underlying61 ni61 ty5 rfl rfl (by simp; omega) rfl ?_
    intro v12
    refine W.q (Ev.assign (.t rfl)) rfl ?_
    refine W.nil ?_
    refine W.then ?_
    refine W.ret ?_
    refine W.then_ret ?_
    refine W.retn (M' := [.arr _ 5 1 _]) (D := []) (rs := [.tmp 4]) (avs := [_]) Try.results32 ⟨rfl, trivial⟩ rfl (.refl _) ?_
    first | (refine ⟨_, rfl, congrArg (fun x => [ME.arr _ 5 1 x]) ?_⟩; rw [List.map_append]; congr 1; exact enc_1 r (by omega)) | exact ⟨_, rfl, rfl⟩
  · simp only [decide_eq_false_iff_not, hw] at hc_t7
    refine W.skip ?_
    refine W.then ?_
    refine W.seq ?_
    refine W.region ?_
    refine W.q (Ev.move (.t rfl)) rfl ?_
    refine W.q (Ev.move (.t rfl)) rfl ?_
    refine W.call (c_appendNA v l r hl (by omega) hr) ⟨(.t rfl), (.t rfl), trivial⟩ (.refl _) rfl ?_
    rintro _ _ ⟨v15, rfl, rfl⟩
    refine W.q (Ev.assign (.t rfl)) rfl ?_
    refine W.nil ?_
    refine W.then ?_
    refine W.ret ?_
    refine W.retn (M' := [.arr _ 5 1 _]) (D := []) (rs := [.tmp 4]) (avs := [_]) Try.results32 ⟨rfl, trivial⟩ rfl (.refl _) ?_
    first | (refine ⟨_, rfl, congrArg (fun x => [ME.arr _ 5 1 x]) ?_⟩; rw [List.map_append]; congr 1; exact enc_1 r (by omega)) | exact ⟨_, rfl, rfl⟩

theorem c_Clean (s : List UInt8) (hs : s.length ≤ 1099511627776) : FnP Try.prog 14 [.str s] (.str (clean s)) :=  by
  refine FnC.mk Try.func14 (by kernel_rfl) rfl Try.ntmps14 rfl (fun w0 F => ?_)
  refine W.seq ?_
  refine W.region ?_
  refine W.q (Ev.assign .k) rfl ?_
  refine W.nil ?_
  refine W.then ?_
  refine W.seq ?_
  refine W.region ?_
  refine W.q (Ev.assign .k) rfl ?_
  refine W.nil ?_
  refine W.then ?_
  refine W.seq ?_
  refine W.seq ?_
  refine W.region ?_
  refine W.q (Ev.move (.t rfl)) rfl ?_
  refine W.rng (.t rfl) Try.underlying9 rfl ?_
  intro b7
  refine W.nil ?_
  refine W.then ?_
  refine W.block ?_
  refine W.own_nil 5 1 ?_
  refine W.loop (D := []) (ι := Nat × List UInt8 × Value) (fun z => [(7, true, .lit (.pointer (some ⟨b7, 0, none⟩))), (3, true, .lit z.2.2), (0, true, .str s)]) (fun z => [.arr z.2.2 5 1 (z.2.1.map AV.u8), .obj b7 (.stringIter ⟨s.toArray⟩ z.1)]) (fun z => z.1 ≤ s.length ∧ z.2.1 ++ clean (s.drop z.1) = clean s ∧ z.2.1.length ≤ 4 * z.1) (fun z => s.length - z.1) (0, [], .slice none 0 0) ⟨rfl, rfl, rfl, trivial⟩ (.refl _) ⟨Nat.zero_le _, by simp, Nat.le_refl _⟩ ?_
  rintro ⟨p, out, v⟩ ⟨hp1, hp2, hp3⟩
  dsimp only at hp1 hp2 hp3 ⊢
  have hle := dec_le (s.drop p)
  by_cases hp : p < s.length
  · have hw := dec_width (s.drop p) (by intro e; have := congrArg List.length e; simp at this; omega)
    rw [List.length_drop] at hw
    have hcl := clean_drop s p hp
    have hcpl := cpiece_len (dec (s.drop p)).1 (s.drop (p + (dec (s.drop p)).2))
    refine W.seq ?_
    refine W.region ?_
    first | refine W.nxtT 0 (.t rfl) rfl (by omega) rfl ?_ | refine W.nxtF 0 (.t rfl) rfl (by omega) rfl ?_ | refine W.nxtT 1 (.t rfl) rfl (by omega) rfl ?_ | refine W.nxtF 1 (.t rfl) rfl (by omega) rfl ?_ | refine W.nxtT 2 (.t rfl) rfl (by omega) rfl ?_ | refine W.nxtF 2 (.t rfl) rfl (by omega) rfl ?_ | refine W.nxtT 3 (.t rfl) rfl (by omega) rfl ?_ | refine W.nxtF 3 (.t rfl) rfl (by omega) rfl ?_
    refine W.q (Ev.extract (.t rfl) rfl) rfl ?_
    refine W.nil ?_
    refine W.then ?_
    refine W.seq ?_
    refine W.condT (.t rfl) ?_
    refine W.skip ?_
    refine W.then ?_
    refine W.block ?_
    refine W.seq ?_
    refine W.region ?_
    refine W.q (Ev.extract (.t rfl) rfl) rfl ?_
    refine W.q (Ev.extract (.t rfl) rfl) rfl ?_
    refine W.q (Ev.assign (.t rfl)) rfl ?_
    refine W.q (Ev.assign (.t rfl)) rfl ?_
    refine W.nil ?_
    refine W.then ?_
    refine W.seq ?_
    refine W.block ?_
    refine W.seq ?_
    refine W.region ?_
    refine W.q (Ev.move (.t rfl)) rfl ?_
    refine W.q (Ev.eqi (.t rfl) .k) rfl ?_
    refine W.q (Ev.assign (.t rfl)) rfl ?_
    refine W.nil ?_
    refine W.then ?_
    refine W.cond (.t rfl) (fun hc_t12 => ?_) (fun hc_t12 => ?_)
    · have hpc := cp_0 s p (s.drop (p + (dec (s.drop p)).2)) hc_t12
      refine W.region ?_
      refine W.q (Ev.assign .k) rfl ?_
      refine W.nil ?_
      refine W.blk_normal ?_
      refine W.then ?_
      refine W.region ?_
      refine W.q (Ev.move (.t rfl)) rfl ?_
      refine W.q (Ev.move (.t rfl)) rfl ?_
      refine W.call (c_AppendRune v out _ (by omega) (by omega)) ⟨(.t rfl), (.t rfl), trivial⟩ (.refl _) rfl ?_
      rintro _ _ ⟨v37, rfl, rfl⟩
      refine W.q (Ev.assign (.t rfl)) rfl ?_
      refine W.nil ?_
      refine W.blk_normal ?_
      refine W.then ?_
      refine W.reach (D := []) (p + (dec (s.drop p)).2, _, _) ⟨rfl, rfl, rfl, trivial⟩ (.refl _) ⟨⟨?_, ?_, ?_⟩, ?_⟩
      · show p + _ ≤ _; omega
      · show _ ++ clean _ = _; rw [← hp2, hcl, hpc]; simp
      · show List.length _ ≤ 4 * (p + _); rw [hpc] at hcpl; dsimp only; first | omega | (rw [List.length_append]; omega)
      · show s.length - _ < s.length - p; omega
    · refine W.seq ?_
      refine W.region ?_
      refine W.q (Ev.move (.t rfl)) rfl ?_
      refine W.q (Ev.eqi (.t rfl) .k) rfl ?_
      refine W.q (Ev.move (.t rfl)) rfl ?_
      refine W.qgT rfl rfl (Ev.move (.t rfl)) rfl ?_
      first | refine W.qgT rfl rfl (Ev.add (.c rfl) .k (fun _ => by omega)) rfl ?_ | refine W.qgT rfl rfl (Ev.addw (.c rfl) .k) rfl ?_
      refine W.qgT rfl rfl (Ev.move (.t rfl)) rfl ?_
      refine W.qgT rfl rfl (Ev.lens (.c rfl) Try.underlying9) rfl ?_
      refine W.qgT rfl rfl (Ev.lti (.c rfl) (.c rfl)) rfl ?_
      refine W.q (Ev.and (.t rfl) ⟨_, _, rfl, rfl, by simp⟩) rfl ?_
      refine W.q (Ev.move (.t rfl)) rfl ?_
      refine W.qgT rfl rfl (Ev.move (.t rfl)) rfl ?_
      refine W.qgT rfl rfl (Ev.move (.t rfl)) rfl ?_
      first | refine W.qgT rfl rfl (Ev.add (.c rfl) .k (fun _ => by omega)) rfl ?_ | refine W.qgT rfl rfl (Ev.addw (.c rfl) .k) rfl ?_
      refine W.qgT rfl rfl (Ev.ats' (.c rfl) (.c rfl) Try.underlying9 (fun hg => by first | omega | (simp at hg; omega))) rfl ?_
      refine W.qgT rfl rfl (Ev.eqi (.c rfl) .k) rfl ?_
      refine W.q (Ev.and (.t rfl) ⟨_, _, rfl, rfl, by simp⟩) rfl ?_
      refine W.q (Ev.assign (.t rfl)) rfl ?_
      refine W.nil ?_
      refine W.then ?_
      refine W.cond (.t rfl) (fun hc_t15 => ?_) (fun hc_t15 => ?_)
      · have hpc := cp_skip s p hp hc_t15
        refine W.exit ?_
        refine W.blk_miss rfl ?_
        refine W.then_exit ?_
        refine W.blk_hit ?_
        refine W.then ?_
        refine W.reach (D := []) (p + (dec (s.drop p)).2, _, _) ⟨rfl, rfl, rfl, trivial⟩ (.refl _) ⟨⟨?_, ?_, ?_⟩, ?_⟩
        · show p + _ ≤ _; omega
        · show _ ++ clean _ = _; rw [← hp2, hcl, hpc]; simp
        · show List.length _ ≤ 4 * (p + _); rw [hpc] at hcpl; dsimp only; first | omega | (rw [List.length_append]; omega)
        · show s.length - _ < s.length - p; omega
      · refine W.seq ?_
        refine W.region ?_
        refine W.q (Ev.move (.t rfl)) rfl ?_
        refine W.q (Ev.eqi (.t rfl) .k) rfl ?_
        refine W.q (Ev.assign (.t rfl)) rfl ?_
        refine W.nil ?_
        refine W.then ?_
        refine W.cond (.t rfl) (fun hc_t32 => ?_) (fun hc_t32 => ?_)
        · have hpc := cp_13 s p hp hc_t15 hc_t32
          refine W.region ?_
          refine W.q (Ev.assign .k) rfl ?_
          refine W.nil ?_
          refine W.blk_normal ?_
          refine W.then ?_
          refine W.region ?_
          refine W.q (Ev.move (.t rfl)) rfl ?_
          refine W.q (Ev.move (.t rfl)) rfl ?_
          refine W.call (c_AppendRune v out _ (by omega) (by omega)) ⟨(.t rfl), (.t rfl), trivial⟩ (.refl _) rfl ?_
          rintro _ _ ⟨v37, rfl, rfl⟩
          refine W.q (Ev.assign (.t rfl)) rfl ?_
          refine W.nil ?_
          refine W.blk_normal ?_
          refine W.then ?_
          refine W.reach (D := []) (p + (dec (s.drop p)).2, _, _) ⟨rfl, rfl, rfl, trivial⟩ (.refl _) ⟨⟨?_, ?_, ?_⟩, ?_⟩
          · show p + _ ≤ _; omega
          · show _ ++ clean _ = _; rw [← hp2, hcl, hpc]; simp
          · show List.length _ ≤ 4 * (p + _); rw [hpc] at hcpl; dsimp only; first | omega | (rw [List.length_append]; omega)
          · show s.length - _ < s.length - p; omega
        · have hpc := cp_else s p (s.drop (p + (dec (s.drop p)).2)) hc_t12 hc_t32
          refine W.skip ?_
          refine W.blk_normal ?_
          refine W.then ?_
          refine W.region ?_
          refine W.q (Ev.move (.t rfl)) rfl ?_
          refine W.q (Ev.move (.t rfl)) rfl ?_
          refine W.call (c_AppendRune v out _ (by omega) (by omega)) ⟨(.t rfl), (.t rfl), trivial⟩ (.refl _) rfl ?_
          rintro _ _ ⟨v37, rfl, rfl⟩
          refine W.q (Ev.assign (.t rfl)) rfl ?_
          refine W.nil ?_
          refine W.blk_normal ?_
          refine W.then ?_
          refine W.reach (D := []) (p + (dec (s.drop p)).2, _, _) ⟨rfl, rfl, rfl, trivial⟩ (.refl _) ⟨⟨?_, ?_, ?_⟩, ?_⟩
          · show p + _ ≤ _; omega
          · show _ ++ clean _ = _; rw [← hp2, hcl, hpc]; simp
          · show List.length _ ≤ 4 * (p + _); rw [hpc] at hcpl; dsimp only; first | omega | (rw [List.length_append]; omega)
          · show s.length - _ < s.length - p; omega
  · skip
    refine W.seq ?_
    refine W.region ?_
    first | refine W.nxtT 0 (.t rfl) rfl (by omega) rfl ?_ | refine W.nxtF 0 (.t rfl) rfl (by omega) rfl ?_ | refine W.nxtT 1 (.t rfl) rfl (by omega) rfl ?_ | refine W.nxtF 1 (.t rfl) rfl (by omega) rfl ?_ | refine W.nxtT 2 (.t rfl) rfl (by omega) rfl ?_ | refine W.nxtF 2 (.t rfl) rfl (by omega) rfl ?_ | refine W.nxtT 3 (.t rfl) rfl (by omega) rfl ?_ | refine W.nxtF 3 (.t rfl) rfl (by omega) rfl ?_
    refine W.q (Ev.extract (.t rfl) rfl) rfl ?_
    refine W.nil ?_
    refine W.then ?_
    refine W.seq ?_
    refine W.condF (.t rfl) ?_
    refine W.exit ?_
    refine W.then_exit ?_
    refine W.then_exit ?_
    refine W.blk_hit ?_
    refine W.then ?_
    refine W.seq ?_
    refine W.region ?_
    refine W.q (Ev.move (.t rfl)) rfl ?_
    first | refine W.q (Ev.b2s 0 (.t rfl) rfl Try.underlying61 Try.underlying5 Try.underlying9) rfl ?_ | refine W.q (Ev.b2s 1 (.t rfl) rfl Try.underlying61 Try.underlying5 Try.underlying9) rfl ?_ | refine W.q (Ev.b2s 2 (.t rfl) rfl Try.underlying61 Try.underlying5 Try.underlying9) rfl ?_ | refine W.q (Ev.b2s 3 (.t rfl) rfl Try.underlying61 Try.underlying5 Try.underlying9) rfl ?_
    refine W.q (Ev.assign (.t rfl)) rfl ?_
    refine W.nil ?_
    refine W.then ?_
    refine W.ret ?_
    refine W.retn (M' := []) (rs := [.tmp 2]) (avs := [_]) Try.results14 ⟨rfl, trivial⟩ rfl (.refl _) ?_
    have e : s.drop p = [] := List.drop_of_length_le (by omega)
    rw [e, clean_nil, List.append_nil] at hp2
    exact ⟨congrArg AV.str hp2, rfl⟩

end WUtf

end Go.Proofs.Ytofmjmicgddljaa
