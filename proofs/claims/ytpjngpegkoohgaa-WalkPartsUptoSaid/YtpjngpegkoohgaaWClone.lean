/-
  Slices that are cloned.
-/
import Derived.Test.YtpjngpegkoohgaaCallG
import Derived.Test.YtpjngpegkoohgaaBase
set_option linter.unusedVariables false
set_option linter.unusedSimpArgs false
set_option maxRecDepth 100000
namespace Go.Proofs.Ytpjngpegkoohgaa
open Go.Vl

namespace WClone
theorem ty3 : Ty Try.prog 3 1 8 (.int .i64 0) := Ty.of (by kernel_rfl)
theorem ty42 : Ty Try.prog 42 4 80 (.agg #[.string ⟨#[]⟩, .slice none 0 0, .string ⟨#[]⟩, .slice none 0 0]) := Ty.of (by kernel_rfl)
theorem ni22 : NotInt Try.prog 22 := .inl ⟨_, Try.underlying22⟩
theorem ni24 : NotInt Try.prog 24 := .inl ⟨_, Try.underlying24⟩
theorem c_CloneInt (es : List AV) (ho : ∀ e ∈ es, e.okc = true) (hl : es.length ≤ 1099511627776) : FnC Try.prog 19 [.sl 1 es] [] (fun r M => ∃ v, r = .lit v ∧ M = [.arr v 3 1 es]) :=  by
  refine FnC.mk Try.func19 (by kernel_rfl) rfl Try.ntmps19 rfl (fun w0 F => ?_)
  refine W.seq ?_
  refine W.region ?_
  refine W.q (Ev.assign .k) rfl ?_
  refine W.nil ?_
  refine W.then ?_
  refine W.seq ?_
  refine W.seq ?_
  refine W.region ?_
  refine W.q (Ev.move (.t rfl)) rfl ?_
  refine W.slnil (.t rfl) Try.underlying22 rfl (fun q hq => ?_)
  refine W.nil ?_
  refine W.then ?_
  refine W.cond (.t rfl) (fun hc_t4 => ?_) (fun hc_t4 => ?_)
  · refine W.seq ?_
    refine W.region ?_
    refine W.q (Ev.assign .k) rfl ?_
    refine W.nil ?_
    refine W.own_nil 3 1 ?_
    refine W.then ?_
    refine W.ret ?_
    refine W.then_ret ?_
    refine W.retn (M' := [.arr _ 3 1 _]) (rs := [.tmp 2]) (avs := [_]) Try.results19 ⟨rfl, trivial⟩ rfl (.refl _) ?_
    first | exact ⟨_, rfl, by rw [hq hc_t4]⟩ | exact ⟨_, rfl, rfl⟩
  · refine W.skip ?_
    refine W.then ?_
    refine W.seq ?_
    refine W.region ?_
    refine W.bso (es := []) Try.underlying22 ty3 trivial rfl (by decide) rfl rfl ?_
    intro v5
    refine W.q (Ev.move (.t rfl)) rfl ?_
    first | refine W.app 0 (.t rfl) rfl (.sl (.t rfl) (ho)) Try.underlying22 ni22 ty3 rfl rfl (by simp; omega) rfl ?_ | refine W.app 1 (.t rfl) rfl (.sl (.t rfl) (ho)) Try.underlying22 ni22 ty3 rfl rfl (by simp; omega) rfl ?_ | refine W.app 2 (.t rfl) rfl (.sl (.t rfl) (ho)) Try.underlying22 ni22 ty3 rfl rfl (by simp; omega) rfl ?_ | refine W.app 3 (.t rfl) rfl (.sl (.t rfl) (ho)) Try.underlying22 ni22 ty3 rfl rfl (by simp; omega) rfl ?_ | refine W.app 0 (.t rfl) rfl (.arr 0 (.t rfl) rfl (ho)) Try.underlying22 ni22 ty3 rfl rfl (by simp; omega) rfl ?_ | refine W.app 0 (.t rfl) rfl (.arr 1 (.t rfl) rfl (ho)) Try.underlying22 ni22 ty3 rfl rfl (by simp; omega) rfl ?_ | refine W.app 0 (.t rfl) rfl (.arr 2 (.t rfl) rfl (ho)) Try.underlying22 ni22 ty3 rfl rfl (by simp; omega) rfl ?_ | refine W.app 0 (.t rfl) rfl (.arr 3 (.t rfl) rfl (ho)) Try.underlying22 ni22 ty3 rfl rfl (by simp; omega) rfl ?_ | refine W.app 1 (.t rfl) rfl (.arr 0 (.t rfl) rfl (ho)) Try.underlying22 ni22 ty3 rfl rfl (by simp; omega) rfl ?_ | refine W.app 1 (.t rfl) rfl (.arr 1 (.t rfl) rfl (ho)) Try.underlying22 ni22 ty3 rfl rfl (by simp; omega) rfl ?_ | refine W.app 1 (.t rfl) rfl (.arr 2 (.t rfl) rfl (ho)) Try.underlying22 ni22 ty3 rfl rfl (by simp; omega) rfl ?_ | refine W.app 1 (.t rfl) rfl (.arr 3 (.t rfl) rfl (ho)) Try.underlying22 ni22 ty3 rfl rfl (by simp; omega) rfl ?_ | refine W.app 2 (.t rfl) rfl (.arr 0 (.t rfl) rfl (ho)) Try.underlying22 ni22 ty3 rfl rfl (by simp; omega) rfl ?_ | refine W.app 2 (.t rfl) rfl (.arr 1 (.t rfl) rfl (ho)) Try.underlying22 ni22 ty3 rfl rfl (by simp; omega) rfl ?_ | refine W.app 2 (.t rfl) rfl (.arr 2 (.t rfl) rfl (ho)) Try.underlying22 ni22 ty3 rfl rfl (by simp; omega) rfl ?_ | refine W.app 2 (.t rfl) rfl (.arr 3 (.t rfl) rfl (ho)) Try.underlying22 ni22 ty3 rfl rfl (by simp; omega) rfl ?_ | refine W.app 3 (.t rfl) rfl (.arr 0 (.t rfl) rfl (ho)) Try.underlying22 ni22 ty3 rfl rfl (by simp; omega) rfl ?_ | refine W.app 3 (.t rfl) rfl (.arr 1 (.t rfl) rfl (ho)) Try.underlying22 ni22 ty3 rfl rfl (by simp; omega) rfl ?_ | refine W.app 3 (.t rfl) rfl (.arr 2 (.t rfl) rfl (ho)) Try.underlying22 ni22 ty3 rfl rfl (by simp; omega) rfl ?_ | refine W.app 3 (.t rfl) rfl (.arr 3 (.t rfl) rfl (ho)) Try.underlying22 ni22 ty3 rfl rfl (by simp; omega) rfl ?_
    intro v7
    refine W.q (Ev.assign (.t rfl)) rfl ?_
    refine W.nil ?_
    refine W.then ?_
    refine W.ret ?_
    refine W.retn (M' := [.arr _ 3 1 _]) (rs := [.tmp 2]) (avs := [_]) Try.results19 ⟨rfl, trivial⟩ rfl (.refl _) ?_
    first | exact ⟨_, rfl, by rw [hq hc_t4]⟩ | exact ⟨_, rfl, rfl⟩

theorem c_CloneNode (es : List AV) (ho : ∀ e ∈ es, e.okc = true) (hl : es.length ≤ 1099511627776) : FnC Try.prog 20 [.sl 4 es] [] (fun r M => ∃ v, r = .lit v ∧ M = [.arr v 42 4 es]) :=  by
  refine FnC.mk Try.func20 (by kernel_rfl) rfl Try.ntmps20 rfl (fun w0 F => ?_)
  refine W.seq ?_
  refine W.region ?_
  refine W.q (Ev.assign .k) rfl ?_
  refine W.nil ?_
  refine W.then ?_
  refine W.seq ?_
  refine W.seq ?_
  refine W.region ?_
  refine W.q (Ev.move (.t rfl)) rfl ?_
  refine W.slnil (.t rfl) Try.underlying24 rfl (fun q hq => ?_)
  refine W.nil ?_
  refine W.then ?_
  refine W.cond (.t rfl) (fun hc_t4 => ?_) (fun hc_t4 => ?_)
  · refine W.seq ?_
    refine W.region ?_
    refine W.q (Ev.assign .k) rfl ?_
    refine W.nil ?_
    refine W.own_nil 42 4 ?_
    refine W.then ?_
    refine W.ret ?_
    refine W.then_ret ?_
    refine W.retn (M' := [.arr _ 42 4 _]) (rs := [.tmp 2]) (avs := [_]) Try.results20 ⟨rfl, trivial⟩ rfl (.refl _) ?_
    first | exact ⟨_, rfl, by rw [hq hc_t4]⟩ | exact ⟨_, rfl, rfl⟩
  · refine W.skip ?_
    refine W.then ?_
    refine W.seq ?_
    refine W.region ?_
    refine W.bso (es := []) Try.underlying24 ty42 trivial rfl (by decide) rfl rfl ?_
    intro v5
    refine W.q (Ev.move (.t rfl)) rfl ?_
    first | refine W.app 0 (.t rfl) rfl (.sl (.t rfl) (ho)) Try.underlying24 ni24 ty42 rfl rfl (by simp; omega) rfl ?_ | refine W.app 1 (.t rfl) rfl (.sl (.t rfl) (ho)) Try.underlying24 ni24 ty42 rfl rfl (by simp; omega) rfl ?_ | refine W.app 2 (.t rfl) rfl (.sl (.t rfl) (ho)) Try.underlying24 ni24 ty42 rfl rfl (by simp; omega) rfl ?_ | refine W.app 3 (.t rfl) rfl (.sl (.t rfl) (ho)) Try.underlying24 ni24 ty42 rfl rfl (by simp; omega) rfl ?_ | refine W.app 0 (.t rfl) rfl (.arr 0 (.t rfl) rfl (ho)) Try.underlying24 ni24 ty42 rfl rfl (by simp; omega) rfl ?_ | refine W.app 0 (.t rfl) rfl (.arr 1 (.t rfl) rfl (ho)) Try.underlying24 ni24 ty42 rfl rfl (by simp; omega) rfl ?_ | refine W.app 0 (.t rfl) rfl (.arr 2 (.t rfl) rfl (ho)) Try.underlying24 ni24 ty42 rfl rfl (by simp; omega) rfl ?_ | refine W.app 0 (.t rfl) rfl (.arr 3 (.t rfl) rfl (ho)) Try.underlying24 ni24 ty42 rfl rfl (by simp; omega) rfl ?_ | refine W.app 1 (.t rfl) rfl (.arr 0 (.t rfl) rfl (ho)) Try.underlying24 ni24 ty42 rfl rfl (by simp; omega) rfl ?_ | refine W.app 1 (.t rfl) rfl (.arr 1 (.t rfl) rfl (ho)) Try.underlying24 ni24 ty42 rfl rfl (by simp; omega) rfl ?_ | refine W.app 1 (.t rfl) rfl (.arr 2 (.t rfl) rfl (ho)) Try.underlying24 ni24 ty42 rfl rfl (by simp; omega) rfl ?_ | refine W.app 1 (.t rfl) rfl (.arr 3 (.t rfl) rfl (ho)) Try.underlying24 ni24 ty42 rfl rfl (by simp; omega) rfl ?_ | refine W.app 2 (.t rfl) rfl (.arr 0 (.t rfl) rfl (ho)) Try.underlying24 ni24 ty42 rfl rfl (by simp; omega) rfl ?_ | refine W.app 2 (.t rfl) rfl (.arr 1 (.t rfl) rfl (ho)) Try.underlying24 ni24 ty42 rfl rfl (by simp; omega) rfl ?_ | refine W.app 2 (.t rfl) rfl (.arr 2 (.t rfl) rfl (ho)) Try.underlying24 ni24 ty42 rfl rfl (by simp; omega) rfl ?_ | refine W.app 2 (.t rfl) rfl (.arr 3 (.t rfl) rfl (ho)) Try.underlying24 ni24 ty42 rfl rfl (by simp; omega) rfl ?_ | refine W.app 3 (.t rfl) rfl (.arr 0 (.t rfl) rfl (ho)) Try.underlying24 ni24 ty42 rfl rfl (by simp; omega) rfl ?_ | refine W.app 3 (.t rfl) rfl (.arr 1 (.t rfl) rfl (ho)) Try.underlying24 ni24 ty42 rfl rfl (by simp; omega) rfl ?_ | refine W.app 3 (.t rfl) rfl (.arr 2 (.t rfl) rfl (ho)) Try.underlying24 ni24 ty42 rfl rfl (by simp; omega) rfl ?_ | refine W.app 3 (.t rfl) rfl (.arr 3 (.t rfl) rfl (ho)) Try.underlying24 ni24 ty42 rfl rfl (by simp; omega) rfl ?_
    intro v7
    refine W.q (Ev.assign (.t rfl)) rfl ?_
    refine W.nil ?_
    refine W.then ?_
    refine W.ret ?_
    refine W.retn (M' := [.arr _ 42 4 _]) (rs := [.tmp 2]) (avs := [_]) Try.results20 ⟨rfl, trivial⟩ rfl (.refl _) ?_
    first | exact ⟨_, rfl, by rw [hq hc_t4]⟩ | exact ⟨_, rfl, rfl⟩

end WClone

end Go.Proofs.Ytpjngpegkoohgaa
