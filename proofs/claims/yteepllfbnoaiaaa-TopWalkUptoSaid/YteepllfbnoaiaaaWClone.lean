/-
  Slices that are cloned.
-/
import Derived.Test.YteepllfbnoaiaaaCallG
import Derived.Test.YteepllfbnoaiaaaBase
set_option linter.unusedVariables false
set_option linter.unusedSimpArgs false
set_option maxRecDepth 100000
namespace Go.Proofs.Yteepllfbnoaiaaa
open Go.Vl

namespace WClone
theorem ty3 : Ty Try.prog 3 1 8 (.int .i64 0) := Ty.of (by kernel_rfl)
theorem ty4 : Ty Try.prog 4 1 1 (.bool false) := Ty.of (by kernel_rfl)
theorem ty35 : Ty Try.prog 35 4 80 (.agg #[.string ⟨#[]⟩, .slice none 0 0, .string ⟨#[]⟩, .slice none 0 0]) := Ty.of (by kernel_rfl)
theorem ni22 : NotInt Try.prog 22 := .inl ⟨_, Try.underlying22⟩
theorem ni25 : NotInt Try.prog 25 := .inl ⟨_, Try.underlying25⟩
theorem ni104 : NotInt Try.prog 104 := .inl ⟨_, Try.underlying104⟩
theorem c_CloneInt (es : List AV) (ho : ∀ e ∈ es, e.okc = true) (hl : es.length ≤ 1099511627776) : FnC Try.prog 69 [.sl 1 es] [] (fun r M => ∃ v, r = .lit v ∧ M = [.arr v 3 1 es]) :=  by
  refine FnC.mk Try.func69 (by kernel_rfl) rfl Try.ntmps69 rfl (fun w0 F => ?_)
  refine W.seq ?_
  refine W.region ?_
  refine W.q (Ev.assign .k) rfl ?_
  refine W.nil ?_
  refine W.then ?_
  refine W.seq ?_
  refine W.seq ?_
  refine W.region ?_
  refine W.q (Ev.move (.t rfl)) rfl ?_
  refine W.slnil (.t rfl) Try.underlying22 rfl (fun q hq => ?_)
  refine W.nil ?_
  refine W.then ?_
  refine W.cond (.t rfl) (fun hc_t4 => ?_) (fun hc_t4 => ?_)
  · refine W.seq ?_
    refine W.region ?_
    refine W.q (Ev.assign .k) rfl ?_
    refine W.nil ?_
    refine W.own_nil 3 1 ?_
    refine W.then ?_
    refine W.ret ?_
    refine W.then_ret ?_
    refine W.retn (M' := [.arr _ 3 1 _]) (rs := [.tmp 2]) (avs := [_]) Try.results69 ⟨rfl, trivial⟩ rfl (.refl _) ?_
    first | exact ⟨_, rfl, by rw [hq hc_t4]⟩ | exact ⟨_, rfl, rfl⟩
  · refine W.skip ?_
    refine W.then ?_
    refine W.seq ?_
    refine W.region ?_
    refine W.bso (es := []) Try.underlying22 ty3 trivial rfl (by decide) rfl rfl ?_
    intro v5
    refine W.q (Ev.move (.t rfl)) rfl ?_
    first | refine W.app 0 (.t rfl) rfl (.sl (.t rfl) (ho)) Try.underlying22 ni22 ty3 rfl rfl (by simp; omega) rfl ?_ | refine W.app 1 (.t rfl) rfl (.sl (.t rfl) (ho)) Try.underlying22 ni22 ty3 rfl rfl (by simp; omega) rfl ?_ | refine W.app 2 (.t rfl) rfl (.sl (.t rfl) (ho)) Try.underlying22 ni22 ty3 rfl rfl (by simp; omega) rfl ?_ | refine W.app 3 (.t rfl) rfl (.sl (.t rfl) (ho)) Try.underlying22 ni22 ty3 rfl rfl (by simp; omega) rfl ?_ | refine W.app 0 (.t rfl) rfl (.arr 0 (.t rfl) rfl (ho)) Try.underlying22 ni22 ty3 rfl rfl (by simp; omega) rfl ?_ | refine W.app 0 (.t rfl) rfl (.arr 1 (.t rfl) rfl (ho)) Try.underlying22 ni22 ty3 rfl rfl (by simp; omega) rfl ?_ | refine W.app 0 (.t rfl) rfl (.arr 2 (.t rfl) rfl (ho)) Try.underlying22 ni22 ty3 rfl rfl (by simp; omega) rfl ?_ | refine W.app 0 (.t rfl) rfl (.arr 3 (.t rfl) rfl (ho)) Try.underlying22 ni22 ty3 rfl rfl (by simp; omega) rfl ?_ | refine W.app 1 (.t rfl) rfl (.arr 0 (.t rfl) rfl (ho)) Try.underlying22 ni22 ty3 rfl rfl (by simp; omega) rfl ?_ | refine W.app 1 (.t rfl) rfl (.arr 1 (.t rfl) rfl (ho)) Try.underlying22 ni22 ty3 rfl rfl (by simp; omega) rfl ?_ | refine W.app 1 (.t rfl) rfl (.arr 2 (.t rfl) rfl (ho)) Try.underlying22 ni22 ty3 rfl rfl (by simp; omega) rfl ?_ | refine W.app 1 (.t rfl) rfl (.arr 3 (.t rfl) rfl (ho)) Try.underlying22 ni22 ty3 rfl rfl (by simp; omega) rfl ?_ | refine W.app 2 (.t rfl) rfl (.arr 0 (.t rfl) rfl (ho)) Try.underlying22 ni22 ty3 rfl rfl (by simp; omega) rfl ?_ | refine W.app 2 (.t rfl) rfl (.arr 1 (.t rfl) rfl (ho)) Try.underlying22 ni22 ty3 rfl rfl (by simp; omega) rfl ?_ | refine W.app 2 (.t rfl) rfl (.arr 2 (.t rfl) rfl (ho)) Try.underlying22 ni22 ty3 rfl rfl (by simp; omega) rfl ?_ | refine W.app 2 (.t rfl) rfl (.arr 3 (.t rfl) rfl (ho)) Try.underlying22 ni22 ty3 rfl rfl (by simp; omega) rfl ?_ | refine W.app 3 (.t rfl) rfl (.arr 0 (.t rfl) rfl (ho)) Try.underlying22 ni22 ty3 rfl rfl (by simp; omega) rfl ?_ | refine W.app 3 (.t rfl) rfl (.arr 1 (.t rfl) rfl (ho)) Try.underlying22 ni22 ty3 rfl rfl (by simp; omega) rfl ?_ | refine W.app 3 (.t rfl) rfl (.arr 2 (.t rfl) rfl (ho)) Try.underlying22 ni22 ty3 rfl rfl (by simp; omega) rfl ?_ | refine W.app 3 (.t rfl) rfl (.arr 3 (.t rfl) rfl (ho)) Try.underlying22 ni22 ty3 rfl rfl (by simp; omega) rfl ?_
    intro v7
    refine W.q (Ev.assign (.t rfl)) rfl ?_
    refine W.nil ?_
    refine W.then ?_
    refine W.ret ?_
    refine W.retn (M' := [.arr _ 3 1 _]) (rs := [.tmp 2]) (avs := [_]) Try.results69 ⟨rfl, trivial⟩ rfl (.refl _) ?_
    first | exact ⟨_, rfl, by rw [hq hc_t4]⟩ | exact ⟨_, rfl, rfl⟩

theorem c_CloneBool (es : List AV) (ho : ∀ e ∈ es, e.okc = true) (hl : es.length ≤ 1099511627776) : FnC Try.prog 70 [.sl 1 es] [] (fun r M => ∃ v, r = .lit v ∧ M = [.arr v 4 1 es]) :=  by
  refine FnC.mk Try.func70 (by kernel_rfl) rfl Try.ntmps70 rfl (fun w0 F => ?_)
  refine W.seq ?_
  refine W.region ?_
  refine W.q (Ev.assign .k) rfl ?_
  refine W.nil ?_
  refine W.then ?_
  refine W.seq ?_
  refine W.seq ?_
  refine W.region ?_
  refine W.q (Ev.move (.t rfl)) rfl ?_
  refine W.slnil (.t rfl) Try.underlying104 rfl (fun q hq => ?_)
  refine W.nil ?_
  refine W.then ?_
  refine W.cond (.t rfl) (fun hc_t4 => ?_) (fun hc_t4 => ?_)
  · refine W.seq ?_
    refine W.region ?_
    refine W.q (Ev.assign .k) rfl ?_
    refine W.nil ?_
    refine W.own_nil 4 1 ?_
    refine W.then ?_
    refine W.ret ?_
    refine W.then_ret ?_
    refine W.retn (M' := [.arr _ 4 1 _]) (rs := [.tmp 2]) (avs := [_]) Try.results70 ⟨rfl, trivial⟩ rfl (.refl _) ?_
    first | exact ⟨_, rfl, by rw [hq hc_t4]⟩ | exact ⟨_, rfl, rfl⟩
  · refine W.skip ?_
    refine W.then ?_
    refine W.seq ?_
    refine W.region ?_
    refine W.bso (es := []) Try.underlying104 ty4 trivial rfl (by decide) rfl rfl ?_
    intro v5
    refine W.q (Ev.move (.t rfl)) rfl ?_
    first | refine W.app 0 (.t rfl) rfl (.sl (.t rfl) (ho)) Try.underlying104 ni104 ty4 rfl rfl (by simp; omega) rfl ?_ | refine W.app 1 (.t rfl) rfl (.sl (.t rfl) (ho)) Try.underlying104 ni104 ty4 rfl rfl (by simp; omega) rfl ?_ | refine W.app 2 (.t rfl) rfl (.sl (.t rfl) (ho)) Try.underlying104 ni104 ty4 rfl rfl (by simp; omega) rfl ?_ | refine W.app 3 (.t rfl) rfl (.sl (.t rfl) (ho)) Try.underlying104 ni104 ty4 rfl rfl (by simp; omega) rfl ?_ | refine W.app 0 (.t rfl) rfl (.arr 0 (.t rfl) rfl (ho)) Try.underlying104 ni104 ty4 rfl rfl (by simp; omega) rfl ?_ | refine W.app 0 (.t rfl) rfl (.arr 1 (.t rfl) rfl (ho)) Try.underlying104 ni104 ty4 rfl rfl (by simp; omega) rfl ?_ | refine W.app 0 (.t rfl) rfl (.arr 2 (.t rfl) rfl (ho)) Try.underlying104 ni104 ty4 rfl rfl (by simp; omega) rfl ?_ | refine W.app 0 (.t rfl) rfl (.arr 3 (.t rfl) rfl (ho)) Try.underlying104 ni104 ty4 rfl rfl (by simp; omega) rfl ?_ | refine W.app 1 (.t rfl) rfl (.arr 0 (.t rfl) rfl (ho)) Try.underlying104 ni104 ty4 rfl rfl (by simp; omega) rfl ?_ | refine W.app 1 (.t rfl) rfl (.arr 1 (.t rfl) rfl (ho)) Try.underlying104 ni104 ty4 rfl rfl (by simp; omega) rfl ?_ | refine W.app 1 (.t rfl) rfl (.arr 2 (.t rfl) rfl (ho)) Try.underlying104 ni104 ty4 rfl rfl (by simp; omega) rfl ?_ | refine W.app 1 (.t rfl) rfl (.arr 3 (.t rfl) rfl (ho)) Try.underlying104 ni104 ty4 rfl rfl (by simp; omega) rfl ?_ | refine W.app 2 (.t rfl) rfl (.arr 0 (.t rfl) rfl (ho)) Try.underlying104 ni104 ty4 rfl rfl (by simp; omega) rfl ?_ | refine W.app 2 (.t rfl) rfl (.arr 1 (.t rfl) rfl (ho)) Try.underlying104 ni104 ty4 rfl rfl (by simp; omega) rfl ?_ | refine W.app 2 (.t rfl) rfl (.arr 2 (.t rfl) rfl (ho)) Try.underlying104 ni104 ty4 rfl rfl (by simp; omega) rfl ?_ | refine W.app 2 (.t rfl) rfl (.arr 3 (.t rfl) rfl (ho)) Try.underlying104 ni104 ty4 rfl rfl (by simp; omega) rfl ?_ | refine W.app 3 (.t rfl) rfl (.arr 0 (.t rfl) rfl (ho)) Try.underlying104 ni104 ty4 rfl rfl (by simp; omega) rfl ?_ | refine W.app 3 (.t rfl) rfl (.arr 1 (.t rfl) rfl (ho)) Try.underlying104 ni104 ty4 rfl rfl (by simp; omega) rfl ?_ | refine W.app 3 (.t rfl) rfl (.arr 2 (.t rfl) rfl (ho)) Try.underlying104 ni104 ty4 rfl rfl (by simp; omega) rfl ?_ | refine W.app 3 (.t rfl) rfl (.arr 3 (.t rfl) rfl (ho)) Try.underlying104 ni104 ty4 rfl rfl (by simp; omega) rfl ?_
    intro v7
    refine W.q (Ev.assign (.t rfl)) rfl ?_
    refine W.nil ?_
    refine W.then ?_
    refine W.ret ?_
    refine W.retn (M' := [.arr _ 4 1 _]) (rs := [.tmp 2]) (avs := [_]) Try.results70 ⟨rfl, trivial⟩ rfl (.refl _) ?_
    first | exact ⟨_, rfl, by rw [hq hc_t4]⟩ | exact ⟨_, rfl, rfl⟩

theorem c_CloneNode (es : List AV) (ho : ∀ e ∈ es, e.okc = true) (hl : es.length ≤ 1099511627776) : FnC Try.prog 77 [.sl 4 es] [] (fun r M => ∃ v, r = .lit v ∧ M = [.arr v 35 4 es]) :=  by
  refine FnC.mk Try.func77 (by kernel_rfl) rfl Try.ntmps77 rfl (fun w0 F => ?_)
  refine W.seq ?_
  refine W.region ?_
  refine W.q (Ev.assign .k) rfl ?_
  refine W.nil ?_
  refine W.then ?_
  refine W.seq ?_
  refine W.seq ?_
  refine W.region ?_
  refine W.q (Ev.move (.t rfl)) rfl ?_
  refine W.slnil (.t rfl) Try.underlying25 rfl (fun q hq => ?_)
  refine W.nil ?_
  refine W.then ?_
  refine W.cond (.t rfl) (fun hc_t4 => ?_) (fun hc_t4 => ?_)
  · refine W.seq ?_
    refine W.region ?_
    refine W.q (Ev.assign .k) rfl ?_
    refine W.nil ?_
    refine W.own_nil 35 4 ?_
    refine W.then ?_
    refine W.ret ?_
    refine W.then_ret ?_
    refine W.retn (M' := [.arr _ 35 4 _]) (rs := [.tmp 2]) (avs := [_]) Try.results77 ⟨rfl, trivial⟩ rfl (.refl _) ?_
    first | exact ⟨_, rfl, by rw [hq hc_t4]⟩ | exact ⟨_, rfl, rfl⟩
  · refine W.skip ?_
    refine W.then ?_
    refine W.seq ?_
    refine W.region ?_
    refine W.bso (es := []) Try.underlying25 ty35 trivial rfl (by decide) rfl rfl ?_
    intro v5
    refine W.q (Ev.move (.t rfl)) rfl ?_
    first | refine W.app 0 (.t rfl) rfl (.sl (.t rfl) (ho)) Try.underlying25 ni25 ty35 rfl rfl (by simp; omega) rfl ?_ | refine W.app 1 (.t rfl) rfl (.sl (.t rfl) (ho)) Try.underlying25 ni25 ty35 rfl rfl (by simp; omega) rfl ?_ | refine W.app 2 (.t rfl) rfl (.sl (.t rfl) (ho)) Try.underlying25 ni25 ty35 rfl rfl (by simp; omega) rfl ?_ | refine W.app 3 (.t rfl) rfl (.sl (.t rfl) (ho)) Try.underlying25 ni25 ty35 rfl rfl (by simp; omega) rfl ?_ | refine W.app 0 (.t rfl) rfl (.arr 0 (.t rfl) rfl (ho)) Try.underlying25 ni25 ty35 rfl rfl (by simp; omega) rfl ?_ | refine W.app 0 (.t rfl) rfl (.arr 1 (.t rfl) rfl (ho)) Try.underlying25 ni25 ty35 rfl rfl (by simp; omega) rfl ?_ | refine W.app 0 (.t rfl) rfl (.arr 2 (.t rfl) rfl (ho)) Try.underlying25 ni25 ty35 rfl rfl (by simp; omega) rfl ?_ | refine W.app 0 (.t rfl) rfl (.arr 3 (.t rfl) rfl (ho)) Try.underlying25 ni25 ty35 rfl rfl (by simp; omega) rfl ?_ | refine W.app 1 (.t rfl) rfl (.arr 0 (.t rfl) rfl (ho)) Try.underlying25 ni25 ty35 rfl rfl (by simp; omega) rfl ?_ | refine W.app 1 (.t rfl) rfl (.arr 1 (.t rfl) rfl (ho)) Try.underlying25 ni25 ty35 rfl rfl (by simp; omega) rfl ?_ | refine W.app 1 (.t rfl) rfl (.arr 2 (.t rfl) rfl (ho)) Try.underlying25 ni25 ty35 rfl rfl (by simp; omega) rfl ?_ | refine W.app 1 (.t rfl) rfl (.arr 3 (.t rfl) rfl (ho)) Try.underlying25 ni25 ty35 rfl rfl (by simp; omega) rfl ?_ | refine W.app 2 (.t rfl) rfl (.arr 0 (.t rfl) rfl (ho)) Try.underlying25 ni25 ty35 rfl rfl (by simp; omega) rfl ?_ | refine W.app 2 (.t rfl) rfl (.arr 1 (.t rfl) rfl (ho)) Try.underlying25 ni25 ty35 rfl rfl (by simp; omega) rfl ?_ | refine W.app 2 (.t rfl) rfl (.arr 2 (.t rfl) rfl (ho)) Try.underlying25 ni25 ty35 rfl rfl (by simp; omega) rfl ?_ | refine W.app 2 (.t rfl) rfl (.arr 3 (.t rfl) rfl (ho)) Try.underlying25 ni25 ty35 rfl rfl (by simp; omega) rfl ?_ | refine W.app 3 (.t rfl) rfl (.arr 0 (.t rfl) rfl (ho)) Try.underlying25 ni25 ty35 rfl rfl (by simp; omega) rfl ?_ | refine W.app 3 (.t rfl) rfl (.arr 1 (.t rfl) rfl (ho)) Try.underlying25 ni25 ty35 rfl rfl (by simp; omega) rfl ?_ | refine W.app 3 (.t rfl) rfl (.arr 2 (.t rfl) rfl (ho)) Try.underlying25 ni25 ty35 rfl rfl (by simp; omega) rfl ?_ | refine W.app 3 (.t rfl) rfl (.arr 3 (.t rfl) rfl (ho)) Try.underlying25 ni25 ty35 rfl rfl (by simp; omega) rfl ?_
    intro v7
    refine W.q (Ev.assign (.t rfl)) rfl ?_
    refine W.nil ?_
    refine W.then ?_
    refine W.ret ?_
    refine W.retn (M' := [.arr _ 35 4 _]) (rs := [.tmp 2]) (avs := [_]) Try.results77 ⟨rfl, trivial⟩ rfl (.refl _) ?_
    first | exact ⟨_, rfl, by rw [hq hc_t4]⟩ | exact ⟨_, rfl, rfl⟩

end WClone

end Go.Proofs.Yteepllfbnoaiaaa
