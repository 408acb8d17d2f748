/-
  Does an element fit a pick?
-/
import Derived.Test.YteepllfbnoaiaaaPick
import Derived.Test.YteepllfbnoaiaaaWName
import Derived.Test.YteepllfbnoaiaaaWAttr
import Derived.Test.YteepllfbnoaiaaaWClone
set_option linter.unusedVariables false
set_option linter.unusedSimpArgs false
set_option maxRecDepth 100000
namespace Go.Proofs.Yteepllfbnoaiaaa
open Go.Vl

namespace WFits
theorem ty9 : Ty Try.prog 9 1 16 (.string ⟨#[]⟩) := Ty.of (by kernel_rfl)
theorem ty33 : Ty Try.prog 33 1 24 (.slice none 0 0) := Ty.of (by kernel_rfl)
theorem ag9 : IsAgg Try.prog 9 false := ⟨_, Try.underlying9, rfl⟩
theorem ag33 : IsAgg Try.prog 33 false := ⟨_, Try.underlying33, rfl⟩
theorem fa32_0 : FieldAt Try.prog 32 0 0 1 false := ⟨_, _, Try.underlying32, rfl, rfl, ty9.size, ag9, by decide⟩
theorem fa32_1 : FieldAt Try.prog 32 1 1 1 false := ⟨_, _, Try.underlying32, rfl, rfl, ty9.size, ag9, by decide⟩
theorem fa35_0 : FieldAt Try.prog 35 0 0 1 false := ⟨_, _, Try.underlying35, rfl, rfl, ty9.size, ag9, by decide⟩
theorem fa35_1 : FieldAt Try.prog 35 1 1 1 false := ⟨_, _, Try.underlying35, rfl, rfl, ty33.size, ag33, by decide⟩
theorem fa78_0 : FieldAt Try.prog 78 0 0 1 false := ⟨_, _, Try.underlying78, rfl, rfl, ty9.size, ag9, by decide⟩
theorem c_fits1 (a : Dc) (p : Pk) (b : Nat) : FnC Try.prog 89 [dav a, .lit (.pointer (some ⟨b, 0, none⟩))] [.box b 32 [.str p.name, .str p.attr, .bool p.deep]] (fun r M => r = .bool (a.1 == p.attr) ∧ M = [.box b 32 [.str p.name, .str p.attr, .bool p.deep]]) :=  by
  refine FnC.mk Try.func89 (by kernel_rfl) rfl Try.ntmps89 rfl (fun w0 F => ?_)
  refine W.seq ?_
  refine W.region ?_
  refine W.box (.t rfl) rfl rfl ?_
  intro b2
  refine W.q (Ev.assign .k) rfl ?_
  refine W.nil ?_
  refine W.then ?_
  refine W.seq ?_
  refine W.region ?_
  first | refine W.q (Ev.fae (.t rfl) fa78_0 rfl) rfl ?_ | refine W.q (Ev.fab (.t rfl) fa78_0) rfl ?_ | refine W.q (Ev.faa (.t rfl) fa78_0) rfl ?_
  first | refine W.q (Ev.lde1 (.t rfl) ag9) rfl ?_ | refine W.q (Ev.ldb1 0 (.t rfl) rfl ag9 rfl) rfl ?_ | refine W.q (Ev.ldb1 1 (.t rfl) rfl ag9 rfl) rfl ?_ | refine W.q (Ev.ldb1 2 (.t rfl) rfl ag9 rfl) rfl ?_ | refine W.q (Ev.ldb1 3 (.t rfl) rfl ag9 rfl) rfl ?_
  first | refine W.q (Ev.fae (.t rfl) fa32_1 rfl) rfl ?_ | refine W.q (Ev.fab (.t rfl) fa32_1) rfl ?_ | refine W.q (Ev.faa (.t rfl) fa32_1) rfl ?_
  first | refine W.q (Ev.lde1 (.t rfl) ag9) rfl ?_ | refine W.q (Ev.ldb1 0 (.t rfl) rfl ag9 rfl) rfl ?_ | refine W.q (Ev.ldb1 1 (.t rfl) rfl ag9 rfl) rfl ?_ | refine W.q (Ev.ldb1 2 (.t rfl) rfl ag9 rfl) rfl ?_ | refine W.q (Ev.ldb1 3 (.t rfl) rfl ag9 rfl) rfl ?_
  refine W.q (Ev.eqs (.t rfl) (.t rfl)) rfl ?_
  refine W.q (Ev.assign (.t rfl)) rfl ?_
  refine W.nil ?_
  refine W.then ?_
  refine W.ret ?_
  refine W.retn (M' := [.box b 32 _]) (D := [_]) (rs := [.tmp 3]) (avs := [_]) Try.results89 ⟨rfl, trivial⟩ rfl (List.Perm.swap _ _ []) ?_
  exact ⟨rfl, rfl⟩

theorem c_fits (p : Pk) (d : Nd) (hd : d.attrs.length ≤ 1099511627776) : FnP Try.prog 71 [kav p, Nd.avx d] (.bool (Pk.fits p d)) :=  by
  refine FnC.mk Try.func71 (by kernel_rfl) rfl Try.ntmps71 rfl (fun w0 F => ?_)
  refine W.seq ?_
  refine W.region ?_
  refine W.box (.t rfl) rfl rfl ?_
  intro b2
  refine W.box (.t rfl) rfl rfl ?_
  intro b3
  refine W.q (Ev.assign .k) rfl ?_
  refine W.nil ?_
  refine W.then ?_
  refine W.seq ?_
  refine W.seq ?_
  refine W.region ?_
  first | refine W.q (Ev.fae (.t rfl) fa35_0 rfl) rfl ?_ | refine W.q (Ev.fab (.t rfl) fa35_0) rfl ?_ | refine W.q (Ev.faa (.t rfl) fa35_0) rfl ?_
  first | refine W.q (Ev.lde1 (.t rfl) ag9) rfl ?_ | refine W.q (Ev.ldb1 0 (.t rfl) rfl ag9 rfl) rfl ?_ | refine W.q (Ev.ldb1 1 (.t rfl) rfl ag9 rfl) rfl ?_ | refine W.q (Ev.ldb1 2 (.t rfl) rfl ag9 rfl) rfl ?_ | refine W.q (Ev.ldb1 3 (.t rfl) rfl ag9 rfl) rfl ?_
  refine W.q (Ev.eqs (.t rfl) .k) rfl ?_
  refine W.q (Ev.move (.t rfl)) rfl ?_
  first | refine W.qgF rfl rfl (Ev.fae (.t rfl) fa32_0 rfl) rfl ?_ | refine W.qgF rfl rfl (Ev.fab (.t rfl) fa32_0) rfl ?_ | refine W.qgF rfl rfl (Ev.faa (.t rfl) fa32_0) rfl ?_
  first | refine W.qgF rfl rfl (Ev.lde1 (.c rfl) ag9) rfl ?_ | refine W.qgF rfl rfl (Ev.ldb1 0 (.c rfl) rfl ag9 rfl) rfl ?_ | refine W.qgF rfl rfl (Ev.ldb1 1 (.c rfl) rfl ag9 rfl) rfl ?_ | refine W.qgF rfl rfl (Ev.ldb1 2 (.c rfl) rfl ag9 rfl) rfl ?_ | refine W.qgF rfl rfl (Ev.ldb1 3 (.c rfl) rfl ag9 rfl) rfl ?_
  refine W.qgF rfl rfl (Ev.nes (.c rfl) .k) rfl ?_
  refine W.qgF rfl rfl (Ev.move (.c rfl)) rfl ?_
  first | refine W.qgT' rfl rfl (Ev.fae (.t rfl) fa32_0 rfl) rfl ?_ | refine W.qgT' rfl rfl (Ev.fab (.t rfl) fa32_0) rfl ?_ | refine W.qgT' rfl rfl (Ev.faa (.t rfl) fa32_0) rfl ?_
  first | refine W.qgT' rfl rfl (Ev.lde1 (.c rfl) ag9) rfl ?_ | refine W.qgT' rfl rfl (Ev.ldb1 0 (.c rfl) rfl ag9 rfl) rfl ?_ | refine W.qgT' rfl rfl (Ev.ldb1 1 (.c rfl) rfl ag9 rfl) rfl ?_ | refine W.qgT' rfl rfl (Ev.ldb1 2 (.c rfl) rfl ag9 rfl) rfl ?_ | refine W.qgT' rfl rfl (Ev.ldb1 3 (.c rfl) rfl ag9 rfl) rfl ?_
  first | refine W.qgT' rfl rfl (Ev.fae (.t rfl) fa35_0 rfl) rfl ?_ | refine W.qgT' rfl rfl (Ev.fab (.t rfl) fa35_0) rfl ?_ | refine W.qgT' rfl rfl (Ev.faa (.t rfl) fa35_0) rfl ?_
  first | refine W.qgT' rfl rfl (Ev.lde1 (.c rfl) ag9) rfl ?_ | refine W.qgT' rfl rfl (Ev.ldb1 0 (.c rfl) rfl ag9 rfl) rfl ?_ | refine W.qgT' rfl rfl (Ev.ldb1 1 (.c rfl) rfl ag9 rfl) rfl ?_ | refine W.qgT' rfl rfl (Ev.ldb1 2 (.c rfl) rfl ag9 rfl) rfl ?_ | refine W.qgT' rfl rfl (Ev.ldb1 3 (.c rfl) rfl ag9 rfl) rfl ?_
  refine W.qgT' rfl rfl (Ev.nes (.c rfl) (.c rfl)) rfl ?_
  refine W.qgF rfl rfl (Ev.and (.c rfl) ⟨_, _, rfl, rfl, by first | (simp; done) | (intro hg_ hp_; simp [hp_]; done) | (simp <;> omega; done) | (simp_all; done) | grind⟩) rfl ?_
  refine W.q (Ev.or (.t rfl) ⟨_, _, rfl, rfl, by first | (simp; done) | (intro hg_ hp_; simp [hp_]; done) | (simp <;> omega; done) | (simp_all; done) | grind⟩) rfl ?_
  refine W.nil ?_
  refine W.then ?_
  refine W.cond (.t rfl) (fun hc_t19 => ?_) (fun hc_t19 => ?_)
  · have hq : Pk.fits p d = false := by have h := hc_t19; simp only [Pk.fits, bne, h, Bool.not_true, Bool.false_and]
    refine W.seq ?_
    refine W.region ?_
    refine W.q (Ev.assign .k) rfl ?_
    refine W.nil ?_
    refine W.then ?_
    refine W.ret ?_
    refine W.then_ret ?_
    refine W.retn (M' := []) (D := _) (rs := [.tmp 4]) (avs := [_]) Try.results71 ⟨rfl, trivial⟩ rfl (.refl _) ?_
    first | exact ⟨congrArg AV.bool hq.symm, rfl⟩ | exact ⟨congrArg AV.bool (by simp only [Pk.fits, bne, h19, Bool.not_false, Bool.true_and]), rfl⟩
  · have h19 := hc_t19
    refine W.skip ?_
    refine W.then ?_
    refine W.seq ?_
    refine W.region ?_
    first | refine W.q (Ev.fae (.t rfl) fa32_1 rfl) rfl ?_ | refine W.q (Ev.fab (.t rfl) fa32_1) rfl ?_ | refine W.q (Ev.faa (.t rfl) fa32_1) rfl ?_
    first | refine W.q (Ev.lde1 (.t rfl) ag9) rfl ?_ | refine W.q (Ev.ldb1 0 (.t rfl) rfl ag9 rfl) rfl ?_ | refine W.q (Ev.ldb1 1 (.t rfl) rfl ag9 rfl) rfl ?_ | refine W.q (Ev.ldb1 2 (.t rfl) rfl ag9 rfl) rfl ?_ | refine W.q (Ev.ldb1 3 (.t rfl) rfl ag9 rfl) rfl ?_
    refine W.q (Ev.eqs (.t rfl) .k) rfl ?_
    refine W.q (Ev.move (.t rfl)) rfl ?_
    first | refine W.qgF rfl rfl (Ev.fae (.t rfl) fa35_1 rfl) rfl ?_ | refine W.qgF rfl rfl (Ev.fab (.t rfl) fa35_1) rfl ?_ | refine W.qgF rfl rfl (Ev.faa (.t rfl) fa35_1) rfl ?_
    first | refine W.qgF rfl rfl (Ev.lde1 (.c rfl) ag33) rfl ?_ | refine W.qgF rfl rfl (Ev.ldb1 0 (.c rfl) rfl ag33 rfl) rfl ?_ | refine W.qgF rfl rfl (Ev.ldb1 1 (.c rfl) rfl ag33 rfl) rfl ?_ | refine W.qgF rfl rfl (Ev.ldb1 2 (.c rfl) rfl ag33 rfl) rfl ?_ | refine W.qgF rfl rfl (Ev.ldb1 3 (.c rfl) rfl ag33 rfl) rfl ?_
    refine W.qgF rfl rfl (Ev.mkfn (caps := [.tmp 2]) (vs := [_]) ⟨(.t rfl), trivial⟩) rfl ?_
    refine W.callgF (Min := _) (caps := []) (avs := [_, _]) rfl rfl (fun hg => WAttr.c_ContainsFunc d.attrs 89 [.pointer (some ⟨b2, 0, none⟩)] [.box b2 32 [.str p.name, .str p.attr, .bool p.deep]] (fun a => a.1 == p.attr) (fun a _ => c_fits1 a p b2) hd) (fun hg => .f) (fun hg => ⟨(.i rfl (fun _ => hg)), (.i rfl (fun _ => hg)), trivial⟩) rfl (List.Perm.swap _ _ []) rfl ?_
    refine W.q (Ev.or (.t rfl) ⟨_, _, rfl, rfl, by first | (simp; done) | (intro hg_ hp_; simp [hp_]; done) | (simp <;> omega; done) | (simp_all; done) | grind⟩) rfl ?_
    refine W.q (Ev.assign (.t rfl)) rfl ?_
    refine W.nil ?_
    refine W.then ?_
    refine W.ret ?_
    refine W.retn (M' := []) (D := _) (rs := [.tmp 4]) (avs := [_]) Try.results71 ⟨rfl, trivial⟩ rfl (.refl _) ?_
    first | exact ⟨congrArg AV.bool hq.symm, rfl⟩ | exact ⟨congrArg AV.bool (by simp only [Pk.fits, bne, h19, Bool.not_false, Bool.true_and]), rfl⟩

end WFits

end Go.Proofs.Yteepllfbnoaiaaa
