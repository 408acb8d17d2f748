/-
  Merged: WBuild WOnce Poke ShelfB WDo WRepl.
-/
import Derived.Test.YtohncieijjhnjaaDoorG3
import Derived.Test.YtohncieijjhnjaaDoorChecked
import Derived.Below
import Derived.Lib.Join

section
set_option linter.unusedVariables false
set_option linter.unusedSimpArgs false
set_option maxRecDepth 100000
namespace Go.Proofs.YtohncieijjhnjaaDoor
open Go.Vl

namespace WBuild
theorem ty5 : Ty Tryd.prog 5 1 1 (.int .u8 0) := Ty.of (by kernel_rfl)
theorem ty9 : Ty Tryd.prog 9 1 16 (.string ⟨#[]⟩) := Ty.of (by kernel_rfl)
theorem ty27 : Ty Tryd.prog 27 1 24 (.slice none 0 0) := Ty.of (by kernel_rfl)
theorem ty46 : Ty Tryd.prog 46 1 24 (.slice none 0 0) := Ty.of (by kernel_rfl)
theorem ty113 : Ty Tryd.prog 113 256 6144 (.agg #[.slice none 0 0, .slice none 0 0, .slice none 0 0, .slice none 0 0, .slice none 0 0, .slice none 0 0, .slice none 0 0, .slice none 0 0, .slice none 0 0, .slice none 0 0, .slice none 0 0, .slice none 0 0, .slice none 0 0, .slice none 0 0, .slice none 0 0, .slice none 0 0, .slice none 0 0, .slice none 0 0, .slice none 0 0, .slice none 0 0, .slice none 0 0, .slice none 0 0, .slice none 0 0, .slice none 0 0, .slice none 0 0, .slice none 0 0, .slice none 0 0, .slice none 0 0, .slice none 0 0, .slice none 0 0, .slice none 0 0, .slice none 0 0, .slice none 0 0, .slice none 0 0, .slice none 0 0, .slice none 0 0, .slice none 0 0, .slice none 0 0, .slice none 0 0, .slice none 0 0, .slice none 0 0, .slice none 0 0, .slice none 0 0, .slice none 0 0, .slice none 0 0, .slice none 0 0, .slice none 0 0, .slice none 0 0, .slice none 0 0, .slice none 0 0, .slice none 0 0, .slice none 0 0, .slice none 0 0, .slice none 0 0, .slice none 0 0, .slice none 0 0, .slice none 0 0, .slice none 0 0, .slice none 0 0, .slice none 0 0, .slice none 0 0, .slice none 0 0, .slice none 0 0, .slice none 0 0, .slice none 0 0, .slice none 0 0, .slice none 0 0, .slice none 0 0, .slice none 0 0, .slice none 0 0, .slice none 0 0, .slice none 0 0, .slice none 0 0, .slice none 0 0, .slice none 0 0, .slice none 0 0, .slice none 0 0, .slice none 0 0, .slice none 0 0, .slice none 0 0, .slice none 0 0, .slice none 0 0, .slice none 0 0, .slice none 0 0, .slice none 0 0, .slice none 0 0, .slice none 0 0, .slice none 0 0, .slice none 0 0, .slice none 0 0, .slice none 0 0, .slice none 0 0, .slice none 0 0, .slice none 0 0, .slice none 0 0, .slice none 0 0, .slice none 0 0, .slice none 0 0, .slice none 0 0, .slice none 0 0, .slice none 0 0, .slice none 0 0, .slice none 0 0, .slice none 0 0, .slice none 0 0, .slice none 0 0, .slice none 0 0, .slice none 0 0, .slice none 0 0, .slice none 0 0, .slice none 0 0, .slice none 0 0, .slice none 0 0, .slice none 0 0, .slice none 0 0, .slice none 0 0, .slice none 0 0, .slice none 0 0, .slice none 0 0, .slice none 0 0, .slice none 0 0, .slice none 0 0, .slice none 0 0, .slice none 0 0, .slice none 0 0, .slice none 0 0, .slice none 0 0, .slice none 0 0, .slice none 0 0, .slice none 0 0, .slice none 0 0, .slice none 0 0, .slice none 0 0, .slice none 0 0, .slice none 0 0, .slice none 0 0, .slice none 0 0, .slice none 0 0, .slice none 0 0, .slice none 0 0, .slice none 0 0, .slice none 0 0, .slice none 0 0, .slice none 0 0, .slice none 0 0, .slice none 0 0, .slice none 0 0, .slice none 0 0, .slice none 0 0, .slice none 0 0, .slice none 0 0, .slice none 0 0, .slice none 0 0, .slice none 0 0, .slice none 0 0, .slice none 0 0, .slice none 0 0, .slice none 0 0, .slice none 0 0, .slice none 0 0, .slice none 0 0, .slice none 0 0, .slice none 0 0, .slice none 0 0, .slice none 0 0, .slice none 0 0, .slice none 0 0, .slice none 0 0, .slice none 0 0, .slice none 0 0, .slice none 0 0, .slice none 0 0, .slice none 0 0, .slice none 0 0, .slice none 0 0, .slice none 0 0, .slice none 0 0, .slice none 0 0, .slice none 0 0, .slice none 0 0, .slice none 0 0, .slice none 0 0, .slice none 0 0, .slice none 0 0, .slice none 0 0, .slice none 0 0, .slice none 0 0, .slice none 0 0, .slice none 0 0, .slice none 0 0, .slice none 0 0, .slice none 0 0, .slice none 0 0, .slice none 0 0, .slice none 0 0, .slice none 0 0, .slice none 0 0, .slice none 0 0, .slice none 0 0, .slice none 0 0, .slice none 0 0, .slice none 0 0, .slice none 0 0, .slice none 0 0, .slice none 0 0, .slice none 0 0, .slice none 0 0, .slice none 0 0, .slice none 0 0, .slice none 0 0, .slice none 0 0, .slice none 0 0, .slice none 0 0, .slice none 0 0, .slice none 0 0, .slice none 0 0, .slice none 0 0, .slice none 0 0, .slice none 0 0, .slice none 0 0, .slice none 0 0, .slice none 0 0, .slice none 0 0, .slice none 0 0, .slice none 0 0, .slice none 0 0, .slice none 0 0, .slice none 0 0, .slice none 0 0, .slice none 0 0, .slice none 0 0, .slice none 0 0, .slice none 0 0, .slice none 0 0, .slice none 0 0, .slice none 0 0, .slice none 0 0, .slice none 0 0, .slice none 0 0, .slice none 0 0, .slice none 0 0, .slice none 0 0, .slice none 0 0, .slice none 0 0, .slice none 0 0, .slice none 0 0, .slice none 0 0, .slice none 0 0, .slice none 0 0, .slice none 0 0, .slice none 0 0, .slice none 0 0, .slice none 0 0, .slice none 0 0, .slice none 0 0, .slice none 0 0]) := Ty.of (by kernel_rfl)
theorem ty115 : Ty Tryd.prog 115 257 6168 (.agg #[.slice none 0 0, .slice none 0 0, .slice none 0 0, .slice none 0 0, .slice none 0 0, .slice none 0 0, .slice none 0 0, .slice none 0 0, .slice none 0 0, .slice none 0 0, .slice none 0 0, .slice none 0 0, .slice none 0 0, .slice none 0 0, .slice none 0 0, .slice none 0 0, .slice none 0 0, .slice none 0 0, .slice none 0 0, .slice none 0 0, .slice none 0 0, .slice none 0 0, .slice none 0 0, .slice none 0 0, .slice none 0 0, .slice none 0 0, .slice none 0 0, .slice none 0 0, .slice none 0 0, .slice none 0 0, .slice none 0 0, .slice none 0 0, .slice none 0 0, .slice none 0 0, .slice none 0 0, .slice none 0 0, .slice none 0 0, .slice none 0 0, .slice none 0 0, .slice none 0 0, .slice none 0 0, .slice none 0 0, .slice none 0 0, .slice none 0 0, .slice none 0 0, .slice none 0 0, .slice none 0 0, .slice none 0 0, .slice none 0 0, .slice none 0 0, .slice none 0 0, .slice none 0 0, .slice none 0 0, .slice none 0 0, .slice none 0 0, .slice none 0 0, .slice none 0 0, .slice none 0 0, .slice none 0 0, .slice none 0 0, .slice none 0 0, .slice none 0 0, .slice none 0 0, .slice none 0 0, .slice none 0 0, .slice none 0 0, .slice none 0 0, .slice none 0 0, .slice none 0 0, .slice none 0 0, .slice none 0 0, .slice none 0 0, .slice none 0 0, .slice none 0 0, .slice none 0 0, .slice none 0 0, .slice none 0 0, .slice none 0 0, .slice none 0 0, .slice none 0 0, .slice none 0 0, .slice none 0 0, .slice none 0 0, .slice none 0 0, .slice none 0 0, .slice none 0 0, .slice none 0 0, .slice none 0 0, .slice none 0 0, .slice none 0 0, .slice none 0 0, .slice none 0 0, .slice none 0 0, .slice none 0 0, .slice none 0 0, .slice none 0 0, .slice none 0 0, .slice none 0 0, .slice none 0 0, .slice none 0 0, .slice none 0 0, .slice none 0 0, .slice none 0 0, .slice none 0 0, .slice none 0 0, .slice none 0 0, .slice none 0 0, .slice none 0 0, .slice none 0 0, .slice none 0 0, .slice none 0 0, .slice none 0 0, .slice none 0 0, .slice none 0 0, .slice none 0 0, .slice none 0 0, .slice none 0 0, .slice none 0 0, .slice none 0 0, .slice none 0 0, .slice none 0 0, .slice none 0 0, .slice none 0 0, .slice none 0 0, .slice none 0 0, .slice none 0 0, .slice none 0 0, .slice none 0 0, .slice none 0 0, .slice none 0 0, .slice none 0 0, .slice none 0 0, .slice none 0 0, .slice none 0 0, .slice none 0 0, .slice none 0 0, .slice none 0 0, .slice none 0 0, .slice none 0 0, .slice none 0 0, .slice none 0 0, .slice none 0 0, .slice none 0 0, .slice none 0 0, .slice none 0 0, .slice none 0 0, .slice none 0 0, .slice none 0 0, .slice none 0 0, .slice none 0 0, .slice none 0 0, .slice none 0 0, .slice none 0 0, .slice none 0 0, .slice none 0 0, .slice none 0 0, .slice none 0 0, .slice none 0 0, .slice none 0 0, .slice none 0 0, .slice none 0 0, .slice none 0 0, .slice none 0 0, .slice none 0 0, .slice none 0 0, .slice none 0 0, .slice none 0 0, .slice none 0 0, .slice none 0 0, .slice none 0 0, .slice none 0 0, .slice none 0 0, .slice none 0 0, .slice none 0 0, .slice none 0 0, .slice none 0 0, .slice none 0 0, .slice none 0 0, .slice none 0 0, .slice none 0 0, .slice none 0 0, .slice none 0 0, .slice none 0 0, .slice none 0 0, .slice none 0 0, .slice none 0 0, .slice none 0 0, .slice none 0 0, .slice none 0 0, .slice none 0 0, .slice none 0 0, .slice none 0 0, .slice none 0 0, .slice none 0 0, .slice none 0 0, .slice none 0 0, .slice none 0 0, .slice none 0 0, .slice none 0 0, .slice none 0 0, .slice none 0 0, .slice none 0 0, .slice none 0 0, .slice none 0 0, .slice none 0 0, .slice none 0 0, .slice none 0 0, .slice none 0 0, .slice none 0 0, .slice none 0 0, .slice none 0 0, .slice none 0 0, .slice none 0 0, .slice none 0 0, .slice none 0 0, .slice none 0 0, .slice none 0 0, .slice none 0 0, .slice none 0 0, .slice none 0 0, .slice none 0 0, .slice none 0 0, .slice none 0 0, .slice none 0 0, .slice none 0 0, .slice none 0 0, .slice none 0 0, .slice none 0 0, .slice none 0 0, .slice none 0 0, .slice none 0 0, .slice none 0 0, .slice none 0 0, .slice none 0 0, .slice none 0 0, .slice none 0 0, .slice none 0 0, .slice none 0 0, .slice none 0 0, .slice none 0 0, .slice none 0 0, .slice none 0 0, .slice none 0 0, .slice none 0 0, .slice none 0 0, .slice none 0 0, .slice none 0 0, .slice none 0 0, .slice none 0 0, .slice none 0 0, .slice none 0 0, .slice none 0 0, .slice none 0 0, .slice none 0 0, .slice none 0 0, .slice none 0 0, .slice none 0 0]) := Ty.of (by kernel_rfl)
theorem ag9 : IsAgg Tryd.prog 9 false := ⟨_, Tryd.underlying9, rfl⟩
theorem ag27 : IsAgg Tryd.prog 27 false := ⟨_, Tryd.underlying27, rfl⟩
theorem ag46 : IsAgg Tryd.prog 46 false := ⟨_, Tryd.underlying46, rfl⟩
theorem ag113 : IsAgg Tryd.prog 113 true := ⟨_, Tryd.underlying113, rfl⟩
theorem fa81_2 : FieldAt Tryd.prog 81 2 4 1 false := ⟨_, _, Tryd.underlying81, rfl, rfl, ty27.size, ag27, by decide⟩
theorem fa115_0 : FieldAt Tryd.prog 115 0 0 256 true := ⟨_, _, Tryd.underlying115, rfl, rfl, ty113.size, ag113, by decide⟩
theorem fa115_1 : FieldAt Tryd.prog 115 1 256 1 false := ⟨_, _, Tryd.underlying115, rfl, rfl, ty27.size, ag27, by decide⟩
theorem st115 : StructAt Tryd.prog 115 [(0, 256), (256, 1)] := ⟨_, Tryd.underlying115, rfl, ty113.size, rfl, ty27.size, trivial⟩
theorem ni27 : NotInt Tryd.prog 27 := .inl ⟨_, Tryd.underlying27⟩
theorem c_build (b : Nat) : FnC Tryd.prog 51 [.lit (.pointer (some ⟨b, 0, none⟩))] [.box b 81 [.lit (.int .u32 0), .lit (.int .i32 1), .lit (.int .u32 0), .lit .nilIface, .sl 1 (Url.six.map AV.str)]] (fun r M => ∃ (b11 : Nat) (z : Nat → Nat × Nat), r = .lit (.iface 116 (.pointer (some ⟨b11, 0, none⟩))) ∧ M = [.box b 81 [.lit (.int .u32 0), .lit (.int .i32 1), .lit (.int .u32 0), .lit .nilIface, .sl 1 (Url.six.map AV.str)], .box b11 115 (Url.rowF (Url.Fz 3 z) (.sl 1 (Url.tlr.map AV.str)))]) :=  by
  refine FnC.mk Tryd.func51 (by kernel_rfl) rfl Tryd.ntmps51 rfl (fun w0 F => ?_)
  refine W.seq ?_
  refine W.region ?_
  refine W.q (Ev.assign .k) rfl ?_
  refine W.nil ?_
  refine W.then ?_
  refine W.seq ?_
  refine W.region ?_
  refine W.q (Ev.move (.t rfl)) rfl ?_
  refine W.q (Ev.nilc (.t rfl)) rfl ?_
  first | refine W.q (Ev.fae (.t rfl) fa81_2 rfl) rfl ?_ | refine W.q (Ev.fab (.t rfl) fa81_2) rfl ?_ | refine W.q (Ev.faa (.t rfl) fa81_2) rfl ?_
  first | refine W.q (Ev.lde1 (.t rfl) ag27) rfl ?_ | refine W.q (Ev.ldb1 0 (.t rfl) rfl ag27 rfl) rfl ?_ | refine W.q (Ev.ldb1 1 (.t rfl) rfl ag27 rfl) rfl ?_ | refine W.q (Ev.ldb1 2 (.t rfl) rfl ag27 rfl) rfl ?_ | refine W.q (Ev.ldb1 3 (.t rfl) rfl ag27 rfl) rfl ?_ | refine W.q (Ev.ldb1 4 (.t rfl) rfl ag27 rfl) rfl ?_
  refine W.q (Ev.assign (.t rfl)) rfl ?_
  refine W.nil ?_
  refine W.then ?_
  refine W.seq ?_
  refine W.seq ?_
  refine W.region ?_
  refine W.q (Ev.move (.t rfl)) rfl ?_
  first | refine W.q (Ev.lensl (.t rfl) Tryd.underlying27) rfl ?_ | refine W.q (Ev.lenar (i := 0) (.t rfl) rfl Tryd.underlying27) rfl ?_ | refine W.q (Ev.lenar (i := 1) (.t rfl) rfl Tryd.underlying27) rfl ?_ | refine W.q (Ev.lenar (i := 2) (.t rfl) rfl Tryd.underlying27) rfl ?_ | refine W.q (Ev.lenar (i := 3) (.t rfl) rfl Tryd.underlying27) rfl ?_ | refine W.q (Ev.lenar (i := 4) (.t rfl) rfl Tryd.underlying27) rfl ?_
  refine W.q (Ev.eqi (.t rfl) .k) rfl ?_
  refine W.q (Ev.move (.t rfl)) rfl ?_
  refine W.qgT rfl rfl (Ev.move (.t rfl)) rfl ?_
  refine W.qgT rfl rfl (Ev.at (E := 9) (e := AV.str [9]) (.c rfl) .k Tryd.underlying27 ty9 (fun _ => ⟨by decide, rfl⟩) rfl rfl) rfl ?_
  first | refine W.qgT rfl rfl (Ev.lde1 (.c rfl) ag9) rfl ?_ | refine W.qgT rfl rfl (Ev.ldb1 0 (.c rfl) rfl ag9 rfl) rfl ?_ | refine W.qgT rfl rfl (Ev.ldb1 1 (.c rfl) rfl ag9 rfl) rfl ?_ | refine W.qgT rfl rfl (Ev.ldb1 2 (.c rfl) rfl ag9 rfl) rfl ?_ | refine W.qgT rfl rfl (Ev.ldb1 3 (.c rfl) rfl ag9 rfl) rfl ?_ | refine W.qgT rfl rfl (Ev.ldb1 4 (.c rfl) rfl ag9 rfl) rfl ?_
  refine W.qgT rfl rfl (Ev.lens (.c rfl) Tryd.underlying9) rfl ?_
  refine W.qgT rfl rfl (Ev.gti (.c rfl) .k) rfl ?_
  refine W.q (Ev.and (.t rfl) ⟨_, _, rfl, rfl, by first | (simp; done) | (intro hg_ hp_; simp [hp_]; done) | (simp <;> omega; done) | (simp_all; done) | grind⟩) rfl ?_
  refine W.nil ?_
  refine W.then ?_
  refine W.is (t := 28) (g := true) (av' := .lit (.bool false)) rfl (congrArg (fun b => AV.lit (.bool b)) (by rfl)) ?_
  refine W.condF (.t rfl) ?_
  refine W.skip ?_
  refine W.then ?_
  refine W.seq ?_
  refine W.region ?_
  refine W.q (Ev.assign .k) rfl ?_
  refine W.nil ?_
  refine W.then ?_
  refine W.seq ?_
  refine W.seq ?_
  refine W.region ?_
  refine W.q (Ev.assign .k) rfl ?_
  refine W.nil ?_
  refine W.then ?_
  refine W.block ?_
  refine W.loop (D := []) (ι := Nat) (fun k => [(5, true, .int ((2 * k : Nat) : Int)), (4, true, .bool (decide (k = 0))), (3, true, .sl 1 (Url.six.map AV.str))]) (fun _ => [.box b 81 [.lit (.int .u32 0), .lit (.int .i32 1), .lit (.int .u32 0), .lit .nilIface, .sl 1 (Url.six.map AV.str)]]) (fun k => k ≤ 3) (fun k => 3 - k) 0 ⟨rfl, rfl, rfl, trivial⟩ (.refl _) (by decide) ?_
  intro k hk
  dsimp only at hk ⊢
  rcases (show k = 0 ∨ k = 1 ∨ k = 2 ∨ k = 3 from by omega) with rfl | rfl | rfl | rfl
  · skip
    refine W.seq ?_
    refine W.seq ?_
    refine W.region ?_
    refine W.q (Ev.move (.t rfl)) rfl ?_
    refine W.q (Ev.move (.t rfl)) rfl ?_
    first | refine W.q (Ev.lensl (.t rfl) Tryd.underlying27) rfl ?_ | refine W.q (Ev.lenar (i := 0) (.t rfl) rfl Tryd.underlying27) rfl ?_ | refine W.q (Ev.lenar (i := 1) (.t rfl) rfl Tryd.underlying27) rfl ?_ | refine W.q (Ev.lenar (i := 2) (.t rfl) rfl Tryd.underlying27) rfl ?_ | refine W.q (Ev.lenar (i := 3) (.t rfl) rfl Tryd.underlying27) rfl ?_ | refine W.q (Ev.lenar (i := 4) (.t rfl) rfl Tryd.underlying27) rfl ?_
    refine W.q (Ev.lti (.t rfl) (.t rfl)) rfl ?_
    refine W.nil ?_
    refine W.then ?_
    refine W.is (t := 40) (g := true) (av' := .lit (.bool true)) rfl (congrArg (fun b => AV.lit (.bool b)) (by decide)) ?_
    refine W.condT (.t rfl) ?_
    refine W.skip ?_
    refine W.then ?_
    refine W.seq ?_
    refine W.block ?_
    refine W.seq ?_
    refine W.seq ?_
    refine W.region ?_
    refine W.q (Ev.move (.t rfl)) rfl ?_
    refine W.q (Ev.move (.t rfl)) rfl ?_
    refine W.q (Ev.at (E := 9) (e := AV.str [9]) (.t rfl) (.t rfl) Tryd.underlying27 ty9 (fun _ => ⟨by decide, rfl⟩) rfl rfl) rfl ?_
    first | refine W.q (Ev.lde1 (.t rfl) ag9) rfl ?_ | refine W.q (Ev.ldb1 0 (.t rfl) rfl ag9 rfl) rfl ?_ | refine W.q (Ev.ldb1 1 (.t rfl) rfl ag9 rfl) rfl ?_ | refine W.q (Ev.ldb1 2 (.t rfl) rfl ag9 rfl) rfl ?_ | refine W.q (Ev.ldb1 3 (.t rfl) rfl ag9 rfl) rfl ?_ | refine W.q (Ev.ldb1 4 (.t rfl) rfl ag9 rfl) rfl ?_
    refine W.q (Ev.lens (.t rfl) Tryd.underlying9) rfl ?_
    refine W.q (Ev.nei (.t rfl) .k) rfl ?_
    refine W.nil ?_
    refine W.then ?_
    refine W.is (t := 48) (g := true) (av' := .lit (.bool false)) rfl (congrArg (fun b => AV.lit (.bool b)) (by rfl)) ?_
    refine W.condF (.t rfl) ?_
    refine W.skip ?_
    refine W.then ?_
    refine W.seq ?_
    refine W.region ?_
    refine W.q (Ev.move (.t rfl)) rfl ?_
    refine W.q (Ev.move (.t rfl)) rfl ?_
    first | refine W.q (Ev.add (.t rfl) .k (fun _ => by omega)) rfl ?_ | refine W.q (Ev.addw (.t rfl) .k) rfl ?_
    refine W.q (Ev.at (E := 9) (e := AV.str []) (.t rfl) (.t rfl) Tryd.underlying27 ty9 (fun _ => ⟨by decide, rfl⟩) rfl rfl) rfl ?_
    first | refine W.q (Ev.lde1 (.t rfl) ag9) rfl ?_ | refine W.q (Ev.ldb1 0 (.t rfl) rfl ag9 rfl) rfl ?_ | refine W.q (Ev.ldb1 1 (.t rfl) rfl ag9 rfl) rfl ?_ | refine W.q (Ev.ldb1 2 (.t rfl) rfl ag9 rfl) rfl ?_ | refine W.q (Ev.ldb1 3 (.t rfl) rfl ag9 rfl) rfl ?_ | refine W.q (Ev.ldb1 4 (.t rfl) rfl ag9 rfl) rfl ?_
    refine W.q (Ev.lens (.t rfl) Tryd.underlying9) rfl ?_
    refine W.q (Ev.nei (.t rfl) .k) rfl ?_
    refine W.nil ?_
    refine W.then ?_
    refine W.is (t := 58) (g := true) (av' := .lit (.bool true)) rfl (congrArg (fun b => AV.lit (.bool b)) (by rfl)) ?_
    refine W.condT (.t rfl) ?_
    refine W.region ?_
    refine W.q (Ev.assign .k) rfl ?_
    refine W.nil ?_
    refine W.blk_normal ?_
    refine W.then ?_
    refine W.region ?_
    refine W.q (Ev.move (.t rfl)) rfl ?_
    first | refine W.q (Ev.add (.t rfl) .k (fun _ => by omega)) rfl ?_ | refine W.q (Ev.addw (.t rfl) .k) rfl ?_
    refine W.q (Ev.assign (.t rfl)) rfl ?_
    refine W.nil ?_
    refine W.then ?_
    refine W.reach (D := []) 1 ⟨rfl, rfl, rfl, trivial⟩ (.refl _) ⟨by decide, by decide⟩
  · skip
    refine W.seq ?_
    refine W.seq ?_
    refine W.region ?_
    refine W.q (Ev.move (.t rfl)) rfl ?_
    refine W.q (Ev.move (.t rfl)) rfl ?_
    first | refine W.q (Ev.lensl (.t rfl) Tryd.underlying27) rfl ?_ | refine W.q (Ev.lenar (i := 0) (.t rfl) rfl Tryd.underlying27) rfl ?_ | refine W.q (Ev.lenar (i := 1) (.t rfl) rfl Tryd.underlying27) rfl ?_ | refine W.q (Ev.lenar (i := 2) (.t rfl) rfl Tryd.underlying27) rfl ?_ | refine W.q (Ev.lenar (i := 3) (.t rfl) rfl Tryd.underlying27) rfl ?_ | refine W.q (Ev.lenar (i := 4) (.t rfl) rfl Tryd.underlying27) rfl ?_
    refine W.q (Ev.lti (.t rfl) (.t rfl)) rfl ?_
    refine W.nil ?_
    refine W.then ?_
    refine W.is (t := 40) (g := true) (av' := .lit (.bool true)) rfl (congrArg (fun b => AV.lit (.bool b)) (by decide)) ?_
    refine W.condT (.t rfl) ?_
    refine W.skip ?_
    refine W.then ?_
    refine W.seq ?_
    refine W.block ?_
    refine W.seq ?_
    refine W.seq ?_
    refine W.region ?_
    refine W.q (Ev.move (.t rfl)) rfl ?_
    refine W.q (Ev.move (.t rfl)) rfl ?_
    refine W.q (Ev.at (E := 9) (e := AV.str [10]) (.t rfl) (.t rfl) Tryd.underlying27 ty9 (fun _ => ⟨by decide, rfl⟩) rfl rfl) rfl ?_
    first | refine W.q (Ev.lde1 (.t rfl) ag9) rfl ?_ | refine W.q (Ev.ldb1 0 (.t rfl) rfl ag9 rfl) rfl ?_ | refine W.q (Ev.ldb1 1 (.t rfl) rfl ag9 rfl) rfl ?_ | refine W.q (Ev.ldb1 2 (.t rfl) rfl ag9 rfl) rfl ?_ | refine W.q (Ev.ldb1 3 (.t rfl) rfl ag9 rfl) rfl ?_ | refine W.q (Ev.ldb1 4 (.t rfl) rfl ag9 rfl) rfl ?_
    refine W.q (Ev.lens (.t rfl) Tryd.underlying9) rfl ?_
    refine W.q (Ev.nei (.t rfl) .k) rfl ?_
    refine W.nil ?_
    refine W.then ?_
    refine W.is (t := 48) (g := true) (av' := .lit (.bool false)) rfl (congrArg (fun b => AV.lit (.bool b)) (by rfl)) ?_
    refine W.condF (.t rfl) ?_
    refine W.skip ?_
    refine W.then ?_
    refine W.seq ?_
    refine W.region ?_
    refine W.q (Ev.move (.t rfl)) rfl ?_
    refine W.q (Ev.move (.t rfl)) rfl ?_
    first | refine W.q (Ev.add (.t rfl) .k (fun _ => by omega)) rfl ?_ | refine W.q (Ev.addw (.t rfl) .k) rfl ?_
    refine W.q (Ev.at (E := 9) (e := AV.str []) (.t rfl) (.t rfl) Tryd.underlying27 ty9 (fun _ => ⟨by decide, rfl⟩) rfl rfl) rfl ?_
    first | refine W.q (Ev.lde1 (.t rfl) ag9) rfl ?_ | refine W.q (Ev.ldb1 0 (.t rfl) rfl ag9 rfl) rfl ?_ | refine W.q (Ev.ldb1 1 (.t rfl) rfl ag9 rfl) rfl ?_ | refine W.q (Ev.ldb1 2 (.t rfl) rfl ag9 rfl) rfl ?_ | refine W.q (Ev.ldb1 3 (.t rfl) rfl ag9 rfl) rfl ?_ | refine W.q (Ev.ldb1 4 (.t rfl) rfl ag9 rfl) rfl ?_
    refine W.q (Ev.lens (.t rfl) Tryd.underlying9) rfl ?_
    refine W.q (Ev.nei (.t rfl) .k) rfl ?_
    refine W.nil ?_
    refine W.then ?_
    refine W.is (t := 58) (g := true) (av' := .lit (.bool true)) rfl (congrArg (fun b => AV.lit (.bool b)) (by rfl)) ?_
    refine W.condT (.t rfl) ?_
    refine W.region ?_
    refine W.q (Ev.assign .k) rfl ?_
    refine W.nil ?_
    refine W.blk_normal ?_
    refine W.then ?_
    refine W.region ?_
    refine W.q (Ev.move (.t rfl)) rfl ?_
    first | refine W.q (Ev.add (.t rfl) .k (fun _ => by omega)) rfl ?_ | refine W.q (Ev.addw (.t rfl) .k) rfl ?_
    refine W.q (Ev.assign (.t rfl)) rfl ?_
    refine W.nil ?_
    refine W.then ?_
    refine W.reach (D := []) 2 ⟨rfl, rfl, rfl, trivial⟩ (.refl _) ⟨by decide, by decide⟩
  · skip
    refine W.seq ?_
    refine W.seq ?_
    refine W.region ?_
    refine W.q (Ev.move (.t rfl)) rfl ?_
    refine W.q (Ev.move (.t rfl)) rfl ?_
    first | refine W.q (Ev.lensl (.t rfl) Tryd.underlying27) rfl ?_ | refine W.q (Ev.lenar (i := 0) (.t rfl) rfl Tryd.underlying27) rfl ?_ | refine W.q (Ev.lenar (i := 1) (.t rfl) rfl Tryd.underlying27) rfl ?_ | refine W.q (Ev.lenar (i := 2) (.t rfl) rfl Tryd.underlying27) rfl ?_ | refine W.q (Ev.lenar (i := 3) (.t rfl) rfl Tryd.underlying27) rfl ?_ | refine W.q (Ev.lenar (i := 4) (.t rfl) rfl Tryd.underlying27) rfl ?_
    refine W.q (Ev.lti (.t rfl) (.t rfl)) rfl ?_
    refine W.nil ?_
    refine W.then ?_
    refine W.is (t := 40) (g := true) (av' := .lit (.bool true)) rfl (congrArg (fun b => AV.lit (.bool b)) (by decide)) ?_
    refine W.condT (.t rfl) ?_
    refine W.skip ?_
    refine W.then ?_
    refine W.seq ?_
    refine W.block ?_
    refine W.seq ?_
    refine W.seq ?_
    refine W.region ?_
    refine W.q (Ev.move (.t rfl)) rfl ?_
    refine W.q (Ev.move (.t rfl)) rfl ?_
    refine W.q (Ev.at (E := 9) (e := AV.str [13]) (.t rfl) (.t rfl) Tryd.underlying27 ty9 (fun _ => ⟨by decide, rfl⟩) rfl rfl) rfl ?_
    first | refine W.q (Ev.lde1 (.t rfl) ag9) rfl ?_ | refine W.q (Ev.ldb1 0 (.t rfl) rfl ag9 rfl) rfl ?_ | refine W.q (Ev.ldb1 1 (.t rfl) rfl ag9 rfl) rfl ?_ | refine W.q (Ev.ldb1 2 (.t rfl) rfl ag9 rfl) rfl ?_ | refine W.q (Ev.ldb1 3 (.t rfl) rfl ag9 rfl) rfl ?_ | refine W.q (Ev.ldb1 4 (.t rfl) rfl ag9 rfl) rfl ?_
    refine W.q (Ev.lens (.t rfl) Tryd.underlying9) rfl ?_
    refine W.q (Ev.nei (.t rfl) .k) rfl ?_
    refine W.nil ?_
    refine W.then ?_
    refine W.is (t := 48) (g := true) (av' := .lit (.bool false)) rfl (congrArg (fun b => AV.lit (.bool b)) (by rfl)) ?_
    refine W.condF (.t rfl) ?_
    refine W.skip ?_
    refine W.then ?_
    refine W.seq ?_
    refine W.region ?_
    refine W.q (Ev.move (.t rfl)) rfl ?_
    refine W.q (Ev.move (.t rfl)) rfl ?_
    first | refine W.q (Ev.add (.t rfl) .k (fun _ => by omega)) rfl ?_ | refine W.q (Ev.addw (.t rfl) .k) rfl ?_
    refine W.q (Ev.at (E := 9) (e := AV.str []) (.t rfl) (.t rfl) Tryd.underlying27 ty9 (fun _ => ⟨by decide, rfl⟩) rfl rfl) rfl ?_
    first | refine W.q (Ev.lde1 (.t rfl) ag9) rfl ?_ | refine W.q (Ev.ldb1 0 (.t rfl) rfl ag9 rfl) rfl ?_ | refine W.q (Ev.ldb1 1 (.t rfl) rfl ag9 rfl) rfl ?_ | refine W.q (Ev.ldb1 2 (.t rfl) rfl ag9 rfl) rfl ?_ | refine W.q (Ev.ldb1 3 (.t rfl) rfl ag9 rfl) rfl ?_ | refine W.q (Ev.ldb1 4 (.t rfl) rfl ag9 rfl) rfl ?_
    refine W.q (Ev.lens (.t rfl) Tryd.underlying9) rfl ?_
    refine W.q (Ev.nei (.t rfl) .k) rfl ?_
    refine W.nil ?_
    refine W.then ?_
    refine W.is (t := 58) (g := true) (av' := .lit (.bool true)) rfl (congrArg (fun b => AV.lit (.bool b)) (by rfl)) ?_
    refine W.condT (.t rfl) ?_
    refine W.region ?_
    refine W.q (Ev.assign .k) rfl ?_
    refine W.nil ?_
    refine W.blk_normal ?_
    refine W.then ?_
    refine W.region ?_
    refine W.q (Ev.move (.t rfl)) rfl ?_
    first | refine W.q (Ev.add (.t rfl) .k (fun _ => by omega)) rfl ?_ | refine W.q (Ev.addw (.t rfl) .k) rfl ?_
    refine W.q (Ev.assign (.t rfl)) rfl ?_
    refine W.nil ?_
    refine W.then ?_
    refine W.reach (D := []) 3 ⟨rfl, rfl, rfl, trivial⟩ (.refl _) ⟨by decide, by decide⟩
  · skip
    refine W.seq ?_
    refine W.seq ?_
    refine W.region ?_
    refine W.q (Ev.move (.t rfl)) rfl ?_
    refine W.q (Ev.move (.t rfl)) rfl ?_
    first | refine W.q (Ev.lensl (.t rfl) Tryd.underlying27) rfl ?_ | refine W.q (Ev.lenar (i := 0) (.t rfl) rfl Tryd.underlying27) rfl ?_ | refine W.q (Ev.lenar (i := 1) (.t rfl) rfl Tryd.underlying27) rfl ?_ | refine W.q (Ev.lenar (i := 2) (.t rfl) rfl Tryd.underlying27) rfl ?_ | refine W.q (Ev.lenar (i := 3) (.t rfl) rfl Tryd.underlying27) rfl ?_ | refine W.q (Ev.lenar (i := 4) (.t rfl) rfl Tryd.underlying27) rfl ?_
    refine W.q (Ev.lti (.t rfl) (.t rfl)) rfl ?_
    refine W.nil ?_
    refine W.then ?_
    refine W.is (t := 40) (g := true) (av' := .lit (.bool false)) rfl (congrArg (fun b => AV.lit (.bool b)) (by decide)) ?_
    refine W.condF (.t rfl) ?_
    refine W.exit ?_
    refine W.then_exit ?_
    refine W.then_exit ?_
    refine W.blk_hit ?_
    refine W.then ?_
    refine W.seq ?_
    refine W.seq ?_
    refine W.region ?_
    refine W.q (Ev.move (.t rfl)) rfl ?_
    refine W.nil ?_
    refine W.then ?_
    refine W.is (t := 59) (g := true) (av' := .lit (.bool false)) rfl (congrArg (fun b => AV.lit (.bool b)) (by rfl)) ?_
    refine W.condF (.t rfl) ?_
    refine W.skip ?_
    refine W.then ?_
    refine W.seq ?_
    refine W.region ?_
    refine W.q (Ev.move (.t rfl)) rfl ?_
    first | refine W.q (Ev.lensl (.t rfl) Tryd.underlying27) rfl ?_ | refine W.q (Ev.lenar (i := 0) (.t rfl) rfl Tryd.underlying27) rfl ?_ | refine W.q (Ev.lenar (i := 1) (.t rfl) rfl Tryd.underlying27) rfl ?_ | refine W.q (Ev.lenar (i := 2) (.t rfl) rfl Tryd.underlying27) rfl ?_ | refine W.q (Ev.lenar (i := 3) (.t rfl) rfl Tryd.underlying27) rfl ?_ | refine W.q (Ev.lenar (i := 4) (.t rfl) rfl Tryd.underlying27) rfl ?_
    first | refine W.q (Ev.quo (.t rfl) .k (fun _ => by decide)) rfl ?_ | refine W.q (Ev.quo (.t rfl) .k (fun _ => by omega)) rfl ?_
    refine W.is (t := 93) (g := true) (av' := .int ((3 : Nat) : Int)) rfl (congrArg AV.int (by decide)) ?_
    refine W.mk0 (n := 3) .k (.t rfl) Tryd.underlying27 ty9 rfl rfl (by decide) rfl ?_
    intro v94
    refine W.arr_inv 0 rfl (fun a94 n94 c94 h94 => ?_)
    subst h94
    refine W.q (Ev.build ty115 st115 rfl (fun hg => ⟨_, _, _, rfl, (.t rfl), rfl, rfl, rfl, rfl⟩)) rfl ?_
    refine W.alloc ty115 rfl rfl ?_
    intro b11
    first | refine W.stb 0 (.t rfl) (.t rfl) rfl ty115 rfl rfl rfl ?_ | refine W.stb 1 (.t rfl) (.t rfl) rfl ty115 rfl rfl rfl ?_ | refine W.stb 2 (.t rfl) (.t rfl) rfl ty115 rfl rfl rfl ?_ | refine W.stb 3 (.t rfl) (.t rfl) rfl ty115 rfl rfl rfl ?_ | refine W.stb 4 (.t rfl) (.t rfl) rfl ty115 rfl rfl rfl ?_
    refine W.nil ?_
    refine W.perm (M' := [.box b11 115 (Url.rowF (fun _ => Url.nilA) (.lit (.slice a94 n94 c94))), .arr (.slice a94 n94 c94) 9 1 [], .box b 81 [.lit (.int .u32 0), .lit (.int .i32 1), .lit (.int .u32 0), .lit .nilIface, .sl 1 (Url.six.map AV.str)]]) (List.Perm.of_eq (by rfl)) ?_
    refine W.then ?_
    refine W.seq ?_
    refine W.seq ?_
    refine W.region ?_
    refine W.q (Ev.move (.t rfl)) rfl ?_
    first | refine W.q (Ev.lensl (.t rfl) Tryd.underlying27) rfl ?_ | refine W.q (Ev.lenar (i := 0) (.t rfl) rfl Tryd.underlying27) rfl ?_ | refine W.q (Ev.lenar (i := 1) (.t rfl) rfl Tryd.underlying27) rfl ?_ | refine W.q (Ev.lenar (i := 2) (.t rfl) rfl Tryd.underlying27) rfl ?_ | refine W.q (Ev.lenar (i := 3) (.t rfl) rfl Tryd.underlying27) rfl ?_ | refine W.q (Ev.lenar (i := 4) (.t rfl) rfl Tryd.underlying27) rfl ?_
    first | refine W.q (Ev.sub (.t rfl) .k (fun _ => by omega)) rfl ?_ | refine W.q (Ev.subw (.t rfl) .k) rfl ?_
    refine W.q (Ev.assign (.t rfl)) rfl ?_
    refine W.nil ?_
    refine W.then ?_
    refine W.block ?_
    refine W.loop (D := []) (ι := Nat × (Nat → Nat × Nat) × Value) (fun y => [(12, true, .int (4 - 2 * (y.1 : Int))), (11, true, .lit (.pointer (some ⟨b11, 0, none⟩))), (3, true, .sl 1 (Url.six.map AV.str))]) (fun y => [.box b11 115 (Url.rowF (Url.Fz y.1 y.2.1) (.lit y.2.2)), .arr y.2.2 9 1 ((Url.tlr.take y.1).map AV.str), .box b 81 [.lit (.int .u32 0), .lit (.int .i32 1), .lit (.int .u32 0), .lit .nilIface, .sl 1 (Url.six.map AV.str)]]) (fun y => y.1 ≤ 3) (fun y => 3 - y.1) (0, (fun _ => (0, 0)), .slice a94 n94 c94) ⟨rfl, rfl, rfl, trivial⟩ (.refl _) (Nat.zero_le 3) ?_
    rintro ⟨k, z, v⟩ hk
    dsimp only at hk ⊢
    rcases (show k = 0 ∨ k = 1 ∨ k = 2 ∨ k = 3 from by omega) with rfl | rfl | rfl | rfl
    · skip
      refine W.seq ?_
      refine W.seq ?_
      refine W.region ?_
      refine W.q (Ev.move (.t rfl)) rfl ?_
      refine W.q (Ev.gei (.t rfl) .k) rfl ?_
      refine W.nil ?_
      refine W.then ?_
      refine W.is (t := 100) (g := true) (av' := .lit (.bool true)) rfl (congrArg (fun b => AV.lit (.bool b)) (by decide)) ?_
      refine W.condT (.t rfl) ?_
      refine W.skip ?_
      refine W.then ?_
      refine W.seq ?_
      refine W.block ?_
      refine W.seq ?_
      refine W.region ?_
      refine W.q (Ev.move (.t rfl)) rfl ?_
      refine W.q (Ev.move (.t rfl)) rfl ?_
      refine W.q (Ev.at (E := 9) (e := AV.str [13]) (.t rfl) (.t rfl) Tryd.underlying27 ty9 (fun _ => ⟨by decide, rfl⟩) rfl rfl) rfl ?_
      first | refine W.q (Ev.lde1 (.t rfl) ag9) rfl ?_ | refine W.q (Ev.ldb1 0 (.t rfl) rfl ag9 rfl) rfl ?_ | refine W.q (Ev.ldb1 1 (.t rfl) rfl ag9 rfl) rfl ?_ | refine W.q (Ev.ldb1 2 (.t rfl) rfl ag9 rfl) rfl ?_ | refine W.q (Ev.ldb1 3 (.t rfl) rfl ag9 rfl) rfl ?_ | refine W.q (Ev.ldb1 4 (.t rfl) rfl ag9 rfl) rfl ?_
      refine W.q (Ev.ats' (.t rfl) .k Tryd.underlying9 (fun hg => by decide)) rfl ?_
      refine W.is (t := 107) (g := true) (av' := AV.u8 13) rfl rfl ?_
      refine W.q (Ev.assign (.t rfl)) rfl ?_
      refine W.nil ?_
      refine W.then ?_
      refine W.seq ?_
      refine W.region ?_
      refine W.q (Ev.move (.t rfl)) rfl ?_
      refine W.q (Ev.move (.t rfl)) rfl ?_
      first | refine W.q (Ev.add (.t rfl) .k (fun _ => by omega)) rfl ?_ | refine W.q (Ev.addw (.t rfl) .k) rfl ?_
      refine W.q (Ev.at (E := 9) (e := AV.str []) (.t rfl) (.t rfl) Tryd.underlying27 ty9 (fun _ => ⟨by decide, rfl⟩) rfl rfl) rfl ?_
      first | refine W.q (Ev.lde1 (.t rfl) ag9) rfl ?_ | refine W.q (Ev.ldb1 0 (.t rfl) rfl ag9 rfl) rfl ?_ | refine W.q (Ev.ldb1 1 (.t rfl) rfl ag9 rfl) rfl ?_ | refine W.q (Ev.ldb1 2 (.t rfl) rfl ag9 rfl) rfl ?_ | refine W.q (Ev.ldb1 3 (.t rfl) rfl ag9 rfl) rfl ?_ | refine W.q (Ev.ldb1 4 (.t rfl) rfl ag9 rfl) rfl ?_
      refine W.q (Ev.assign (.t rfl)) rfl ?_
      refine W.nil ?_
      refine W.then ?_
      refine W.seq ?_
      refine W.seq ?_
      refine W.region ?_
      refine W.q (Ev.move (.t rfl)) rfl ?_
      first | refine W.q (Ev.fae (.t rfl) fa115_0 rfl) rfl ?_ | refine W.q (Ev.fab (.t rfl) fa115_0) rfl ?_ | refine W.q (Ev.faa (.t rfl) fa115_0) rfl ?_
      refine W.q (Ev.boxat (.t rfl) (.t rfl) Tryd.underlying113 ty46 (fun _ => by decide)) rfl ?_
      refine W.q (Ev.ldb1 0 (c := Url.nilA) (.t rfl) rfl ag46 (Url.rowF_get _ _ 13 (by decide))) rfl ?_
      refine W.q (Ev.eqnl (.t rfl) Tryd.underlying46) rfl ?_
      refine W.nil ?_
      refine W.then ?_
      refine W.is (t := 117) (g := true) (av' := .lit (.bool true)) rfl (congrArg (fun b => AV.lit (.bool b)) (by rfl)) ?_
      refine W.condT (.t rfl) ?_
      refine W.region ?_
      first | refine W.q (Ev.fae (.t rfl) fa115_1 rfl) rfl ?_ | refine W.q (Ev.fab (.t rfl) fa115_1) rfl ?_ | refine W.q (Ev.faa (.t rfl) fa115_1) rfl ?_
      refine W.q (Ev.ldb1 0 (c := .lit v) (.t rfl) rfl ag27 (Url.rowF_last _ _)) rfl ?_
      refine W.q (Ev.move (.t rfl)) rfl ?_
      refine W.bso (es := [_]) Tryd.underlying46 ty5 ⟨rfl, (.t rfl), rfl, rfl, trivial⟩ rfl (by decide) rfl rfl ?_
      intro v121
      refine W.q (Ev.b2s 0 (l := [13]) (.t rfl) rfl Tryd.underlying46 Tryd.underlying5 Tryd.underlying9) rfl ?_
      refine W.bs (es := [_]) Tryd.underlying27 ty9 ⟨rfl, (.t rfl), rfl, rfl, trivial⟩ rfl (by decide) rfl rfl ?_
      first | refine W.app 0 (.t rfl) rfl (.sl (.t rfl) (by first | (simp [AV.okc, shV]; done) | (intro e he; rw [List.mem_singleton.1 he]; rfl))) Tryd.underlying27 ni27 ty9 rfl rfl (by first | (simp; done) | (simp; omega)) rfl ?_ | refine W.app 1 (.t rfl) rfl (.sl (.t rfl) (by first | (simp [AV.okc, shV]; done) | (intro e he; rw [List.mem_singleton.1 he]; rfl))) Tryd.underlying27 ni27 ty9 rfl rfl (by first | (simp; done) | (simp; omega)) rfl ?_ | refine W.app 2 (.t rfl) rfl (.sl (.t rfl) (by first | (simp [AV.okc, shV]; done) | (intro e he; rw [List.mem_singleton.1 he]; rfl))) Tryd.underlying27 ni27 ty9 rfl rfl (by first | (simp; done) | (simp; omega)) rfl ?_ | refine W.app 3 (.t rfl) rfl (.sl (.t rfl) (by first | (simp [AV.okc, shV]; done) | (intro e he; rw [List.mem_singleton.1 he]; rfl))) Tryd.underlying27 ni27 ty9 rfl rfl (by first | (simp; done) | (simp; omega)) rfl ?_ | refine W.app 4 (.t rfl) rfl (.sl (.t rfl) (by first | (simp [AV.okc, shV]; done) | (intro e he; rw [List.mem_singleton.1 he]; rfl))) Tryd.underlying27 ni27 ty9 rfl rfl (by first | (simp; done) | (simp; omega)) rfl ?_ | refine W.app 0 (.t rfl) rfl (.arr 0 (.t rfl) rfl (by first | (simp [AV.okc, shV]; done) | (intro e he; rw [List.mem_singleton.1 he]; rfl))) Tryd.underlying27 ni27 ty9 rfl rfl (by first | (simp; done) | (simp; omega)) rfl ?_ | refine W.app 0 (.t rfl) rfl (.arr 1 (.t rfl) rfl (by first | (simp [AV.okc, shV]; done) | (intro e he; rw [List.mem_singleton.1 he]; rfl))) Tryd.underlying27 ni27 ty9 rfl rfl (by first | (simp; done) | (simp; omega)) rfl ?_ | refine W.app 0 (.t rfl) rfl (.arr 2 (.t rfl) rfl (by first | (simp [AV.okc, shV]; done) | (intro e he; rw [List.mem_singleton.1 he]; rfl))) Tryd.underlying27 ni27 ty9 rfl rfl (by first | (simp; done) | (simp; omega)) rfl ?_ | refine W.app 0 (.t rfl) rfl (.arr 3 (.t rfl) rfl (by first | (simp [AV.okc, shV]; done) | (intro e he; rw [List.mem_singleton.1 he]; rfl))) Tryd.underlying27 ni27 ty9 rfl rfl (by first | (simp; done) | (simp; omega)) rfl ?_ | refine W.app 0 (.t rfl) rfl (.arr 4 (.t rfl) rfl (by first | (simp [AV.okc, shV]; done) | (intro e he; rw [List.mem_singleton.1 he]; rfl))) Tryd.underlying27 ni27 ty9 rfl rfl (by first | (simp; done) | (simp; omega)) rfl ?_ | refine W.app 1 (.t rfl) rfl (.arr 0 (.t rfl) rfl (by first | (simp [AV.okc, shV]; done) | (intro e he; rw [List.mem_singleton.1 he]; rfl))) Tryd.underlying27 ni27 ty9 rfl rfl (by first | (simp; done) | (simp; omega)) rfl ?_ | refine W.app 1 (.t rfl) rfl (.arr 1 (.t rfl) rfl (by first | (simp [AV.okc, shV]; done) | (intro e he; rw [List.mem_singleton.1 he]; rfl))) Tryd.underlying27 ni27 ty9 rfl rfl (by first | (simp; done) | (simp; omega)) rfl ?_ | refine W.app 1 (.t rfl) rfl (.arr 2 (.t rfl) rfl (by first | (simp [AV.okc, shV]; done) | (intro e he; rw [List.mem_singleton.1 he]; rfl))) Tryd.underlying27 ni27 ty9 rfl rfl (by first | (simp; done) | (simp; omega)) rfl ?_ | refine W.app 1 (.t rfl) rfl (.arr 3 (.t rfl) rfl (by first | (simp [AV.okc, shV]; done) | (intro e he; rw [List.mem_singleton.1 he]; rfl))) Tryd.underlying27 ni27 ty9 rfl rfl (by first | (simp; done) | (simp; omega)) rfl ?_ | refine W.app 1 (.t rfl) rfl (.arr 4 (.t rfl) rfl (by first | (simp [AV.okc, shV]; done) | (intro e he; rw [List.mem_singleton.1 he]; rfl))) Tryd.underlying27 ni27 ty9 rfl rfl (by first | (simp; done) | (simp; omega)) rfl ?_ | refine W.app 2 (.t rfl) rfl (.arr 0 (.t rfl) rfl (by first | (simp [AV.okc, shV]; done) | (intro e he; rw [List.mem_singleton.1 he]; rfl))) Tryd.underlying27 ni27 ty9 rfl rfl (by first | (simp; done) | (simp; omega)) rfl ?_ | refine W.app 2 (.t rfl) rfl (.arr 1 (.t rfl) rfl (by first | (simp [AV.okc, shV]; done) | (intro e he; rw [List.mem_singleton.1 he]; rfl))) Tryd.underlying27 ni27 ty9 rfl rfl (by first | (simp; done) | (simp; omega)) rfl ?_ | refine W.app 2 (.t rfl) rfl (.arr 2 (.t rfl) rfl (by first | (simp [AV.okc, shV]; done) | (intro e he; rw [List.mem_singleton.1 he]; rfl))) Tryd.underlying27 ni27 ty9 rfl rfl (by first | (simp; done) | (simp; omega)) rfl ?_ | refine W.app 2 (.t rfl) rfl (.arr 3 (.t rfl) rfl (by first | (simp [AV.okc, shV]; done) | (intro e he; rw [List.mem_singleton.1 he]; rfl))) Tryd.underlying27 ni27 ty9 rfl rfl (by first | (simp; done) | (simp; omega)) rfl ?_ | refine W.app 2 (.t rfl) rfl (.arr 4 (.t rfl) rfl (by first | (simp [AV.okc, shV]; done) | (intro e he; rw [List.mem_singleton.1 he]; rfl))) Tryd.underlying27 ni27 ty9 rfl rfl (by first | (simp; done) | (simp; omega)) rfl ?_ | refine W.app 3 (.t rfl) rfl (.arr 0 (.t rfl) rfl (by first | (simp [AV.okc, shV]; done) | (intro e he; rw [List.mem_singleton.1 he]; rfl))) Tryd.underlying27 ni27 ty9 rfl rfl (by first | (simp; done) | (simp; omega)) rfl ?_ | refine W.app 3 (.t rfl) rfl (.arr 1 (.t rfl) rfl (by first | (simp [AV.okc, shV]; done) | (intro e he; rw [List.mem_singleton.1 he]; rfl))) Tryd.underlying27 ni27 ty9 rfl rfl (by first | (simp; done) | (simp; omega)) rfl ?_ | refine W.app 3 (.t rfl) rfl (.arr 2 (.t rfl) rfl (by first | (simp [AV.okc, shV]; done) | (intro e he; rw [List.mem_singleton.1 he]; rfl))) Tryd.underlying27 ni27 ty9 rfl rfl (by first | (simp; done) | (simp; omega)) rfl ?_ | refine W.app 3 (.t rfl) rfl (.arr 3 (.t rfl) rfl (by first | (simp [AV.okc, shV]; done) | (intro e he; rw [List.mem_singleton.1 he]; rfl))) Tryd.underlying27 ni27 ty9 rfl rfl (by first | (simp; done) | (simp; omega)) rfl ?_ | refine W.app 3 (.t rfl) rfl (.arr 4 (.t rfl) rfl (by first | (simp [AV.okc, shV]; done) | (intro e he; rw [List.mem_singleton.1 he]; rfl))) Tryd.underlying27 ni27 ty9 rfl rfl (by first | (simp; done) | (simp; omega)) rfl ?_ | refine W.app 4 (.t rfl) rfl (.arr 0 (.t rfl) rfl (by first | (simp [AV.okc, shV]; done) | (intro e he; rw [List.mem_singleton.1 he]; rfl))) Tryd.underlying27 ni27 ty9 rfl rfl (by first | (simp; done) | (simp; omega)) rfl ?_ | refine W.app 4 (.t rfl) rfl (.arr 1 (.t rfl) rfl (by first | (simp [AV.okc, shV]; done) | (intro e he; rw [List.mem_singleton.1 he]; rfl))) Tryd.underlying27 ni27 ty9 rfl rfl (by first | (simp; done) | (simp; omega)) rfl ?_ | refine W.app 4 (.t rfl) rfl (.arr 2 (.t rfl) rfl (by first | (simp [AV.okc, shV]; done) | (intro e he; rw [List.mem_singleton.1 he]; rfl))) Tryd.underlying27 ni27 ty9 rfl rfl (by first | (simp; done) | (simp; omega)) rfl ?_ | refine W.app 4 (.t rfl) rfl (.arr 3 (.t rfl) rfl (by first | (simp [AV.okc, shV]; done) | (intro e he; rw [List.mem_singleton.1 he]; rfl))) Tryd.underlying27 ni27 ty9 rfl rfl (by first | (simp; done) | (simp; omega)) rfl ?_ | refine W.app 4 (.t rfl) rfl (.arr 4 (.t rfl) rfl (by first | (simp [AV.okc, shV]; done) | (intro e he; rw [List.mem_singleton.1 he]; rfl))) Tryd.underlying27 ni27 ty9 rfl rfl (by first | (simp; done) | (simp; omega)) rfl ?_
      intro v124
      first | refine W.q (Ev.fae (.t rfl) fa115_1 rfl) rfl ?_ | refine W.q (Ev.fab (.t rfl) fa115_1) rfl ?_ | refine W.q (Ev.faa (.t rfl) fa115_1) rfl ?_
      refine W.arr_inv 2 rfl (fun a n c h => ?_)
      subst h
      refine W.stb 1 (.t rfl) (.t rfl) rfl ty27 rfl rfl (by rw [Url.rowF_len]; decide) ?_
      refine W.perm (M' := [_, .box b11 115 (Url.rowF (Url.Fz 0 z) (.lit (.slice a n c))), .arr (.slice a n c) 9 1 ((Url.tlr.take 1).map AV.str), _]) (List.Perm.of_eq (congrArg (fun cs => [_, ME.box b11 115 cs, _, _]) (Url.rowF_setl _ _ _))) ?_
      refine W.nil ?_
      refine W.then ?_
      refine W.region ?_
      refine W.q (Ev.move (.t rfl)) rfl ?_
      refine W.q (Ev.move (.t rfl)) rfl ?_
      refine W.s2b0 (.t rfl) Tryd.underlying9 Tryd.underlying46 Tryd.underlying5 rfl ?_
      intro b128 c128 hc128
      first | refine W.q (Ev.fae (.t rfl) fa115_0 rfl) rfl ?_ | refine W.q (Ev.fab (.t rfl) fa115_0) rfl ?_ | refine W.q (Ev.faa (.t rfl) fa115_0) rfl ?_
      refine W.q (Ev.boxat (.t rfl) (.t rfl) Tryd.underlying113 ty46 (fun _ => by decide)) rfl ?_
      refine W.stb 1 (.t rfl) (.t rfl) rfl ty46 rfl rfl (by rw [Url.rowF_len]; decide) ?_
      refine W.perm (M' := [_, .box b11 115 (Url.rowF (Url.Fz 1 (fun i => if i = ((Url.kill.getD 0 0).toNat) then (b128, c128) else z i)) (.lit (.slice a n c))), _, _]) (List.Perm.of_eq (congrArg (fun cs => [_, ME.box b11 115 cs, _, _]) ((Url.rowF_set _ _ _ _ (by decide)).trans (congrArg (fun f => Url.rowF f _) (Url.Fz_step 0 (by decide) z b128 c128))))) ?_
      refine W.nil ?_
      refine W.blk_normal ?_
      refine W.then ?_
      refine W.region ?_
      refine W.q (Ev.move (.t rfl)) rfl ?_
      first | refine W.q (Ev.sub (.t rfl) .k (fun _ => by omega)) rfl ?_ | refine W.q (Ev.subw (.t rfl) .k) rfl ?_
      refine W.q (Ev.assign (.t rfl)) rfl ?_
      refine W.nil ?_
      refine W.then ?_
      refine W.reach (D := [_]) (1, _, _) ⟨rfl, rfl, rfl, trivial⟩ ((List.perm_middle (l₁ := [_])).trans <| List.Perm.cons _ <| (List.perm_middle (l₁ := [_])).trans <| List.Perm.cons _ <| (List.perm_middle (l₁ := [_])).trans <| List.Perm.cons _ <| List.Perm.cons _ <| .refl _) ⟨by show 1 ≤ 3; decide, by show 3 - 1 < 3 - 0; decide⟩
    · skip
      refine W.seq ?_
      refine W.seq ?_
      refine W.region ?_
      refine W.q (Ev.move (.t rfl)) rfl ?_
      refine W.q (Ev.gei (.t rfl) .k) rfl ?_
      refine W.nil ?_
      refine W.then ?_
      refine W.is (t := 100) (g := true) (av' := .lit (.bool true)) rfl (congrArg (fun b => AV.lit (.bool b)) (by decide)) ?_
      refine W.condT (.t rfl) ?_
      refine W.skip ?_
      refine W.then ?_
      refine W.seq ?_
      refine W.block ?_
      refine W.seq ?_
      refine W.region ?_
      refine W.q (Ev.move (.t rfl)) rfl ?_
      refine W.q (Ev.move (.t rfl)) rfl ?_
      refine W.q (Ev.at (E := 9) (e := AV.str [10]) (.t rfl) (.t rfl) Tryd.underlying27 ty9 (fun _ => ⟨by decide, rfl⟩) rfl rfl) rfl ?_
      first | refine W.q (Ev.lde1 (.t rfl) ag9) rfl ?_ | refine W.q (Ev.ldb1 0 (.t rfl) rfl ag9 rfl) rfl ?_ | refine W.q (Ev.ldb1 1 (.t rfl) rfl ag9 rfl) rfl ?_ | refine W.q (Ev.ldb1 2 (.t rfl) rfl ag9 rfl) rfl ?_ | refine W.q (Ev.ldb1 3 (.t rfl) rfl ag9 rfl) rfl ?_ | refine W.q (Ev.ldb1 4 (.t rfl) rfl ag9 rfl) rfl ?_
      refine W.q (Ev.ats' (.t rfl) .k Tryd.underlying9 (fun hg => by decide)) rfl ?_
      refine W.is (t := 107) (g := true) (av' := AV.u8 10) rfl rfl ?_
      refine W.q (Ev.assign (.t rfl)) rfl ?_
      refine W.nil ?_
      refine W.then ?_
      refine W.seq ?_
      refine W.region ?_
      refine W.q (Ev.move (.t rfl)) rfl ?_
      refine W.q (Ev.move (.t rfl)) rfl ?_
      first | refine W.q (Ev.add (.t rfl) .k (fun _ => by omega)) rfl ?_ | refine W.q (Ev.addw (.t rfl) .k) rfl ?_
      refine W.q (Ev.at (E := 9) (e := AV.str []) (.t rfl) (.t rfl) Tryd.underlying27 ty9 (fun _ => ⟨by decide, rfl⟩) rfl rfl) rfl ?_
      first | refine W.q (Ev.lde1 (.t rfl) ag9) rfl ?_ | refine W.q (Ev.ldb1 0 (.t rfl) rfl ag9 rfl) rfl ?_ | refine W.q (Ev.ldb1 1 (.t rfl) rfl ag9 rfl) rfl ?_ | refine W.q (Ev.ldb1 2 (.t rfl) rfl ag9 rfl) rfl ?_ | refine W.q (Ev.ldb1 3 (.t rfl) rfl ag9 rfl) rfl ?_ | refine W.q (Ev.ldb1 4 (.t rfl) rfl ag9 rfl) rfl ?_
      refine W.q (Ev.assign (.t rfl)) rfl ?_
      refine W.nil ?_
      refine W.then ?_
      refine W.seq ?_
      refine W.seq ?_
      refine W.region ?_
      refine W.q (Ev.move (.t rfl)) rfl ?_
      first | refine W.q (Ev.fae (.t rfl) fa115_0 rfl) rfl ?_ | refine W.q (Ev.fab (.t rfl) fa115_0) rfl ?_ | refine W.q (Ev.faa (.t rfl) fa115_0) rfl ?_
      refine W.q (Ev.boxat (.t rfl) (.t rfl) Tryd.underlying113 ty46 (fun _ => by decide)) rfl ?_
      refine W.q (Ev.ldb1 0 (c := Url.nilA) (.t rfl) rfl ag46 (Url.rowF_get _ _ 10 (by decide))) rfl ?_
      refine W.q (Ev.eqnl (.t rfl) Tryd.underlying46) rfl ?_
      refine W.nil ?_
      refine W.then ?_
      refine W.is (t := 117) (g := true) (av' := .lit (.bool true)) rfl (congrArg (fun b => AV.lit (.bool b)) (by rfl)) ?_
      refine W.condT (.t rfl) ?_
      refine W.region ?_
      first | refine W.q (Ev.fae (.t rfl) fa115_1 rfl) rfl ?_ | refine W.q (Ev.fab (.t rfl) fa115_1) rfl ?_ | refine W.q (Ev.faa (.t rfl) fa115_1) rfl ?_
      refine W.q (Ev.ldb1 0 (c := .lit v) (.t rfl) rfl ag27 (Url.rowF_last _ _)) rfl ?_
      refine W.q (Ev.move (.t rfl)) rfl ?_
      refine W.bso (es := [_]) Tryd.underlying46 ty5 ⟨rfl, (.t rfl), rfl, rfl, trivial⟩ rfl (by decide) rfl rfl ?_
      intro v121
      refine W.q (Ev.b2s 0 (l := [10]) (.t rfl) rfl Tryd.underlying46 Tryd.underlying5 Tryd.underlying9) rfl ?_
      refine W.bs (es := [_]) Tryd.underlying27 ty9 ⟨rfl, (.t rfl), rfl, rfl, trivial⟩ rfl (by decide) rfl rfl ?_
      first | refine W.app 0 (.t rfl) rfl (.sl (.t rfl) (by first | (simp [AV.okc, shV]; done) | (intro e he; rw [List.mem_singleton.1 he]; rfl))) Tryd.underlying27 ni27 ty9 rfl rfl (by first | (simp; done) | (simp; omega)) rfl ?_ | refine W.app 1 (.t rfl) rfl (.sl (.t rfl) (by first | (simp [AV.okc, shV]; done) | (intro e he; rw [List.mem_singleton.1 he]; rfl))) Tryd.underlying27 ni27 ty9 rfl rfl (by first | (simp; done) | (simp; omega)) rfl ?_ | refine W.app 2 (.t rfl) rfl (.sl (.t rfl) (by first | (simp [AV.okc, shV]; done) | (intro e he; rw [List.mem_singleton.1 he]; rfl))) Tryd.underlying27 ni27 ty9 rfl rfl (by first | (simp; done) | (simp; omega)) rfl ?_ | refine W.app 3 (.t rfl) rfl (.sl (.t rfl) (by first | (simp [AV.okc, shV]; done) | (intro e he; rw [List.mem_singleton.1 he]; rfl))) Tryd.underlying27 ni27 ty9 rfl rfl (by first | (simp; done) | (simp; omega)) rfl ?_ | refine W.app 4 (.t rfl) rfl (.sl (.t rfl) (by first | (simp [AV.okc, shV]; done) | (intro e he; rw [List.mem_singleton.1 he]; rfl))) Tryd.underlying27 ni27 ty9 rfl rfl (by first | (simp; done) | (simp; omega)) rfl ?_ | refine W.app 0 (.t rfl) rfl (.arr 0 (.t rfl) rfl (by first | (simp [AV.okc, shV]; done) | (intro e he; rw [List.mem_singleton.1 he]; rfl))) Tryd.underlying27 ni27 ty9 rfl rfl (by first | (simp; done) | (simp; omega)) rfl ?_ | refine W.app 0 (.t rfl) rfl (.arr 1 (.t rfl) rfl (by first | (simp [AV.okc, shV]; done) | (intro e he; rw [List.mem_singleton.1 he]; rfl))) Tryd.underlying27 ni27 ty9 rfl rfl (by first | (simp; done) | (simp; omega)) rfl ?_ | refine W.app 0 (.t rfl) rfl (.arr 2 (.t rfl) rfl (by first | (simp [AV.okc, shV]; done) | (intro e he; rw [List.mem_singleton.1 he]; rfl))) Tryd.underlying27 ni27 ty9 rfl rfl (by first | (simp; done) | (simp; omega)) rfl ?_ | refine W.app 0 (.t rfl) rfl (.arr 3 (.t rfl) rfl (by first | (simp [AV.okc, shV]; done) | (intro e he; rw [List.mem_singleton.1 he]; rfl))) Tryd.underlying27 ni27 ty9 rfl rfl (by first | (simp; done) | (simp; omega)) rfl ?_ | refine W.app 0 (.t rfl) rfl (.arr 4 (.t rfl) rfl (by first | (simp [AV.okc, shV]; done) | (intro e he; rw [List.mem_singleton.1 he]; rfl))) Tryd.underlying27 ni27 ty9 rfl rfl (by first | (simp; done) | (simp; omega)) rfl ?_ | refine W.app 1 (.t rfl) rfl (.arr 0 (.t rfl) rfl (by first | (simp [AV.okc, shV]; done) | (intro e he; rw [List.mem_singleton.1 he]; rfl))) Tryd.underlying27 ni27 ty9 rfl rfl (by first | (simp; done) | (simp; omega)) rfl ?_ | refine W.app 1 (.t rfl) rfl (.arr 1 (.t rfl) rfl (by first | (simp [AV.okc, shV]; done) | (intro e he; rw [List.mem_singleton.1 he]; rfl))) Tryd.underlying27 ni27 ty9 rfl rfl (by first | (simp; done) | (simp; omega)) rfl ?_ | refine W.app 1 (.t rfl) rfl (.arr 2 (.t rfl) rfl (by first | (simp [AV.okc, shV]; done) | (intro e he; rw [List.mem_singleton.1 he]; rfl))) Tryd.underlying27 ni27 ty9 rfl rfl (by first | (simp; done) | (simp; omega)) rfl ?_ | refine W.app 1 (.t rfl) rfl (.arr 3 (.t rfl) rfl (by first | (simp [AV.okc, shV]; done) | (intro e he; rw [List.mem_singleton.1 he]; rfl))) Tryd.underlying27 ni27 ty9 rfl rfl (by first | (simp; done) | (simp; omega)) rfl ?_ | refine W.app 1 (.t rfl) rfl (.arr 4 (.t rfl) rfl (by first | (simp [AV.okc, shV]; done) | (intro e he; rw [List.mem_singleton.1 he]; rfl))) Tryd.underlying27 ni27 ty9 rfl rfl (by first | (simp; done) | (simp; omega)) rfl ?_ | refine W.app 2 (.t rfl) rfl (.arr 0 (.t rfl) rfl (by first | (simp [AV.okc, shV]; done) | (intro e he; rw [List.mem_singleton.1 he]; rfl))) Tryd.underlying27 ni27 ty9 rfl rfl (by first | (simp; done) | (simp; omega)) rfl ?_ | refine W.app 2 (.t rfl) rfl (.arr 1 (.t rfl) rfl (by first | (simp [AV.okc, shV]; done) | (intro e he; rw [List.mem_singleton.1 he]; rfl))) Tryd.underlying27 ni27 ty9 rfl rfl (by first | (simp; done) | (simp; omega)) rfl ?_ | refine W.app 2 (.t rfl) rfl (.arr 2 (.t rfl) rfl (by first | (simp [AV.okc, shV]; done) | (intro e he; rw [List.mem_singleton.1 he]; rfl))) Tryd.underlying27 ni27 ty9 rfl rfl (by first | (simp; done) | (simp; omega)) rfl ?_ | refine W.app 2 (.t rfl) rfl (.arr 3 (.t rfl) rfl (by first | (simp [AV.okc, shV]; done) | (intro e he; rw [List.mem_singleton.1 he]; rfl))) Tryd.underlying27 ni27 ty9 rfl rfl (by first | (simp; done) | (simp; omega)) rfl ?_ | refine W.app 2 (.t rfl) rfl (.arr 4 (.t rfl) rfl (by first | (simp [AV.okc, shV]; done) | (intro e he; rw [List.mem_singleton.1 he]; rfl))) Tryd.underlying27 ni27 ty9 rfl rfl (by first | (simp; done) | (simp; omega)) rfl ?_ | refine W.app 3 (.t rfl) rfl (.arr 0 (.t rfl) rfl (by first | (simp [AV.okc, shV]; done) | (intro e he; rw [List.mem_singleton.1 he]; rfl))) Tryd.underlying27 ni27 ty9 rfl rfl (by first | (simp; done) | (simp; omega)) rfl ?_ | refine W.app 3 (.t rfl) rfl (.arr 1 (.t rfl) rfl (by first | (simp [AV.okc, shV]; done) | (intro e he; rw [List.mem_singleton.1 he]; rfl))) Tryd.underlying27 ni27 ty9 rfl rfl (by first | (simp; done) | (simp; omega)) rfl ?_ | refine W.app 3 (.t rfl) rfl (.arr 2 (.t rfl) rfl (by first | (simp [AV.okc, shV]; done) | (intro e he; rw [List.mem_singleton.1 he]; rfl))) Tryd.underlying27 ni27 ty9 rfl rfl (by first | (simp; done) | (simp; omega)) rfl ?_ | refine W.app 3 (.t rfl) rfl (.arr 3 (.t rfl) rfl (by first | (simp [AV.okc, shV]; done) | (intro e he; rw [List.mem_singleton.1 he]; rfl))) Tryd.underlying27 ni27 ty9 rfl rfl (by first | (simp; done) | (simp; omega)) rfl ?_ | refine W.app 3 (.t rfl) rfl (.arr 4 (.t rfl) rfl (by first | (simp [AV.okc, shV]; done) | (intro e he; rw [List.mem_singleton.1 he]; rfl))) Tryd.underlying27 ni27 ty9 rfl rfl (by first | (simp; done) | (simp; omega)) rfl ?_ | refine W.app 4 (.t rfl) rfl (.arr 0 (.t rfl) rfl (by first | (simp [AV.okc, shV]; done) | (intro e he; rw [List.mem_singleton.1 he]; rfl))) Tryd.underlying27 ni27 ty9 rfl rfl (by first | (simp; done) | (simp; omega)) rfl ?_ | refine W.app 4 (.t rfl) rfl (.arr 1 (.t rfl) rfl (by first | (simp [AV.okc, shV]; done) | (intro e he; rw [List.mem_singleton.1 he]; rfl))) Tryd.underlying27 ni27 ty9 rfl rfl (by first | (simp; done) | (simp; omega)) rfl ?_ | refine W.app 4 (.t rfl) rfl (.arr 2 (.t rfl) rfl (by first | (simp [AV.okc, shV]; done) | (intro e he; rw [List.mem_singleton.1 he]; rfl))) Tryd.underlying27 ni27 ty9 rfl rfl (by first | (simp; done) | (simp; omega)) rfl ?_ | refine W.app 4 (.t rfl) rfl (.arr 3 (.t rfl) rfl (by first | (simp [AV.okc, shV]; done) | (intro e he; rw [List.mem_singleton.1 he]; rfl))) Tryd.underlying27 ni27 ty9 rfl rfl (by first | (simp; done) | (simp; omega)) rfl ?_ | refine W.app 4 (.t rfl) rfl (.arr 4 (.t rfl) rfl (by first | (simp [AV.okc, shV]; done) | (intro e he; rw [List.mem_singleton.1 he]; rfl))) Tryd.underlying27 ni27 ty9 rfl rfl (by first | (simp; done) | (simp; omega)) rfl ?_
      intro v124
      first | refine W.q (Ev.fae (.t rfl) fa115_1 rfl) rfl ?_ | refine W.q (Ev.fab (.t rfl) fa115_1) rfl ?_ | refine W.q (Ev.faa (.t rfl) fa115_1) rfl ?_
      refine W.arr_inv 2 rfl (fun a n c h => ?_)
      subst h
      refine W.stb 1 (.t rfl) (.t rfl) rfl ty27 rfl rfl (by rw [Url.rowF_len]; decide) ?_
      refine W.perm (M' := [_, .box b11 115 (Url.rowF (Url.Fz 1 z) (.lit (.slice a n c))), .arr (.slice a n c) 9 1 ((Url.tlr.take 2).map AV.str), _]) (List.Perm.of_eq (congrArg (fun cs => [_, ME.box b11 115 cs, _, _]) (Url.rowF_setl _ _ _))) ?_
      refine W.nil ?_
      refine W.then ?_
      refine W.region ?_
      refine W.q (Ev.move (.t rfl)) rfl ?_
      refine W.q (Ev.move (.t rfl)) rfl ?_
      refine W.s2b0 (.t rfl) Tryd.underlying9 Tryd.underlying46 Tryd.underlying5 rfl ?_
      intro b128 c128 hc128
      first | refine W.q (Ev.fae (.t rfl) fa115_0 rfl) rfl ?_ | refine W.q (Ev.fab (.t rfl) fa115_0) rfl ?_ | refine W.q (Ev.faa (.t rfl) fa115_0) rfl ?_
      refine W.q (Ev.boxat (.t rfl) (.t rfl) Tryd.underlying113 ty46 (fun _ => by decide)) rfl ?_
      refine W.stb 1 (.t rfl) (.t rfl) rfl ty46 rfl rfl (by rw [Url.rowF_len]; decide) ?_
      refine W.perm (M' := [_, .box b11 115 (Url.rowF (Url.Fz 2 (fun i => if i = ((Url.kill.getD 1 0).toNat) then (b128, c128) else z i)) (.lit (.slice a n c))), _, _]) (List.Perm.of_eq (congrArg (fun cs => [_, ME.box b11 115 cs, _, _]) ((Url.rowF_set _ _ _ _ (by decide)).trans (congrArg (fun f => Url.rowF f _) (Url.Fz_step 1 (by decide) z b128 c128))))) ?_
      refine W.nil ?_
      refine W.blk_normal ?_
      refine W.then ?_
      refine W.region ?_
      refine W.q (Ev.move (.t rfl)) rfl ?_
      first | refine W.q (Ev.sub (.t rfl) .k (fun _ => by omega)) rfl ?_ | refine W.q (Ev.subw (.t rfl) .k) rfl ?_
      refine W.q (Ev.assign (.t rfl)) rfl ?_
      refine W.nil ?_
      refine W.then ?_
      refine W.reach (D := [_]) (2, _, _) ⟨rfl, rfl, rfl, trivial⟩ ((List.perm_middle (l₁ := [_])).trans <| List.Perm.cons _ <| (List.perm_middle (l₁ := [_])).trans <| List.Perm.cons _ <| (List.perm_middle (l₁ := [_])).trans <| List.Perm.cons _ <| List.Perm.cons _ <| .refl _) ⟨by show 2 ≤ 3; decide, by show 3 - 2 < 3 - 1; decide⟩
    · skip
      refine W.seq ?_
      refine W.seq ?_
      refine W.region ?_
      refine W.q (Ev.move (.t rfl)) rfl ?_
      refine W.q (Ev.gei (.t rfl) .k) rfl ?_
      refine W.nil ?_
      refine W.then ?_
      refine W.is (t := 100) (g := true) (av' := .lit (.bool true)) rfl (congrArg (fun b => AV.lit (.bool b)) (by decide)) ?_
      refine W.condT (.t rfl) ?_
      refine W.skip ?_
      refine W.then ?_
      refine W.seq ?_
      refine W.block ?_
      refine W.seq ?_
      refine W.region ?_
      refine W.q (Ev.move (.t rfl)) rfl ?_
      refine W.q (Ev.move (.t rfl)) rfl ?_
      refine W.q (Ev.at (E := 9) (e := AV.str [9]) (.t rfl) (.t rfl) Tryd.underlying27 ty9 (fun _ => ⟨by decide, rfl⟩) rfl rfl) rfl ?_
      first | refine W.q (Ev.lde1 (.t rfl) ag9) rfl ?_ | refine W.q (Ev.ldb1 0 (.t rfl) rfl ag9 rfl) rfl ?_ | refine W.q (Ev.ldb1 1 (.t rfl) rfl ag9 rfl) rfl ?_ | refine W.q (Ev.ldb1 2 (.t rfl) rfl ag9 rfl) rfl ?_ | refine W.q (Ev.ldb1 3 (.t rfl) rfl ag9 rfl) rfl ?_ | refine W.q (Ev.ldb1 4 (.t rfl) rfl ag9 rfl) rfl ?_
      refine W.q (Ev.ats' (.t rfl) .k Tryd.underlying9 (fun hg => by decide)) rfl ?_
      refine W.is (t := 107) (g := true) (av' := AV.u8 9) rfl rfl ?_
      refine W.q (Ev.assign (.t rfl)) rfl ?_
      refine W.nil ?_
      refine W.then ?_
      refine W.seq ?_
      refine W.region ?_
      refine W.q (Ev.move (.t rfl)) rfl ?_
      refine W.q (Ev.move (.t rfl)) rfl ?_
      first | refine W.q (Ev.add (.t rfl) .k (fun _ => by omega)) rfl ?_ | refine W.q (Ev.addw (.t rfl) .k) rfl ?_
      refine W.q (Ev.at (E := 9) (e := AV.str []) (.t rfl) (.t rfl) Tryd.underlying27 ty9 (fun _ => ⟨by decide, rfl⟩) rfl rfl) rfl ?_
      first | refine W.q (Ev.lde1 (.t rfl) ag9) rfl ?_ | refine W.q (Ev.ldb1 0 (.t rfl) rfl ag9 rfl) rfl ?_ | refine W.q (Ev.ldb1 1 (.t rfl) rfl ag9 rfl) rfl ?_ | refine W.q (Ev.ldb1 2 (.t rfl) rfl ag9 rfl) rfl ?_ | refine W.q (Ev.ldb1 3 (.t rfl) rfl ag9 rfl) rfl ?_ | refine W.q (Ev.ldb1 4 (.t rfl) rfl ag9 rfl) rfl ?_
      refine W.q (Ev.assign (.t rfl)) rfl ?_
      refine W.nil ?_
      refine W.then ?_
      refine W.seq ?_
      refine W.seq ?_
      refine W.region ?_
      refine W.q (Ev.move (.t rfl)) rfl ?_
      first | refine W.q (Ev.fae (.t rfl) fa115_0 rfl) rfl ?_ | refine W.q (Ev.fab (.t rfl) fa115_0) rfl ?_ | refine W.q (Ev.faa (.t rfl) fa115_0) rfl ?_
      refine W.q (Ev.boxat (.t rfl) (.t rfl) Tryd.underlying113 ty46 (fun _ => by decide)) rfl ?_
      refine W.q (Ev.ldb1 0 (c := Url.nilA) (.t rfl) rfl ag46 (Url.rowF_get _ _ 9 (by decide))) rfl ?_
      refine W.q (Ev.eqnl (.t rfl) Tryd.underlying46) rfl ?_
      refine W.nil ?_
      refine W.then ?_
      refine W.is (t := 117) (g := true) (av' := .lit (.bool true)) rfl (congrArg (fun b => AV.lit (.bool b)) (by rfl)) ?_
      refine W.condT (.t rfl) ?_
      refine W.region ?_
      first | refine W.q (Ev.fae (.t rfl) fa115_1 rfl) rfl ?_ | refine W.q (Ev.fab (.t rfl) fa115_1) rfl ?_ | refine W.q (Ev.faa (.t rfl) fa115_1) rfl ?_
      refine W.q (Ev.ldb1 0 (c := .lit v) (.t rfl) rfl ag27 (Url.rowF_last _ _)) rfl ?_
      refine W.q (Ev.move (.t rfl)) rfl ?_
      refine W.bso (es := [_]) Tryd.underlying46 ty5 ⟨rfl, (.t rfl), rfl, rfl, trivial⟩ rfl (by decide) rfl rfl ?_
      intro v121
      refine W.q (Ev.b2s 0 (l := [9]) (.t rfl) rfl Tryd.underlying46 Tryd.underlying5 Tryd.underlying9) rfl ?_
      refine W.bs (es := [_]) Tryd.underlying27 ty9 ⟨rfl, (.t rfl), rfl, rfl, trivial⟩ rfl (by decide) rfl rfl ?_
      first | refine W.app 0 (.t rfl) rfl (.sl (.t rfl) (by first | (simp [AV.okc, shV]; done) | (intro e he; rw [List.mem_singleton.1 he]; rfl))) Tryd.underlying27 ni27 ty9 rfl rfl (by first | (simp; done) | (simp; omega)) rfl ?_ | refine W.app 1 (.t rfl) rfl (.sl (.t rfl) (by first | (simp [AV.okc, shV]; done) | (intro e he; rw [List.mem_singleton.1 he]; rfl))) Tryd.underlying27 ni27 ty9 rfl rfl (by first | (simp; done) | (simp; omega)) rfl ?_ | refine W.app 2 (.t rfl) rfl (.sl (.t rfl) (by first | (simp [AV.okc, shV]; done) | (intro e he; rw [List.mem_singleton.1 he]; rfl))) Tryd.underlying27 ni27 ty9 rfl rfl (by first | (simp; done) | (simp; omega)) rfl ?_ | refine W.app 3 (.t rfl) rfl (.sl (.t rfl) (by first | (simp [AV.okc, shV]; done) | (intro e he; rw [List.mem_singleton.1 he]; rfl))) Tryd.underlying27 ni27 ty9 rfl rfl (by first | (simp; done) | (simp; omega)) rfl ?_ | refine W.app 4 (.t rfl) rfl (.sl (.t rfl) (by first | (simp [AV.okc, shV]; done) | (intro e he; rw [List.mem_singleton.1 he]; rfl))) Tryd.underlying27 ni27 ty9 rfl rfl (by first | (simp; done) | (simp; omega)) rfl ?_ | refine W.app 0 (.t rfl) rfl (.arr 0 (.t rfl) rfl (by first | (simp [AV.okc, shV]; done) | (intro e he; rw [List.mem_singleton.1 he]; rfl))) Tryd.underlying27 ni27 ty9 rfl rfl (by first | (simp; done) | (simp; omega)) rfl ?_ | refine W.app 0 (.t rfl) rfl (.arr 1 (.t rfl) rfl (by first | (simp [AV.okc, shV]; done) | (intro e he; rw [List.mem_singleton.1 he]; rfl))) Tryd.underlying27 ni27 ty9 rfl rfl (by first | (simp; done) | (simp; omega)) rfl ?_ | refine W.app 0 (.t rfl) rfl (.arr 2 (.t rfl) rfl (by first | (simp [AV.okc, shV]; done) | (intro e he; rw [List.mem_singleton.1 he]; rfl))) Tryd.underlying27 ni27 ty9 rfl rfl (by first | (simp; done) | (simp; omega)) rfl ?_ | refine W.app 0 (.t rfl) rfl (.arr 3 (.t rfl) rfl (by first | (simp [AV.okc, shV]; done) | (intro e he; rw [List.mem_singleton.1 he]; rfl))) Tryd.underlying27 ni27 ty9 rfl rfl (by first | (simp; done) | (simp; omega)) rfl ?_ | refine W.app 0 (.t rfl) rfl (.arr 4 (.t rfl) rfl (by first | (simp [AV.okc, shV]; done) | (intro e he; rw [List.mem_singleton.1 he]; rfl))) Tryd.underlying27 ni27 ty9 rfl rfl (by first | (simp; done) | (simp; omega)) rfl ?_ | refine W.app 1 (.t rfl) rfl (.arr 0 (.t rfl) rfl (by first | (simp [AV.okc, shV]; done) | (intro e he; rw [List.mem_singleton.1 he]; rfl))) Tryd.underlying27 ni27 ty9 rfl rfl (by first | (simp; done) | (simp; omega)) rfl ?_ | refine W.app 1 (.t rfl) rfl (.arr 1 (.t rfl) rfl (by first | (simp [AV.okc, shV]; done) | (intro e he; rw [List.mem_singleton.1 he]; rfl))) Tryd.underlying27 ni27 ty9 rfl rfl (by first | (simp; done) | (simp; omega)) rfl ?_ | refine W.app 1 (.t rfl) rfl (.arr 2 (.t rfl) rfl (by first | (simp [AV.okc, shV]; done) | (intro e he; rw [List.mem_singleton.1 he]; rfl))) Tryd.underlying27 ni27 ty9 rfl rfl (by first | (simp; done) | (simp; omega)) rfl ?_ | refine W.app 1 (.t rfl) rfl (.arr 3 (.t rfl) rfl (by first | (simp [AV.okc, shV]; done) | (intro e he; rw [List.mem_singleton.1 he]; rfl))) Tryd.underlying27 ni27 ty9 rfl rfl (by first | (simp; done) | (simp; omega)) rfl ?_ | refine W.app 1 (.t rfl) rfl (.arr 4 (.t rfl) rfl (by first | (simp [AV.okc, shV]; done) | (intro e he; rw [List.mem_singleton.1 he]; rfl))) Tryd.underlying27 ni27 ty9 rfl rfl (by first | (simp; done) | (simp; omega)) rfl ?_ | refine W.app 2 (.t rfl) rfl (.arr 0 (.t rfl) rfl (by first | (simp [AV.okc, shV]; done) | (intro e he; rw [List.mem_singleton.1 he]; rfl))) Tryd.underlying27 ni27 ty9 rfl rfl (by first | (simp; done) | (simp; omega)) rfl ?_ | refine W.app 2 (.t rfl) rfl (.arr 1 (.t rfl) rfl (by first | (simp [AV.okc, shV]; done) | (intro e he; rw [List.mem_singleton.1 he]; rfl))) Tryd.underlying27 ni27 ty9 rfl rfl (by first | (simp; done) | (simp; omega)) rfl ?_ | refine W.app 2 (.t rfl) rfl (.arr 2 (.t rfl) rfl (by first | (simp [AV.okc, shV]; done) | (intro e he; rw [List.mem_singleton.1 he]; rfl))) Tryd.underlying27 ni27 ty9 rfl rfl (by first | (simp; done) | (simp; omega)) rfl ?_ | refine W.app 2 (.t rfl) rfl (.arr 3 (.t rfl) rfl (by first | (simp [AV.okc, shV]; done) | (intro e he; rw [List.mem_singleton.1 he]; rfl))) Tryd.underlying27 ni27 ty9 rfl rfl (by first | (simp; done) | (simp; omega)) rfl ?_ | refine W.app 2 (.t rfl) rfl (.arr 4 (.t rfl) rfl (by first | (simp [AV.okc, shV]; done) | (intro e he; rw [List.mem_singleton.1 he]; rfl))) Tryd.underlying27 ni27 ty9 rfl rfl (by first | (simp; done) | (simp; omega)) rfl ?_ | refine W.app 3 (.t rfl) rfl (.arr 0 (.t rfl) rfl (by first | (simp [AV.okc, shV]; done) | (intro e he; rw [List.mem_singleton.1 he]; rfl))) Tryd.underlying27 ni27 ty9 rfl rfl (by first | (simp; done) | (simp; omega)) rfl ?_ | refine W.app 3 (.t rfl) rfl (.arr 1 (.t rfl) rfl (by first | (simp [AV.okc, shV]; done) | (intro e he; rw [List.mem_singleton.1 he]; rfl))) Tryd.underlying27 ni27 ty9 rfl rfl (by first | (simp; done) | (simp; omega)) rfl ?_ | refine W.app 3 (.t rfl) rfl (.arr 2 (.t rfl) rfl (by first | (simp [AV.okc, shV]; done) | (intro e he; rw [List.mem_singleton.1 he]; rfl))) Tryd.underlying27 ni27 ty9 rfl rfl (by first | (simp; done) | (simp; omega)) rfl ?_ | refine W.app 3 (.t rfl) rfl (.arr 3 (.t rfl) rfl (by first | (simp [AV.okc, shV]; done) | (intro e he; rw [List.mem_singleton.1 he]; rfl))) Tryd.underlying27 ni27 ty9 rfl rfl (by first | (simp; done) | (simp; omega)) rfl ?_ | refine W.app 3 (.t rfl) rfl (.arr 4 (.t rfl) rfl (by first | (simp [AV.okc, shV]; done) | (intro e he; rw [List.mem_singleton.1 he]; rfl))) Tryd.underlying27 ni27 ty9 rfl rfl (by first | (simp; done) | (simp; omega)) rfl ?_ | refine W.app 4 (.t rfl) rfl (.arr 0 (.t rfl) rfl (by first | (simp [AV.okc, shV]; done) | (intro e he; rw [List.mem_singleton.1 he]; rfl))) Tryd.underlying27 ni27 ty9 rfl rfl (by first | (simp; done) | (simp; omega)) rfl ?_ | refine W.app 4 (.t rfl) rfl (.arr 1 (.t rfl) rfl (by first | (simp [AV.okc, shV]; done) | (intro e he; rw [List.mem_singleton.1 he]; rfl))) Tryd.underlying27 ni27 ty9 rfl rfl (by first | (simp; done) | (simp; omega)) rfl ?_ | refine W.app 4 (.t rfl) rfl (.arr 2 (.t rfl) rfl (by first | (simp [AV.okc, shV]; done) | (intro e he; rw [List.mem_singleton.1 he]; rfl))) Tryd.underlying27 ni27 ty9 rfl rfl (by first | (simp; done) | (simp; omega)) rfl ?_ | refine W.app 4 (.t rfl) rfl (.arr 3 (.t rfl) rfl (by first | (simp [AV.okc, shV]; done) | (intro e he; rw [List.mem_singleton.1 he]; rfl))) Tryd.underlying27 ni27 ty9 rfl rfl (by first | (simp; done) | (simp; omega)) rfl ?_ | refine W.app 4 (.t rfl) rfl (.arr 4 (.t rfl) rfl (by first | (simp [AV.okc, shV]; done) | (intro e he; rw [List.mem_singleton.1 he]; rfl))) Tryd.underlying27 ni27 ty9 rfl rfl (by first | (simp; done) | (simp; omega)) rfl ?_
      intro v124
      first | refine W.q (Ev.fae (.t rfl) fa115_1 rfl) rfl ?_ | refine W.q (Ev.fab (.t rfl) fa115_1) rfl ?_ | refine W.q (Ev.faa (.t rfl) fa115_1) rfl ?_
      refine W.arr_inv 2 rfl (fun a n c h => ?_)
      subst h
      refine W.stb 1 (.t rfl) (.t rfl) rfl ty27 rfl rfl (by rw [Url.rowF_len]; decide) ?_
      refine W.perm (M' := [_, .box b11 115 (Url.rowF (Url.Fz 2 z) (.lit (.slice a n c))), .arr (.slice a n c) 9 1 ((Url.tlr.take 3).map AV.str), _]) (List.Perm.of_eq (congrArg (fun cs => [_, ME.box b11 115 cs, _, _]) (Url.rowF_setl _ _ _))) ?_
      refine W.nil ?_
      refine W.then ?_
      refine W.region ?_
      refine W.q (Ev.move (.t rfl)) rfl ?_
      refine W.q (Ev.move (.t rfl)) rfl ?_
      refine W.s2b0 (.t rfl) Tryd.underlying9 Tryd.underlying46 Tryd.underlying5 rfl ?_
      intro b128 c128 hc128
      first | refine W.q (Ev.fae (.t rfl) fa115_0 rfl) rfl ?_ | refine W.q (Ev.fab (.t rfl) fa115_0) rfl ?_ | refine W.q (Ev.faa (.t rfl) fa115_0) rfl ?_
      refine W.q (Ev.boxat (.t rfl) (.t rfl) Tryd.underlying113 ty46 (fun _ => by decide)) rfl ?_
      refine W.stb 1 (.t rfl) (.t rfl) rfl ty46 rfl rfl (by rw [Url.rowF_len]; decide) ?_
      refine W.perm (M' := [_, .box b11 115 (Url.rowF (Url.Fz 3 (fun i => if i = ((Url.kill.getD 2 0).toNat) then (b128, c128) else z i)) (.lit (.slice a n c))), _, _]) (List.Perm.of_eq (congrArg (fun cs => [_, ME.box b11 115 cs, _, _]) ((Url.rowF_set _ _ _ _ (by decide)).trans (congrArg (fun f => Url.rowF f _) (Url.Fz_step 2 (by decide) z b128 c128))))) ?_
      refine W.nil ?_
      refine W.blk_normal ?_
      refine W.then ?_
      refine W.region ?_
      refine W.q (Ev.move (.t rfl)) rfl ?_
      first | refine W.q (Ev.sub (.t rfl) .k (fun _ => by omega)) rfl ?_ | refine W.q (Ev.subw (.t rfl) .k) rfl ?_
      refine W.q (Ev.assign (.t rfl)) rfl ?_
      refine W.nil ?_
      refine W.then ?_
      refine W.reach (D := [_]) (3, _, _) ⟨rfl, rfl, rfl, trivial⟩ ((List.perm_middle (l₁ := [_])).trans <| List.Perm.cons _ <| (List.perm_middle (l₁ := [_])).trans <| List.Perm.cons _ <| (List.perm_middle (l₁ := [_])).trans <| List.Perm.cons _ <| List.Perm.cons _ <| .refl _) ⟨by show 3 ≤ 3; decide, by show 3 - 3 < 3 - 2; decide⟩
    · refine W.freezeA (M1 := [.box b11 115 (Url.rowF (Url.Fz 3 z) (.lit v)), .box b 81 [.lit (.int .u32 0), .lit (.int .i32 1), .lit (.int .u32 0), .lit .nilIface, .sl 1 (Url.six.map AV.str)]]) (M2 := [.box b11 115 (Url.rowF (Url.Fz 3 z) (.sl 1 (Url.tlr.map AV.str))), .box b 81 [.lit (.int .u32 0), .lit (.int .i32 1), .lit (.int .u32 0), .lit .nilIface, .sl 1 (Url.six.map AV.str)]]) (D := []) (v := v) (L' := []) (List.Perm.swap _ _ _) trivial ⟨.box (Url.frz_rowF _), .refl _, trivial⟩ ?_
      refine W.seq ?_
      refine W.seq ?_
      refine W.region ?_
      refine W.q (Ev.move (.t rfl)) rfl ?_
      refine W.q (Ev.gei (.t rfl) .k) rfl ?_
      refine W.nil ?_
      refine W.then ?_
      refine W.is (t := 100) (g := true) (av' := .lit (.bool false)) rfl (congrArg (fun b => AV.lit (.bool b)) (by decide)) ?_
      refine W.condF (.t rfl) ?_
      refine W.exit ?_
      refine W.then_exit ?_
      refine W.then_exit ?_
      refine W.blk_hit ?_
      refine W.then ?_
      refine W.seq ?_
      refine W.region ?_
      refine W.q (Ev.mkif (.t rfl) Tryd.underlying116 (by intro ms h; cases h)) rfl ?_
      refine W.q (Ev.assign (.t rfl)) rfl ?_
      refine W.nil ?_
      refine W.then ?_
      refine W.ret ?_
      refine W.retn (M' := [.box b 81 [.lit (.int .u32 0), .lit (.int .i32 1), .lit (.int .u32 0), .lit .nilIface, .sl 1 (Url.six.map AV.str)], .box b11 115 _]) (D := []) (rs := [.tmp 2]) (avs := [_]) Tryd.results51 ⟨rfl, trivial⟩ rfl (List.Perm.swap _ _ []) ?_
      exact ⟨b11, z, rfl, rfl⟩

end WBuild

end Go.Proofs.YtohncieijjhnjaaDoor
end

section
set_option linter.unusedVariables false
set_option linter.unusedSimpArgs false
set_option maxRecDepth 100000
namespace Go.Proofs.YtohncieijjhnjaaDoor
open Go.Vl

namespace WOnce

theorem disable (w : World) : (callFunc 87 #[]).run Tryd.prog w = .ok (.value (.tuple #[])) w := run_call_mark0 Tryd.func87 (by kernel_rfl) (by kernel_rfl) (by kernel_rfl) .disable (by kernel_rfl) w
theorem enable (w : World) : (callFunc 89 #[]).run Tryd.prog w = .ok (.value (.tuple #[])) w := run_call_mark0 Tryd.func89 (by kernel_rfl) (by kernel_rfl) (by kernel_rfl) .enable (by kernel_rfl) w
theorem acquire (a : Addr) (w : World) : (callFunc 90 #[.pointer (some a)]).run Tryd.prog w = .ok (.value (.tuple #[])) w := run_call_marked Tryd.func90 (by kernel_rfl) (by kernel_rfl) (by kernel_rfl) .acquire (by kernel_rfl) a w
theorem releaseMerge (a : Addr) (w : World) : (callFunc 92 #[.pointer (some a)]).run Tryd.prog w = .ok (.value (.tuple #[])) w := run_call_marked Tryd.func92 (by kernel_rfl) (by kernel_rfl) (by kernel_rfl) .releaseMerge (by kernel_rfl) a w
theorem store_deferred (a : Addr) (x : Value) (u : FrameMode) (w : World) (hc : w.cell? a = some x) (hz : w.frozen? a = false) :
    CallsD Tryd.prog 66 #[.pointer (some a), .bool true] u w fun e u' w' => u' = u ∧ (e = .returned (.tuple #[]) ∧ w' = w.drew.setCell a (.int .u32 1)) := by
  have hc' : w.drew.cell? a = some x := by go_simp
  have hz' : w.drew.frozen? a = false := by go_simp
  have hst := run_call_store (P := Tryd.prog) Tryd.func77 (by kernel_rfl) (by kernel_rfl) (by kernel_rfl) (by kernel_rfl) (k := .u32) (y := 1) hc' hz'
  go_enter_d Tryd.func66, Tryd.ntmps66
  go_wp2
  go_region_calls
  all_goals (go_end0; exact ⟨rfl, rfl⟩)
theorem unlock_deferred (a : Addr) (u : FrameMode) (w : World) (hc : w.cell? a = some (.int .i32 1)) (hz : w.frozen? a = false) :
    CallsD Tryd.prog 65 #[.pointer (some a)] u w fun e u' w' => u' = u ∧ (e = .returned (.tuple #[]) ∧ w' = w.setCell a (.int .i32 0)) := by
  have hd := disable
  have he := enable
  have hr := releaseMerge
  have hadd := run_call_add (P := Tryd.prog) Tryd.func93 (by kernel_rfl) (by kernel_rfl) (by kernel_rfl) .i32 (by kernel_rfl) (y := -1) (s := 0) hc hz (by simp [go_sem]; rfl)
  have hcv := run_convert_to_unsafe (P := Tryd.prog) (src := 145) (dst := 95) Tryd.underlying145 Tryd.underlying95 (by kernel_rfl) hc
  go_enter_d Tryd.func65, Tryd.ntmps65
  go_wp2
  go_end0
  go_wp2
  go_end0
  exact ⟨rfl, rfl⟩
theorem lock_free (a : Addr) (w : World) (hc : w.cell? a = some (.int .i32 0)) (hz : w.frozen? a = false) :
    Calls Tryd.prog 64 #[.pointer (some a)] w fun e w' => e = .returned (.tuple #[]) ∧ w' = w.setCell a (.int .i32 1) := by
  have hd := disable
  have he := enable
  have ha := acquire
  have hcas := run_call_cas_hit (P := Tryd.prog) Tryd.func88 (by kernel_rfl) (by kernel_rfl) (by kernel_rfl) .i32 (by kernel_rfl) (y := 1) hc hz
  have hc' : (w.setCell a (.int .i32 1)).cell? a = some (.int .i32 1) := World.cell?_setCell_same w a _ hc
  have hcv := run_convert_to_unsafe (P := Tryd.prog) (src := 145) (dst := 95) Tryd.underlying145 Tryd.underlying95 (by kernel_rfl) hc'
  go_enter Tryd.func64, Tryd.ntmps64
  go_wp2
  first | go_end0 | (simp only [Exit.inBlock, Exit.then]; refine bodyPost_ret (results_none rfl _ _ _) rfl ?_) | refine bodyPost_ret (results_none rfl _ _ _) rfl ?_
  go_wp2
  go_end0
  exact ⟨rfl, rfl⟩
set_option maxRecDepth 100000 in
set_option maxHeartbeats 1600000 in
theorem slow_any (b : Nat) (w : World) (Q : World → Prop) (h0 : w.cell? ⟨b, 0, none⟩ = some (.int .u32 0)) (h1 : w.cell? ⟨b, 1, none⟩ = some (.int .i32 0)) (f0 : w.frozen? ⟨b, 0, none⟩ = false) (f1 : w.frozen? ⟨b, 1, none⟩ = false)
    (hcall : Calls Tryd.prog 37 #[.pointer (some ⟨b, 0, none⟩)] (w.setCell ⟨b, 1, none⟩ (.int .i32 1)) fun e w' => e = .returned (.tuple #[]) ∧ (w'.cell? ⟨b, 0, none⟩ = some (.int .u32 0) ∧ w'.cell? ⟨b, 1, none⟩ = some (.int .i32 1) ∧ w'.frozen? ⟨b, 0, none⟩ = false ∧ w'.frozen? ⟨b, 1, none⟩ = false) ∧ Q w') :
    Calls Tryd.prog 50 #[.pointer (some ⟨b, 0, none⟩), .func (.func 37) #[.pointer (some ⟨b, 0, none⟩)] #[]] w fun e w' => e = .returned (.tuple #[]) ∧ ∃ w2, Q w2 ∧ w' = (w2.drew.setCell ⟨b, 0, none⟩ (.int .u32 1)).setCell ⟨b, 1, none⟩ (.int .i32 0) := by
  have hl := run_call_load (P := Tryd.prog) Tryd.func63 (by kernel_rfl) (by kernel_rfl) (by kernel_rfl) .u32 (by kernel_rfl) (w := w.setCell ⟨b, 1, none⟩ (.int .i32 1)) (a := ⟨b, 0, none⟩) (x := 0) ((World.cell?_setCell_other _ ⟨b, 1, none⟩ ⟨b, 0, none⟩ _ (by simp)).trans h0)
  have hnot : ∀ (x : Bool) (w : World), (Op.unary .not (.bool x)).run Tryd.prog w = .ok (.bool (!x)) w := fun _ _ => rfl
  go_enter_defers Tryd.func50, Tryd.ntmps50
  go_wp2_with (go_at_call 64; refine (lock_free ⟨b, 1, none⟩ _ (by go_simp) (by go_simp)).mono ?_; rintro e w' ⟨rfl, rfl⟩)
  go_wp2_with (first | (go_at_call 37; refine hcall.mono ?_; rintro e w' ⟨rfl, ⟨k0, k1, z0, z1⟩, hQ⟩) | (go_at_call 49; go_in))
  first | go_wp2 | skip
  refine leaves_cons (f := 66) (args := #[.pointer (some ⟨b, 0, none⟩), .bool true]) (by simp) (by simp [go_sem]) ?_
  refine (store_deferred ⟨b, 0, none⟩ (.int .u32 0) .returning _ k0 z0).mono ?_
  rintro e u' w'' ⟨rfl, rfl, rfl⟩
  refine leaves_cons (f := 65) (args := #[.pointer (some ⟨b, 1, none⟩)]) (by simp [settle]) (by simp [go_sem]) ?_
  refine (unlock_deferred ⟨b, 1, none⟩ _ _ ?_ (by simp [z1])).mono ?_
  · refine (World.cell?_setCell_other _ ⟨b, 0, none⟩ ⟨b, 1, none⟩ _ (by simp)).trans ?_
    rw [World.cell?_drew]
    exact k1
  rintro e u' w'' ⟨rfl, rfl, rfl⟩
  simp [Leaves, settle, results, Tryd.results50]
  exact ⟨w', hQ, rfl⟩
set_option maxRecDepth 100000 in
set_option maxHeartbeats 1600000 in
theorem do_first (b : Nat) (w : World) (Q : World → Prop) (h0 : w.cell? ⟨b, 0, none⟩ = some (.int .u32 0)) (h1 : w.cell? ⟨b, 1, none⟩ = some (.int .i32 0)) (f0 : w.frozen? ⟨b, 0, none⟩ = false) (f1 : w.frozen? ⟨b, 1, none⟩ = false)
    (hcall : Calls Tryd.prog 37 #[.pointer (some ⟨b, 0, none⟩)] (w.setCell ⟨b, 1, none⟩ (.int .i32 1)) fun e w' => e = .returned (.tuple #[]) ∧ (w'.cell? ⟨b, 0, none⟩ = some (.int .u32 0) ∧ w'.cell? ⟨b, 1, none⟩ = some (.int .i32 1) ∧ w'.frozen? ⟨b, 0, none⟩ = false ∧ w'.frozen? ⟨b, 1, none⟩ = false) ∧ Q w') :
    Calls Tryd.prog 36 #[.pointer (some ⟨b, 0, none⟩), .func (.func 37) #[.pointer (some ⟨b, 0, none⟩)] #[]] w fun e w' => e = .returned (.tuple #[]) ∧ ∃ w2, Q w2 ∧ w' = (w2.drew.setCell ⟨b, 0, none⟩ (.int .u32 1)).setCell ⟨b, 1, none⟩ (.int .i32 0) := by
  have hl := run_call_load (P := Tryd.prog) Tryd.func63 (by kernel_rfl) (by kernel_rfl) (by kernel_rfl) .u32 (by kernel_rfl) h0
  have hnot : ∀ (x : Bool) (w : World), (Op.unary .not (.bool x)).run Tryd.prog w = .ok (.bool (!x)) w := fun _ _ => rfl
  go_enter Tryd.func36, Tryd.ntmps36
  go_wp2_with (first | (go_at_call 50; refine (slow_any b w Q h0 h1 f0 f1 hcall).mono ?_; rintro e w' ⟨rfl, w2, hQ, rfl⟩) | (go_at_call 49; go_in))
  go_end0
  exact ⟨rfl, w2, hQ, rfl⟩

end WOnce

end Go.Proofs.YtohncieijjhnjaaDoor
end

section
set_option linter.unusedVariables false
set_option linter.unusedSimpArgs false
namespace Go.Vl
open Go.RowKit (Below)
theorem setCell_eq {w : World} {b j : Nat} {cur : Array Value} {T : TypeId} {fr : Nat × Nat} {u : Value} (h : w.heap[b]? = some (.cells cur T fr)) :
    w.setCell ⟨b, j, none⟩ u = { w with heap := w.heap.setIfInBounds b (.cells (cur.setIfInBounds j u) T fr) } := by
  simp only [World.setCell]
  congr 1
  apply Array.ext_getElem?
  intro i
  rw [Array.getElem?_modify, Array.getElem?_setIfInBounds]
  by_cases e : b = i
  · subst e
    have hlt := heap_lt h
    rw [if_pos rfl, h, if_pos rfl, if_pos hlt]
    rfl
  · rw [if_neg e, if_neg e]
theorem wr_one (cur : Array Value) (j : Nat) (u : Value) (h : j < cur.size) : cur.setIfInBounds j u = wr cur j [u] := by
  have := wr_cons cur j u [] (by simp; omega)
  rw [wr_nil] at this
  exact this
theorem St.poke {x : Cx} {L : List (Tmp × Bool × AV)} {M : List ME} {a : Act} {w : World} (hs : St x L M a w) {i b j : Nat} {T : TypeId} {cs : List AV} {u : Value} (hM : M[i]? = some (.box b T cs)) (hj : j < cs.length) (hu : shV u = 0) :
    St x L (M.set i (.box b T (splice cs j [.lit u]))) a (w.setCell ⟨b, j, none⟩ u) := by
  obtain ⟨cur, hc, hcs⟩ := box_at (N := []) hs.mem hM
  have hcl := hcs.length
  simp at hcl
  rw [setCell_eq hc, wr_one _ _ _ (by omega)]
  refine hs.write hM rfl rfl ?_
  intro w' hother hnew hk'
  refine ⟨_, hnew, (RepL.keep hk' _ _ hcs).splice ?_⟩
  simp only [RepL]
  exact ⟨_, _, rfl, ⟨hu, hu, by simp only [RepC]; cases u <;> simp_all [shV, Value.cells]⟩, rfl⟩
theorem St.start {P : Program} {w : World} {M : List ME} {F : List Nat} (hF : ∀ b ∈ F, b < w.heap.size) (hm : MOk w M F) : St ⟨P, 0, w, bl M, F⟩ [] M { tmps := #[], defers := [] } w :=
  ⟨rfl, rfl, fun t g av h => (by cases h), hm, Fr.refl _ _, hF⟩
theorem box_cell {w : World} {M : List ME} {F : List Nat} {b j : Nat} {T : TypeId} {cs : List AV} {u : Value} (hm : MOk w M F) (hM : ME.box b T cs ∈ M) (hj : cs[j]? = some (.lit u)) (hu : shV u = 0) : w.cell? ⟨b, j, none⟩ = some u ∧ w.frozen? ⟨b, j, none⟩ = false := by
  obtain ⟨cur, hc, hcs⟩ := hm.holds _ hM
  obtain ⟨v, hv, hr⟩ := RepL.get hcs hj
  have he : v = u := Rep.lit_iff.1 hr
  subst he
  refine ⟨?_, ?_⟩
  · rw [cell_of hc, ← Array.getElem?_toList]; exact hv
  · simp only [World.frozen?, hc]; simp
theorem rep_unit {w : World} {N : List Nat} {v : Value} (h : Rep w N (.tup []) v) : v = .tuple #[] := by
  obtain ⟨hs, hr⟩ := h
  simp only [RepC] at hr
  obtain ⟨us, he, hu⟩ := hr
  simp only [RepT] at hu
  have hus : us = #[] := by cases us; simpa using hu
  subst hus
  cases v with
  | tuple vs => exact List.singleton_inj.1 (show [Value.tuple vs] = [Value.tuple #[]] from he)
  | _ => cases hs
end Go.Vl
end

section
set_option linter.unusedVariables false
set_option linter.unusedSimpArgs false
namespace Go.Vl
open Go.RowKit (Below)
theorem Fr.of_below {w w' : World} (h : Below w.heap.size w w') : Fr w [] w' [] :=
  ⟨h.os, h.tape, h.output, h.size, fun k hk _ => ⟨h.block k hk, by simp⟩⟩
theorem FnP.of_below {P : Program} {f : FuncId} {args : List AV} {r : AV} (hc : CallOk P f)
    (h : ∀ (w : World) (F : List Nat) (vs : List Value), RepT w F args vs → Calls P f vs.toArray w fun e w' => ∃ v, e = .returned v ∧ Rep w' F r v ∧ Below w.heap.size w w') : FnP P f args r :=
  ⟨hc, fun w F vs hF hm ha => (h w F vs (by simpa [bl] using ha)).mono fun e w' ⟨v, he, hr, hb⟩ => ⟨v, r, [], he, ⟨rfl, rfl⟩, MOk.nil w' F, by simpa [bl] using hr, by simpa [bl] using Fr.of_below hb⟩⟩
theorem CallOk.of {P : Program} {f : FuncId} {fn : Func} (h1 : P.funcs[f]? = some fn) (h2 : (fn.name == "runtime.NumGoroutine") = false) (h3 : fn.body.isNone = false) : CallOk P f := ⟨fn, h1, h2, h3⟩
theorem RepE.strs {w : World} {N : List Nat} {l : List (List UInt8)} {row : List Value} (h : RepE w N 1 (l.map AV.str) row) (j : Nat) (x : List UInt8) (hj : l[j]? = some x) : row[j]? = some (.string ⟨x.toArray⟩) := by
  obtain ⟨h1, h2⟩ := RepE.get (i := j) (e := AV.str x) h (by rw [List.getElem?_map, hj]; rfl)
  simp only [RepC, Nat.mul_one] at h2
  have h3 : (List.take 1 (List.drop j row)) = [Value.string ⟨x.toArray⟩] := h2
  have : (List.take 1 (List.drop j row))[0]? = row[j]? := by simp [List.getElem?_take, List.getElem?_drop]
  rw [← this, h3]; rfl
end Go.Vl
end

section
set_option linter.unusedVariables false
set_option linter.unusedSimpArgs false
set_option maxRecDepth 100000
namespace Go.Proofs.YtohncieijjhnjaaDoor
open Go.Vl

namespace WDo

theorem c_Do {ι : Type} (b : Nat) (R0 : List AV) (R1 : ι → List AV) (Mz : ι → List ME) (hb : FnC Tryd.prog 37 [.lit (.pointer (some ⟨b, 0, none⟩))] [.box b 81 (.lit (.int .u32 0) :: .lit (.int .i32 1) :: .lit (.int .u32 0) :: R0)] (fun r M => r = .tup [] ∧ ∃ z, M = .box b 81 (.lit (.int .u32 0) :: .lit (.int .i32 1) :: .lit (.int .u32 0) :: R1 z) :: Mz z)) :
    FnC Tryd.prog 36 [.lit (.pointer (some ⟨b, 0, none⟩)), .lit (.func (.func 37) #[.pointer (some ⟨b, 0, none⟩)] #[])] [.box b 81 (.lit (.int .u32 0) :: .lit (.int .i32 0) :: .lit (.int .u32 0) :: R0)] (fun r M => r = .tup [] ∧ ∃ z, M = .box b 81 (.lit (.int .u32 1) :: .lit (.int .i32 0) :: .lit (.int .u32 0) :: R1 z) :: Mz z) := by
  refine ⟨CallOk.of Tryd.func36 (by kernel_rfl) (by kernel_rfl), fun w F vs hF hm ha => ?_⟩
  simp only [RepT] at ha
  obtain ⟨v0, _, rfl, h0, v1, _, rfl, h1, rfl⟩ := ha
  rw [show v0 = _ from Rep.lit_iff.1 (show Rep w _ (.lit _) v0 from h0), show v1 = _ from Rep.lit_iff.1 (show Rep w _ (.lit _) v1 from h1)]
  have s0 := St.start (P := Tryd.prog) hF hm
  have s1 : St _ _ [.box b 81 (.lit (.int .u32 0) :: .lit (.int .i32 1) :: .lit (.int .u32 0) :: R0)] _ _ := s0.poke (i := 0) (b := b) (j := 1) (u := .int .i32 1) rfl (by simp) rfl
  obtain ⟨c0, z0⟩ := box_cell (j := 0) hm List.mem_cons_self rfl rfl
  obtain ⟨c1, z1⟩ := box_cell (j := 1) hm List.mem_cons_self rfl rfl
  refine (WOnce.do_first b w (fun w2 => ∃ z, St ⟨Tryd.prog, 0, w, bl [.box b 81 (.lit (.int .u32 0) :: .lit (.int .i32 0) :: .lit (.int .u32 0) :: R0)], F⟩ [] (.box b 81 (.lit (.int .u32 0) :: .lit (.int .i32 1) :: .lit (.int .u32 0) :: R1 z) :: Mz z) { tmps := #[], defers := [] } w2) c0 c1 z0 z1 ((hb.2 _ F [.pointer (some ⟨b, 0, none⟩)] (fun k hk => Nat.lt_of_lt_of_le (hF k hk) s1.fr.size) s1.mem (RepT.lits [_])).mono ?_)).mono ?_
  · rintro e w' ⟨v, r, M', rfl, ⟨rfl, z, rfl⟩, hm', hr, hf⟩
    have s2 := s1.back (Mr := []) (List.Perm.of_eq (List.append_nil _).symm) (by simpa [bl] using hm') hf
    rw [List.append_nil] at s2
    obtain ⟨d0, y0⟩ := box_cell (j := 0) hm' List.mem_cons_self rfl rfl
    obtain ⟨d1, y1⟩ := box_cell (j := 1) hm' List.mem_cons_self rfl rfl
    have hv := rep_unit hr
    rw [hv]
    exact ⟨rfl, ⟨d0, d1, y0, y1⟩, z, s2⟩
  · rintro e w' ⟨rfl, w2, ⟨z, s2⟩, rfl⟩
    have s3 := s2.same (w' := w2.drew) rfl rfl rfl rfl
    have s4 : St _ _ (.box b 81 (.lit (.int .u32 1) :: .lit (.int .i32 1) :: .lit (.int .u32 0) :: R1 z) :: Mz z) _ _ := s3.poke (i := 0) (b := b) (j := 0) (u := .int .u32 1) rfl (by simp) rfl
    have s5 : St _ _ (.box b 81 (.lit (.int .u32 1) :: .lit (.int .i32 0) :: .lit (.int .u32 0) :: R1 z) :: Mz z) _ _ := s4.poke (i := 0) (b := b) (j := 1) (u := .int .i32 0) rfl (by simp) rfl
    refine ⟨_, .tup [], _, rfl, ⟨rfl, z, rfl⟩, s5.mem, ⟨rfl, ?_⟩, s5.fr⟩
    simp only [RepC, RepT]
    exact ⟨#[], rfl, rfl⟩

end WDo

end Go.Proofs.YtohncieijjhnjaaDoor
end

section
set_option linter.unusedVariables false
set_option linter.unusedSimpArgs false
set_option maxRecDepth 100000
namespace Go.Proofs.YtohncieijjhnjaaDoor
open Go.Vl

namespace WRepl
theorem ty9 : Ty Tryd.prog 9 1 16 (.string ⟨#[]⟩) := Ty.of (by kernel_rfl)
theorem ty27 : Ty Tryd.prog 27 1 24 (.slice none 0 0) := Ty.of (by kernel_rfl)
theorem ty77 : Ty Tryd.prog 77 3 12 (.agg #[.int .u32 0, .int .i32 0, .int .u32 0]) := Ty.of (by kernel_rfl)
theorem ty79 : Ty Tryd.prog 79 1 16 (.nilIface) := Ty.of (by kernel_rfl)
theorem ty81 : Ty Tryd.prog 81 5 56 (.agg #[.int .u32 0, .int .i32 0, .int .u32 0, .nilIface, .slice none 0 0]) := Ty.of (by kernel_rfl)
theorem ag27 : IsAgg Tryd.prog 27 false := ⟨_, Tryd.underlying27, rfl⟩
theorem ag79 : IsAgg Tryd.prog 79 false := ⟨_, Tryd.underlying79, rfl⟩
theorem fa81_1 : FieldAt Tryd.prog 81 1 3 1 false := ⟨_, _, Tryd.underlying81, rfl, rfl, ty79.size, ag79, by decide⟩
theorem fa81_2 : FieldAt Tryd.prog 81 2 4 1 false := ⟨_, _, Tryd.underlying81, rfl, rfl, ty27.size, ag27, by decide⟩
theorem st81 : StructAt Tryd.prog 81 [(0, 3), (3, 1), (4, 1)] := ⟨_, Tryd.underlying81, rfl, ty77.size, rfl, ty79.size, rfl, ty27.size, trivial⟩
theorem ni27 : NotInt Tryd.prog 27 := .inl ⟨_, Tryd.underlying27⟩
theorem c_buildOnce (b : Nat) : FnC Tryd.prog 37 [.lit (.pointer (some ⟨b, 0, none⟩))] [.box b 81 [.lit (.int .u32 0), .lit (.int .i32 1), .lit (.int .u32 0), .lit .nilIface, .sl 1 (Url.six.map AV.str)]] (fun r M => r = .tup [] ∧ ∃ z : Nat × (Nat → Nat × Nat), M = .box b 81 (.lit (.int .u32 0) :: .lit (.int .i32 1) :: .lit (.int .u32 0) :: [.lit (.iface 116 (.pointer (some ⟨z.1, 0, none⟩))), .lit (.slice none 0 0)]) :: [.box z.1 115 (Url.rowF (Url.Fz 3 z.2) (.sl 1 (Url.tlr.map AV.str)))]) :=  by
  refine FnC.mk Tryd.func37 (by kernel_rfl) rfl Tryd.ntmps37 rfl (fun w0 F => ?_)
  refine W.seq ?_
  refine W.region ?_
  refine W.q (Ev.move (.t rfl)) rfl ?_
  refine W.q (Ev.move (.t rfl)) rfl ?_
  refine W.call (WBuild.c_build b) ⟨(.t rfl), trivial⟩ (.refl _) rfl ?_
  rintro _ _ ⟨b11, z, rfl, rfl⟩
  refine W.q (Ev.nilc (.t rfl)) rfl ?_
  first | refine W.q (Ev.fae (.t rfl) fa81_1 rfl) rfl ?_ | refine W.q (Ev.fab (.t rfl) fa81_1) rfl ?_ | refine W.q (Ev.faa (.t rfl) fa81_1) rfl ?_
  first | refine W.stb 0 (.t rfl) (.t rfl) rfl ty79 rfl rfl rfl ?_ | refine W.stb 1 (.t rfl) (.t rfl) rfl ty79 rfl rfl rfl ?_ | refine W.stb 2 (.t rfl) (.t rfl) rfl ty79 rfl rfl rfl ?_
  refine W.nil ?_
  refine W.then ?_
  refine W.region ?_
  refine W.q (Ev.move (.t rfl)) rfl ?_
  refine W.q (Ev.nilc (.t rfl)) rfl ?_
  first | refine W.q (Ev.fae (.t rfl) fa81_2 rfl) rfl ?_ | refine W.q (Ev.fab (.t rfl) fa81_2) rfl ?_ | refine W.q (Ev.faa (.t rfl) fa81_2) rfl ?_
  first | refine W.stb 0 (.t rfl) .k rfl ty27 rfl rfl rfl ?_ | refine W.stb 1 (.t rfl) .k rfl ty27 rfl rfl rfl ?_ | refine W.stb 2 (.t rfl) .k rfl ty27 rfl rfl rfl ?_
  refine W.nil ?_
  refine W.endn (M' := [.box b 81 [.lit (.int .u32 0), .lit (.int .i32 1), .lit (.int .u32 0), .lit (.iface 116 (.pointer (some ⟨(b11, z).1, 0, none⟩))), .lit (.slice none 0 0)], .box b11 115 (Url.rowF (Url.Fz 3 z) (.sl 1 (Url.tlr.map AV.str)))]) (D := []) (rs := []) (avs := []) Tryd.results37 trivial rfl (.refl _) ?_
  exact ⟨rfl, (b11, z), rfl⟩

theorem c_NewReplacer : FnC Tryd.prog 17 [.sl 1 (Url.six.map AV.str)] [] (fun r M => ∃ b, r = .lit (.pointer (some ⟨b, 0, none⟩)) ∧ M = [.box b 81 [.lit (.int .u32 0), .lit (.int .i32 0), .lit (.int .u32 0), .lit .nilIface, .sl 1 (Url.six.map AV.str)]]) :=  by
  refine FnC.mk Tryd.func17 (by kernel_rfl) rfl Tryd.ntmps17 rfl (fun w0 F => ?_)
  refine W.seq ?_
  refine W.region ?_
  refine W.q (Ev.assign .k) rfl ?_
  refine W.nil ?_
  refine W.then ?_
  refine W.seq ?_
  refine W.seq ?_
  refine W.region ?_
  refine W.q (Ev.move (.t rfl)) rfl ?_
  first | refine W.q (Ev.lensl (.t rfl) Tryd.underlying27) rfl ?_ | refine W.q (Ev.lenar (i := 0) (.t rfl) rfl Tryd.underlying27) rfl ?_ | refine W.q (Ev.lenar (i := 1) (.t rfl) rfl Tryd.underlying27) rfl ?_ | refine W.q (Ev.lenar (i := 2) (.t rfl) rfl Tryd.underlying27) rfl ?_ | refine W.q (Ev.lenar (i := 3) (.t rfl) rfl Tryd.underlying27) rfl ?_
  first | refine W.q (Ev.rem (.t rfl) .k (fun _ => by decide)) rfl ?_ | refine W.q (Ev.rem (.t rfl) .k (fun _ => by omega)) rfl ?_
  refine W.q (Ev.eqi (.t rfl) .k) rfl ?_
  refine W.nil ?_
  refine W.then ?_
  refine W.is (t := 6) (g := true) (av' := .lit (.bool false)) rfl (congrArg (fun b => AV.lit (.bool b)) (by decide)) ?_
  refine W.condF (.t rfl) ?_
  refine W.skip ?_
  refine W.then ?_
  refine W.seq ?_
  refine W.region ?_
  refine W.q (Ev.move (.t rfl)) rfl ?_
  first | refine W.appn .k (.sl (.t rfl) (okc_strs Url.six)) Tryd.underlying27 ni27 ty9 rfl rfl (by decide) rfl ?_ | refine W.appn .k (.arr 0 (.t rfl) rfl (okc_strs Url.six)) Tryd.underlying27 ni27 ty9 rfl rfl (by decide) rfl ?_ | refine W.appn .k (.arr 1 (.t rfl) rfl (okc_strs Url.six)) Tryd.underlying27 ni27 ty9 rfl rfl (by decide) rfl ?_ | refine W.appn .k (.arr 2 (.t rfl) rfl (okc_strs Url.six)) Tryd.underlying27 ni27 ty9 rfl rfl (by decide) rfl ?_ | refine W.appn .k (.arr 3 (.t rfl) rfl (okc_strs Url.six)) Tryd.underlying27 ni27 ty9 rfl rfl (by decide) rfl ?_
  intro v9
  refine W.freezeA (M1 := []) (M2 := []) (D := []) (v := v9) (L' := [(9, true, .sl 1 (Url.six.map AV.str))]) (.refl _) ⟨⟨_, rfl, .one .hit⟩, trivial⟩ (FrzMs.refl _) ?_
  refine W.q (Ev.build ty81 st81 rfl (fun hg => ⟨_, _, _, rfl, (.t rfl), rfl, rfl, rfl, rfl⟩)) rfl ?_
  refine W.box (.t rfl) rfl rfl ?_
  intro b11
  refine W.q (Ev.assign (.t rfl)) rfl ?_
  refine W.nil ?_
  refine W.then ?_
  refine W.ret ?_
  refine W.retn (M' := [.box b11 81 [.lit (.int .u32 0), .lit (.int .i32 0), .lit (.int .u32 0), .lit .nilIface, .sl 1 (Url.six.map AV.str)]]) (D := []) (rs := [.tmp 2]) (avs := [_]) Tryd.results17 ⟨rfl, trivial⟩ rfl (.refl _) ?_
  exact ⟨b11, rfl, rfl⟩

theorem c_Count (s : List UInt8) (c : UInt8) : FnP Tryd.prog 152 [.str s, .str [c]] (.int (s.count c : Int)) :=  by
  refine FnC.mk Tryd.func152 (by kernel_rfl) rfl Tryd.ntmps152 rfl (fun w0 F => ?_)
  refine W.seq ?_
  refine W.region ?_
  refine W.q (Ev.assign .k) rfl ?_
  refine W.nil ?_
  refine W.then ?_
  refine W.seq ?_
  refine W.seq ?_
  refine W.region ?_
  refine W.q (Ev.move (.t rfl)) rfl ?_
  refine W.q (Ev.lens (.t rfl) Tryd.underlying9) rfl ?_
  refine W.q (Ev.eqi (.t rfl) .k) rfl ?_
  refine W.nil ?_
  refine W.then ?_
  refine W.is (t := 9) (g := true) (av' := .lit (.bool false)) rfl (congrArg (fun b => AV.lit (.bool b)) (by rfl)) ?_
  refine W.condF (.t rfl) ?_
  refine W.skip ?_
  refine W.then ?_
  refine W.seq ?_
  refine W.seq ?_
  refine W.region ?_
  refine W.q (Ev.move (.t rfl)) rfl ?_
  refine W.q (Ev.lens (.t rfl) Tryd.underlying9) rfl ?_
  refine W.q (Ev.eqi (.t rfl) .k) rfl ?_
  refine W.nil ?_
  refine W.then ?_
  refine W.is (t := 15) (g := true) (av' := .lit (.bool true)) rfl (congrArg (fun b => AV.lit (.bool b)) (by rfl)) ?_
  refine W.condT (.t rfl) ?_
  refine W.seq ?_
  refine W.region ?_
  refine W.q (Ev.move (.t rfl)) rfl ?_
  refine W.q (Ev.move (.t rfl)) rfl ?_
  refine W.q (Ev.ats' (.t rfl) .k Tryd.underlying9 (fun hg => by simp)) rfl ?_
  refine W.is (t := 18) (g := true) (av' := AV.u8 c) rfl rfl ?_
  refine W.q (Ev.cnt (fn := Tryd.f154) Tryd.func154 rfl rfl rfl rfl (.t rfl) (.t rfl)) rfl ?_
  refine W.q (Ev.assign (.t rfl)) rfl ?_
  refine W.nil ?_
  refine W.then ?_
  refine W.ret ?_
  refine W.then_ret ?_
  refine W.retn (M' := []) (rs := [.tmp 4]) (avs := [_]) Tryd.results152 ⟨rfl, trivial⟩ rfl (.refl _) ?_
  exact ⟨rfl, rfl⟩

end WRepl

end Go.Proofs.YtohncieijjhnjaaDoor
end
