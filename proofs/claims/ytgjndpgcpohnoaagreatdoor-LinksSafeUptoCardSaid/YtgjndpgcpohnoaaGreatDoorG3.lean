/-
  Merged: WBuild WOnce Poke ShelfB WDo WRepl WRepB Low Shelf WStrip WSmall WScheme WLib WSafe WLinked WLSafe.
-/
import Derived.Test.YtgjndpgcpohnoaaGreatDoorG2
import Derived.Test.YtgjndpgcpohnoaaGreatDoorChecked
import Derived.Below
import Derived.Lib.Join
import Derived.Shelf.Strings.Trim
import Derived.Shelf.Small.Utf8
import Derived.Shelf.Small.Strs
import Derived.Shelf.Strings.Search1
import Derived.Shelf.Strings.Search2
import Derived.Shelf.Strings.Search3
import Derived.Shelf.Strings.Count
import Derived.Shelf.LaysM
import Derived.Shelf.Strings.Shaped
import Derived.Shelf.Strings.Runes
import Derived.Shelf.Strings.AsciiSet
import Derived.Shelf.Unicode.DecodeSlow
import Derived.Test.YtgjndpgcpohnoaaGreatDoorProg
import Derived.Shelf.Strings.SlTrimAscii

section
set_option linter.unusedVariables false
set_option linter.unusedSimpArgs false
set_option maxRecDepth 100000
namespace Go.Proofs.YtgjndpgcpohnoaaGreatDoor
open Go.Vl

namespace WBuild
theorem ty5 : Ty Tryz.prog 5 1 1 (.int .u8 0) := Ty.of (by kernel_rfl)
theorem ty9 : Ty Tryz.prog 9 1 16 (.string ⟨#[]⟩) := Ty.of (by kernel_rfl)
theorem ty23 : Ty Tryz.prog 23 1 24 (.slice none 0 0) := Ty.of (by kernel_rfl)
theorem ty61 : Ty Tryz.prog 61 1 24 (.slice none 0 0) := Ty.of (by kernel_rfl)
theorem ty104 : Ty Tryz.prog 104 256 6144 (.agg #[.slice none 0 0, .slice none 0 0, .slice none 0 0, .slice none 0 0, .slice none 0 0, .slice none 0 0, .slice none 0 0, .slice none 0 0, .slice none 0 0, .slice none 0 0, .slice none 0 0, .slice none 0 0, .slice none 0 0, .slice none 0 0, .slice none 0 0, .slice none 0 0, .slice none 0 0, .slice none 0 0, .slice none 0 0, .slice none 0 0, .slice none 0 0, .slice none 0 0, .slice none 0 0, .slice none 0 0, .slice none 0 0, .slice none 0 0, .slice none 0 0, .slice none 0 0, .slice none 0 0, .slice none 0 0, .slice none 0 0, .slice none 0 0, .slice none 0 0, .slice none 0 0, .slice none 0 0, .slice none 0 0, .slice none 0 0, .slice none 0 0, .slice none 0 0, .slice none 0 0, .slice none 0 0, .slice none 0 0, .slice none 0 0, .slice none 0 0, .slice none 0 0, .slice none 0 0, .slice none 0 0, .slice none 0 0, .slice none 0 0, .slice none 0 0, .slice none 0 0, .slice none 0 0, .slice none 0 0, .slice none 0 0, .slice none 0 0, .slice none 0 0, .slice none 0 0, .slice none 0 0, .slice none 0 0, .slice none 0 0, .slice none 0 0, .slice none 0 0, .slice none 0 0, .slice none 0 0, .slice none 0 0, .slice none 0 0, .slice none 0 0, .slice none 0 0, .slice none 0 0, .slice none 0 0, .slice none 0 0, .slice none 0 0, .slice none 0 0, .slice none 0 0, .slice none 0 0, .slice none 0 0, .slice none 0 0, .slice none 0 0, .slice none 0 0, .slice none 0 0, .slice none 0 0, .slice none 0 0, .slice none 0 0, .slice none 0 0, .slice none 0 0, .slice none 0 0, .slice none 0 0, .slice none 0 0, .slice none 0 0, .slice none 0 0, .slice none 0 0, .slice none 0 0, .slice none 0 0, .slice none 0 0, .slice none 0 0, .slice none 0 0, .slice none 0 0, .slice none 0 0, .slice none 0 0, .slice none 0 0, .slice none 0 0, .slice none 0 0, .slice none 0 0, .slice none 0 0, .slice none 0 0, .slice none 0 0, .slice none 0 0, .slice none 0 0, .slice none 0 0, .slice none 0 0, .slice none 0 0, .slice none 0 0, .slice none 0 0, .slice none 0 0, .slice none 0 0, .slice none 0 0, .slice none 0 0, .slice none 0 0, .slice none 0 0, .slice none 0 0, .slice none 0 0, .slice none 0 0, .slice none 0 0, .slice none 0 0, .slice none 0 0, .slice none 0 0, .slice none 0 0, .slice none 0 0, .slice none 0 0, .slice none 0 0, .slice none 0 0, .slice none 0 0, .slice none 0 0, .slice none 0 0, .slice none 0 0, .slice none 0 0, .slice none 0 0, .slice none 0 0, .slice none 0 0, .slice none 0 0, .slice none 0 0, .slice none 0 0, .slice none 0 0, .slice none 0 0, .slice none 0 0, .slice none 0 0, .slice none 0 0, .slice none 0 0, .slice none 0 0, .slice none 0 0, .slice none 0 0, .slice none 0 0, .slice none 0 0, .slice none 0 0, .slice none 0 0, .slice none 0 0, .slice none 0 0, .slice none 0 0, .slice none 0 0, .slice none 0 0, .slice none 0 0, .slice none 0 0, .slice none 0 0, .slice none 0 0, .slice none 0 0, .slice none 0 0, .slice none 0 0, .slice none 0 0, .slice none 0 0, .slice none 0 0, .slice none 0 0, .slice none 0 0, .slice none 0 0, .slice none 0 0, .slice none 0 0, .slice none 0 0, .slice none 0 0, .slice none 0 0, .slice none 0 0, .slice none 0 0, .slice none 0 0, .slice none 0 0, .slice none 0 0, .slice none 0 0, .slice none 0 0, .slice none 0 0, .slice none 0 0, .slice none 0 0, .slice none 0 0, .slice none 0 0, .slice none 0 0, .slice none 0 0, .slice none 0 0, .slice none 0 0, .slice none 0 0, .slice none 0 0, .slice none 0 0, .slice none 0 0, .slice none 0 0, .slice none 0 0, .slice none 0 0, .slice none 0 0, .slice none 0 0, .slice none 0 0, .slice none 0 0, .slice none 0 0, .slice none 0 0, .slice none 0 0, .slice none 0 0, .slice none 0 0, .slice none 0 0, .slice none 0 0, .slice none 0 0, .slice none 0 0, .slice none 0 0, .slice none 0 0, .slice none 0 0, .slice none 0 0, .slice none 0 0, .slice none 0 0, .slice none 0 0, .slice none 0 0, .slice none 0 0, .slice none 0 0, .slice none 0 0, .slice none 0 0, .slice none 0 0, .slice none 0 0, .slice none 0 0, .slice none 0 0, .slice none 0 0, .slice none 0 0, .slice none 0 0, .slice none 0 0, .slice none 0 0, .slice none 0 0, .slice none 0 0, .slice none 0 0, .slice none 0 0, .slice none 0 0, .slice none 0 0, .slice none 0 0, .slice none 0 0, .slice none 0 0, .slice none 0 0, .slice none 0 0, .slice none 0 0, .slice none 0 0, .slice none 0 0, .slice none 0 0, .slice none 0 0, .slice none 0 0, .slice none 0 0, .slice none 0 0, .slice none 0 0, .slice none 0 0]) := Ty.of (by kernel_rfl)
theorem ty106 : Ty Tryz.prog 106 257 6168 (.agg #[.slice none 0 0, .slice none 0 0, .slice none 0 0, .slice none 0 0, .slice none 0 0, .slice none 0 0, .slice none 0 0, .slice none 0 0, .slice none 0 0, .slice none 0 0, .slice none 0 0, .slice none 0 0, .slice none 0 0, .slice none 0 0, .slice none 0 0, .slice none 0 0, .slice none 0 0, .slice none 0 0, .slice none 0 0, .slice none 0 0, .slice none 0 0, .slice none 0 0, .slice none 0 0, .slice none 0 0, .slice none 0 0, .slice none 0 0, .slice none 0 0, .slice none 0 0, .slice none 0 0, .slice none 0 0, .slice none 0 0, .slice none 0 0, .slice none 0 0, .slice none 0 0, .slice none 0 0, .slice none 0 0, .slice none 0 0, .slice none 0 0, .slice none 0 0, .slice none 0 0, .slice none 0 0, .slice none 0 0, .slice none 0 0, .slice none 0 0, .slice none 0 0, .slice none 0 0, .slice none 0 0, .slice none 0 0, .slice none 0 0, .slice none 0 0, .slice none 0 0, .slice none 0 0, .slice none 0 0, .slice none 0 0, .slice none 0 0, .slice none 0 0, .slice none 0 0, .slice none 0 0, .slice none 0 0, .slice none 0 0, .slice none 0 0, .slice none 0 0, .slice none 0 0, .slice none 0 0, .slice none 0 0, .slice none 0 0, .slice none 0 0, .slice none 0 0, .slice none 0 0, .slice none 0 0, .slice none 0 0, .slice none 0 0, .slice none 0 0, .slice none 0 0, .slice none 0 0, .slice none 0 0, .slice none 0 0, .slice none 0 0, .slice none 0 0, .slice none 0 0, .slice none 0 0, .slice none 0 0, .slice none 0 0, .slice none 0 0, .slice none 0 0, .slice none 0 0, .slice none 0 0, .slice none 0 0, .slice none 0 0, .slice none 0 0, .slice none 0 0, .slice none 0 0, .slice none 0 0, .slice none 0 0, .slice none 0 0, .slice none 0 0, .slice none 0 0, .slice none 0 0, .slice none 0 0, .slice none 0 0, .slice none 0 0, .slice none 0 0, .slice none 0 0, .slice none 0 0, .slice none 0 0, .slice none 0 0, .slice none 0 0, .slice none 0 0, .slice none 0 0, .slice none 0 0, .slice none 0 0, .slice none 0 0, .slice none 0 0, .slice none 0 0, .slice none 0 0, .slice none 0 0, .slice none 0 0, .slice none 0 0, .slice none 0 0, .slice none 0 0, .slice none 0 0, .slice none 0 0, .slice none 0 0, .slice none 0 0, .slice none 0 0, .slice none 0 0, .slice none 0 0, .slice none 0 0, .slice none 0 0, .slice none 0 0, .slice none 0 0, .slice none 0 0, .slice none 0 0, .slice none 0 0, .slice none 0 0, .slice none 0 0, .slice none 0 0, .slice none 0 0, .slice none 0 0, .slice none 0 0, .slice none 0 0, .slice none 0 0, .slice none 0 0, .slice none 0 0, .slice none 0 0, .slice none 0 0, .slice none 0 0, .slice none 0 0, .slice none 0 0, .slice none 0 0, .slice none 0 0, .slice none 0 0, .slice none 0 0, .slice none 0 0, .slice none 0 0, .slice none 0 0, .slice none 0 0, .slice none 0 0, .slice none 0 0, .slice none 0 0, .slice none 0 0, .slice none 0 0, .slice none 0 0, .slice none 0 0, .slice none 0 0, .slice none 0 0, .slice none 0 0, .slice none 0 0, .slice none 0 0, .slice none 0 0, .slice none 0 0, .slice none 0 0, .slice none 0 0, .slice none 0 0, .slice none 0 0, .slice none 0 0, .slice none 0 0, .slice none 0 0, .slice none 0 0, .slice none 0 0, .slice none 0 0, .slice none 0 0, .slice none 0 0, .slice none 0 0, .slice none 0 0, .slice none 0 0, .slice none 0 0, .slice none 0 0, .slice none 0 0, .slice none 0 0, .slice none 0 0, .slice none 0 0, .slice none 0 0, .slice none 0 0, .slice none 0 0, .slice none 0 0, .slice none 0 0, .slice none 0 0, .slice none 0 0, .slice none 0 0, .slice none 0 0, .slice none 0 0, .slice none 0 0, .slice none 0 0, .slice none 0 0, .slice none 0 0, .slice none 0 0, .slice none 0 0, .slice none 0 0, .slice none 0 0, .slice none 0 0, .slice none 0 0, .slice none 0 0, .slice none 0 0, .slice none 0 0, .slice none 0 0, .slice none 0 0, .slice none 0 0, .slice none 0 0, .slice none 0 0, .slice none 0 0, .slice none 0 0, .slice none 0 0, .slice none 0 0, .slice none 0 0, .slice none 0 0, .slice none 0 0, .slice none 0 0, .slice none 0 0, .slice none 0 0, .slice none 0 0, .slice none 0 0, .slice none 0 0, .slice none 0 0, .slice none 0 0, .slice none 0 0, .slice none 0 0, .slice none 0 0, .slice none 0 0, .slice none 0 0, .slice none 0 0, .slice none 0 0, .slice none 0 0, .slice none 0 0, .slice none 0 0, .slice none 0 0, .slice none 0 0, .slice none 0 0, .slice none 0 0, .slice none 0 0, .slice none 0 0, .slice none 0 0, .slice none 0 0, .slice none 0 0, .slice none 0 0, .slice none 0 0, .slice none 0 0]) := Ty.of (by kernel_rfl)
theorem ag9 : IsAgg Tryz.prog 9 false := ⟨_, Tryz.underlying9, rfl⟩
theorem ag23 : IsAgg Tryz.prog 23 false := ⟨_, Tryz.underlying23, rfl⟩
theorem ag61 : IsAgg Tryz.prog 61 false := ⟨_, Tryz.underlying61, rfl⟩
theorem ag104 : IsAgg Tryz.prog 104 true := ⟨_, Tryz.underlying104, rfl⟩
theorem fa84_2 : FieldAt Tryz.prog 84 2 4 1 false := ⟨_, _, Tryz.underlying84, rfl, rfl, ty23.size, ag23, by decide⟩
theorem fa106_0 : FieldAt Tryz.prog 106 0 0 256 true := ⟨_, _, Tryz.underlying106, rfl, rfl, ty104.size, ag104, by decide⟩
theorem fa106_1 : FieldAt Tryz.prog 106 1 256 1 false := ⟨_, _, Tryz.underlying106, rfl, rfl, ty23.size, ag23, by decide⟩
theorem st106 : StructAt Tryz.prog 106 [(0, 256), (256, 1)] := ⟨_, Tryz.underlying106, rfl, ty104.size, rfl, ty23.size, trivial⟩
theorem ni23 : NotInt Tryz.prog 23 := .inl ⟨_, Tryz.underlying23⟩
theorem c_build (b : Nat) : FnC Tryz.prog 44 [.lit (.pointer (some ⟨b, 0, none⟩))] [.box b 84 [.lit (.int .u32 0), .lit (.int .i32 1), .lit (.int .u32 0), .lit .nilIface, .sl 1 (Url.six.map AV.str)]] (fun r M => ∃ (b11 : Nat) (z : Nat → Nat × Nat), r = .lit (.iface 107 (.pointer (some ⟨b11, 0, none⟩))) ∧ M = [.box b 84 [.lit (.int .u32 0), .lit (.int .i32 1), .lit (.int .u32 0), .lit .nilIface, .sl 1 (Url.six.map AV.str)], .box b11 106 (Url.rowF (Url.Fz 3 z) (.sl 1 (Url.tlr.map AV.str)))]) :=  by
  refine FnC.mk Tryz.func44 (by kernel_rfl) rfl Tryz.ntmps44 rfl (fun w0 F => ?_)
  refine W.seq ?_
  refine W.region ?_
  refine W.q (Ev.assign .k) rfl ?_
  refine W.nil ?_
  refine W.then ?_
  refine W.seq ?_
  refine W.region ?_
  refine W.q (Ev.move (.t rfl)) rfl ?_
  refine W.q (Ev.nilc (.t rfl)) rfl ?_
  first | refine W.q (Ev.fae (.t rfl) fa84_2 rfl) rfl ?_ | refine W.q (Ev.fab (.t rfl) fa84_2) rfl ?_ | refine W.q (Ev.faa (.t rfl) fa84_2) rfl ?_
  first | refine W.q (Ev.lde1 (.t rfl) ag23) rfl ?_ | refine W.q (Ev.ldb1 0 (.t rfl) rfl ag23 rfl) rfl ?_ | refine W.q (Ev.ldb1 1 (.t rfl) rfl ag23 rfl) rfl ?_ | refine W.q (Ev.ldb1 2 (.t rfl) rfl ag23 rfl) rfl ?_ | refine W.q (Ev.ldb1 3 (.t rfl) rfl ag23 rfl) rfl ?_ | refine W.q (Ev.ldb1 4 (.t rfl) rfl ag23 rfl) rfl ?_
  refine W.q (Ev.assign (.t rfl)) rfl ?_
  refine W.nil ?_
  refine W.then ?_
  refine W.seq ?_
  refine W.seq ?_
  refine W.region ?_
  refine W.q (Ev.move (.t rfl)) rfl ?_
  first | refine W.q (Ev.lensl (.t rfl) Tryz.underlying23) rfl ?_ | refine W.q (Ev.lenar (i := 0) (.t rfl) rfl Tryz.underlying23) rfl ?_ | refine W.q (Ev.lenar (i := 1) (.t rfl) rfl Tryz.underlying23) rfl ?_ | refine W.q (Ev.lenar (i := 2) (.t rfl) rfl Tryz.underlying23) rfl ?_ | refine W.q (Ev.lenar (i := 3) (.t rfl) rfl Tryz.underlying23) rfl ?_ | refine W.q (Ev.lenar (i := 4) (.t rfl) rfl Tryz.underlying23) rfl ?_
  refine W.q (Ev.eqi (.t rfl) .k) rfl ?_
  refine W.q (Ev.move (.t rfl)) rfl ?_
  refine W.qgT rfl rfl (Ev.move (.t rfl)) rfl ?_
  refine W.qgT rfl rfl (Ev.at (E := 9) (e := AV.str [9]) (.c rfl) .k Tryz.underlying23 ty9 (fun _ => ⟨by decide, rfl⟩) rfl rfl) rfl ?_
  first | refine W.qgT rfl rfl (Ev.lde1 (.c rfl) ag9) rfl ?_ | refine W.qgT rfl rfl (Ev.ldb1 0 (.c rfl) rfl ag9 rfl) rfl ?_ | refine W.qgT rfl rfl (Ev.ldb1 1 (.c rfl) rfl ag9 rfl) rfl ?_ | refine W.qgT rfl rfl (Ev.ldb1 2 (.c rfl) rfl ag9 rfl) rfl ?_ | refine W.qgT rfl rfl (Ev.ldb1 3 (.c rfl) rfl ag9 rfl) rfl ?_ | refine W.qgT rfl rfl (Ev.ldb1 4 (.c rfl) rfl ag9 rfl) rfl ?_
  refine W.qgT rfl rfl (Ev.lens (.c rfl) Tryz.underlying9) rfl ?_
  refine W.qgT rfl rfl (Ev.gti (.c rfl) .k) rfl ?_
  refine W.q (Ev.and (.t rfl) ⟨_, _, rfl, rfl, by first | (simp; done) | (intro hg_ hp_; simp [hp_]; done) | (simp <;> omega; done) | (simp_all; done) | grind⟩) rfl ?_
  refine W.nil ?_
  refine W.then ?_
  refine W.is (t := 28) (g := true) (av' := .lit (.bool false)) rfl (congrArg (fun b => AV.lit (.bool b)) (by rfl)) ?_
  refine W.condF (.t rfl) ?_
  refine W.skip ?_
  refine W.then ?_
  refine W.seq ?_
  refine W.region ?_
  refine W.q (Ev.assign .k) rfl ?_
  refine W.nil ?_
  refine W.then ?_
  refine W.seq ?_
  refine W.seq ?_
  refine W.region ?_
  refine W.q (Ev.assign .k) rfl ?_
  refine W.nil ?_
  refine W.then ?_
  refine W.block ?_
  refine W.loop (D := []) (ι := Nat) (fun k => [(5, true, .int ((2 * k : Nat) : Int)), (4, true, .bool (decide (k = 0))), (3, true, .sl 1 (Url.six.map AV.str))]) (fun _ => [.box b 84 [.lit (.int .u32 0), .lit (.int .i32 1), .lit (.int .u32 0), .lit .nilIface, .sl 1 (Url.six.map AV.str)]]) (fun k => k ≤ 3) (fun k => 3 - k) 0 ⟨rfl, rfl, rfl, trivial⟩ (.refl _) (by decide) ?_
  intro k hk
  dsimp only at hk ⊢
  rcases (show k = 0 ∨ k = 1 ∨ k = 2 ∨ k = 3 from by omega) with rfl | rfl | rfl | rfl
  · skip
    refine W.seq ?_
    refine W.seq ?_
    refine W.region ?_
    refine W.q (Ev.move (.t rfl)) rfl ?_
    refine W.q (Ev.move (.t rfl)) rfl ?_
    first | refine W.q (Ev.lensl (.t rfl) Tryz.underlying23) rfl ?_ | refine W.q (Ev.lenar (i := 0) (.t rfl) rfl Tryz.underlying23) rfl ?_ | refine W.q (Ev.lenar (i := 1) (.t rfl) rfl Tryz.underlying23) rfl ?_ | refine W.q (Ev.lenar (i := 2) (.t rfl) rfl Tryz.underlying23) rfl ?_ | refine W.q (Ev.lenar (i := 3) (.t rfl) rfl Tryz.underlying23) rfl ?_ | refine W.q (Ev.lenar (i := 4) (.t rfl) rfl Tryz.underlying23) rfl ?_
    refine W.q (Ev.lti (.t rfl) (.t rfl)) rfl ?_
    refine W.nil ?_
    refine W.then ?_
    refine W.is (t := 40) (g := true) (av' := .lit (.bool true)) rfl (congrArg (fun b => AV.lit (.bool b)) (by decide)) ?_
    refine W.condT (.t rfl) ?_
    refine W.skip ?_
    refine W.then ?_
    refine W.seq ?_
    refine W.block ?_
    refine W.seq ?_
    refine W.seq ?_
    refine W.region ?_
    refine W.q (Ev.move (.t rfl)) rfl ?_
    refine W.q (Ev.move (.t rfl)) rfl ?_
    refine W.q (Ev.at (E := 9) (e := AV.str [9]) (.t rfl) (.t rfl) Tryz.underlying23 ty9 (fun _ => ⟨by decide, rfl⟩) rfl rfl) rfl ?_
    first | refine W.q (Ev.lde1 (.t rfl) ag9) rfl ?_ | refine W.q (Ev.ldb1 0 (.t rfl) rfl ag9 rfl) rfl ?_ | refine W.q (Ev.ldb1 1 (.t rfl) rfl ag9 rfl) rfl ?_ | refine W.q (Ev.ldb1 2 (.t rfl) rfl ag9 rfl) rfl ?_ | refine W.q (Ev.ldb1 3 (.t rfl) rfl ag9 rfl) rfl ?_ | refine W.q (Ev.ldb1 4 (.t rfl) rfl ag9 rfl) rfl ?_
    refine W.q (Ev.lens (.t rfl) Tryz.underlying9) rfl ?_
    refine W.q (Ev.nei (.t rfl) .k) rfl ?_
    refine W.nil ?_
    refine W.then ?_
    refine W.is (t := 48) (g := true) (av' := .lit (.bool false)) rfl (congrArg (fun b => AV.lit (.bool b)) (by rfl)) ?_
    refine W.condF (.t rfl) ?_
    refine W.skip ?_
    refine W.then ?_
    refine W.seq ?_
    refine W.region ?_
    refine W.q (Ev.move (.t rfl)) rfl ?_
    refine W.q (Ev.move (.t rfl)) rfl ?_
    first | refine W.q (Ev.add (.t rfl) .k (fun _ => by omega)) rfl ?_ | refine W.q (Ev.addw (.t rfl) .k) rfl ?_
    refine W.q (Ev.at (E := 9) (e := AV.str []) (.t rfl) (.t rfl) Tryz.underlying23 ty9 (fun _ => ⟨by decide, rfl⟩) rfl rfl) rfl ?_
    first | refine W.q (Ev.lde1 (.t rfl) ag9) rfl ?_ | refine W.q (Ev.ldb1 0 (.t rfl) rfl ag9 rfl) rfl ?_ | refine W.q (Ev.ldb1 1 (.t rfl) rfl ag9 rfl) rfl ?_ | refine W.q (Ev.ldb1 2 (.t rfl) rfl ag9 rfl) rfl ?_ | refine W.q (Ev.ldb1 3 (.t rfl) rfl ag9 rfl) rfl ?_ | refine W.q (Ev.ldb1 4 (.t rfl) rfl ag9 rfl) rfl ?_
    refine W.q (Ev.lens (.t rfl) Tryz.underlying9) rfl ?_
    refine W.q (Ev.nei (.t rfl) .k) rfl ?_
    refine W.nil ?_
    refine W.then ?_
    refine W.is (t := 58) (g := true) (av' := .lit (.bool true)) rfl (congrArg (fun b => AV.lit (.bool b)) (by rfl)) ?_
    refine W.condT (.t rfl) ?_
    refine W.region ?_
    refine W.q (Ev.assign .k) rfl ?_
    refine W.nil ?_
    refine W.blk_normal ?_
    refine W.then ?_
    refine W.region ?_
    refine W.q (Ev.move (.t rfl)) rfl ?_
    first | refine W.q (Ev.add (.t rfl) .k (fun _ => by omega)) rfl ?_ | refine W.q (Ev.addw (.t rfl) .k) rfl ?_
    refine W.q (Ev.assign (.t rfl)) rfl ?_
    refine W.nil ?_
    refine W.then ?_
    refine W.reach (D := []) 1 ⟨rfl, rfl, rfl, trivial⟩ (.refl _) ⟨by decide, by decide⟩
  · skip
    refine W.seq ?_
    refine W.seq ?_
    refine W.region ?_
    refine W.q (Ev.move (.t rfl)) rfl ?_
    refine W.q (Ev.move (.t rfl)) rfl ?_
    first | refine W.q (Ev.lensl (.t rfl) Tryz.underlying23) rfl ?_ | refine W.q (Ev.lenar (i := 0) (.t rfl) rfl Tryz.underlying23) rfl ?_ | refine W.q (Ev.lenar (i := 1) (.t rfl) rfl Tryz.underlying23) rfl ?_ | refine W.q (Ev.lenar (i := 2) (.t rfl) rfl Tryz.underlying23) rfl ?_ | refine W.q (Ev.lenar (i := 3) (.t rfl) rfl Tryz.underlying23) rfl ?_ | refine W.q (Ev.lenar (i := 4) (.t rfl) rfl Tryz.underlying23) rfl ?_
    refine W.q (Ev.lti (.t rfl) (.t rfl)) rfl ?_
    refine W.nil ?_
    refine W.then ?_
    refine W.is (t := 40) (g := true) (av' := .lit (.bool true)) rfl (congrArg (fun b => AV.lit (.bool b)) (by decide)) ?_
    refine W.condT (.t rfl) ?_
    refine W.skip ?_
    refine W.then ?_
    refine W.seq ?_
    refine W.block ?_
    refine W.seq ?_
    refine W.seq ?_
    refine W.region ?_
    refine W.q (Ev.move (.t rfl)) rfl ?_
    refine W.q (Ev.move (.t rfl)) rfl ?_
    refine W.q (Ev.at (E := 9) (e := AV.str [10]) (.t rfl) (.t rfl) Tryz.underlying23 ty9 (fun _ => ⟨by decide, rfl⟩) rfl rfl) rfl ?_
    first | refine W.q (Ev.lde1 (.t rfl) ag9) rfl ?_ | refine W.q (Ev.ldb1 0 (.t rfl) rfl ag9 rfl) rfl ?_ | refine W.q (Ev.ldb1 1 (.t rfl) rfl ag9 rfl) rfl ?_ | refine W.q (Ev.ldb1 2 (.t rfl) rfl ag9 rfl) rfl ?_ | refine W.q (Ev.ldb1 3 (.t rfl) rfl ag9 rfl) rfl ?_ | refine W.q (Ev.ldb1 4 (.t rfl) rfl ag9 rfl) rfl ?_
    refine W.q (Ev.lens (.t rfl) Tryz.underlying9) rfl ?_
    refine W.q (Ev.nei (.t rfl) .k) rfl ?_
    refine W.nil ?_
    refine W.then ?_
    refine W.is (t := 48) (g := true) (av' := .lit (.bool false)) rfl (congrArg (fun b => AV.lit (.bool b)) (by rfl)) ?_
    refine W.condF (.t rfl) ?_
    refine W.skip ?_
    refine W.then ?_
    refine W.seq ?_
    refine W.region ?_
    refine W.q (Ev.move (.t rfl)) rfl ?_
    refine W.q (Ev.move (.t rfl)) rfl ?_
    first | refine W.q (Ev.add (.t rfl) .k (fun _ => by omega)) rfl ?_ | refine W.q (Ev.addw (.t rfl) .k) rfl ?_
    refine W.q (Ev.at (E := 9) (e := AV.str []) (.t rfl) (.t rfl) Tryz.underlying23 ty9 (fun _ => ⟨by decide, rfl⟩) rfl rfl) rfl ?_
    first | refine W.q (Ev.lde1 (.t rfl) ag9) rfl ?_ | refine W.q (Ev.ldb1 0 (.t rfl) rfl ag9 rfl) rfl ?_ | refine W.q (Ev.ldb1 1 (.t rfl) rfl ag9 rfl) rfl ?_ | refine W.q (Ev.ldb1 2 (.t rfl) rfl ag9 rfl) rfl ?_ | refine W.q (Ev.ldb1 3 (.t rfl) rfl ag9 rfl) rfl ?_ | refine W.q (Ev.ldb1 4 (.t rfl) rfl ag9 rfl) rfl ?_
    refine W.q (Ev.lens (.t rfl) Tryz.underlying9) rfl ?_
    refine W.q (Ev.nei (.t rfl) .k) rfl ?_
    refine W.nil ?_
    refine W.then ?_
    refine W.is (t := 58) (g := true) (av' := .lit (.bool true)) rfl (congrArg (fun b => AV.lit (.bool b)) (by rfl)) ?_
    refine W.condT (.t rfl) ?_
    refine W.region ?_
    refine W.q (Ev.assign .k) rfl ?_
    refine W.nil ?_
    refine W.blk_normal ?_
    refine W.then ?_
    refine W.region ?_
    refine W.q (Ev.move (.t rfl)) rfl ?_
    first | refine W.q (Ev.add (.t rfl) .k (fun _ => by omega)) rfl ?_ | refine W.q (Ev.addw (.t rfl) .k) rfl ?_
    refine W.q (Ev.assign (.t rfl)) rfl ?_
    refine W.nil ?_
    refine W.then ?_
    refine W.reach (D := []) 2 ⟨rfl, rfl, rfl, trivial⟩ (.refl _) ⟨by decide, by decide⟩
  · skip
    refine W.seq ?_
    refine W.seq ?_
    refine W.region ?_
    refine W.q (Ev.move (.t rfl)) rfl ?_
    refine W.q (Ev.move (.t rfl)) rfl ?_
    first | refine W.q (Ev.lensl (.t rfl) Tryz.underlying23) rfl ?_ | refine W.q (Ev.lenar (i := 0) (.t rfl) rfl Tryz.underlying23) rfl ?_ | refine W.q (Ev.lenar (i := 1) (.t rfl) rfl Tryz.underlying23) rfl ?_ | refine W.q (Ev.lenar (i := 2) (.t rfl) rfl Tryz.underlying23) rfl ?_ | refine W.q (Ev.lenar (i := 3) (.t rfl) rfl Tryz.underlying23) rfl ?_ | refine W.q (Ev.lenar (i := 4) (.t rfl) rfl Tryz.underlying23) rfl ?_
    refine W.q (Ev.lti (.t rfl) (.t rfl)) rfl ?_
    refine W.nil ?_
    refine W.then ?_
    refine W.is (t := 40) (g := true) (av' := .lit (.bool true)) rfl (congrArg (fun b => AV.lit (.bool b)) (by decide)) ?_
    refine W.condT (.t rfl) ?_
    refine W.skip ?_
    refine W.then ?_
    refine W.seq ?_
    refine W.block ?_
    refine W.seq ?_
    refine W.seq ?_
    refine W.region ?_
    refine W.q (Ev.move (.t rfl)) rfl ?_
    refine W.q (Ev.move (.t rfl)) rfl ?_
    refine W.q (Ev.at (E := 9) (e := AV.str [13]) (.t rfl) (.t rfl) Tryz.underlying23 ty9 (fun _ => ⟨by decide, rfl⟩) rfl rfl) rfl ?_
    first | refine W.q (Ev.lde1 (.t rfl) ag9) rfl ?_ | refine W.q (Ev.ldb1 0 (.t rfl) rfl ag9 rfl) rfl ?_ | refine W.q (Ev.ldb1 1 (.t rfl) rfl ag9 rfl) rfl ?_ | refine W.q (Ev.ldb1 2 (.t rfl) rfl ag9 rfl) rfl ?_ | refine W.q (Ev.ldb1 3 (.t rfl) rfl ag9 rfl) rfl ?_ | refine W.q (Ev.ldb1 4 (.t rfl) rfl ag9 rfl) rfl ?_
    refine W.q (Ev.lens (.t rfl) Tryz.underlying9) rfl ?_
    refine W.q (Ev.nei (.t rfl) .k) rfl ?_
    refine W.nil ?_
    refine W.then ?_
    refine W.is (t := 48) (g := true) (av' := .lit (.bool false)) rfl (congrArg (fun b => AV.lit (.bool b)) (by rfl)) ?_
    refine W.condF (.t rfl) ?_
    refine W.skip ?_
    refine W.then ?_
    refine W.seq ?_
    refine W.region ?_
    refine W.q (Ev.move (.t rfl)) rfl ?_
    refine W.q (Ev.move (.t rfl)) rfl ?_
    first | refine W.q (Ev.add (.t rfl) .k (fun _ => by omega)) rfl ?_ | refine W.q (Ev.addw (.t rfl) .k) rfl ?_
    refine W.q (Ev.at (E := 9) (e := AV.str []) (.t rfl) (.t rfl) Tryz.underlying23 ty9 (fun _ => ⟨by decide, rfl⟩) rfl rfl) rfl ?_
    first | refine W.q (Ev.lde1 (.t rfl) ag9) rfl ?_ | refine W.q (Ev.ldb1 0 (.t rfl) rfl ag9 rfl) rfl ?_ | refine W.q (Ev.ldb1 1 (.t rfl) rfl ag9 rfl) rfl ?_ | refine W.q (Ev.ldb1 2 (.t rfl) rfl ag9 rfl) rfl ?_ | refine W.q (Ev.ldb1 3 (.t rfl) rfl ag9 rfl) rfl ?_ | refine W.q (Ev.ldb1 4 (.t rfl) rfl ag9 rfl) rfl ?_
    refine W.q (Ev.lens (.t rfl) Tryz.underlying9) rfl ?_
    refine W.q (Ev.nei (.t rfl) .k) rfl ?_
    refine W.nil ?_
    refine W.then ?_
    refine W.is (t := 58) (g := true) (av' := .lit (.bool true)) rfl (congrArg (fun b => AV.lit (.bool b)) (by rfl)) ?_
    refine W.condT (.t rfl) ?_
    refine W.region ?_
    refine W.q (Ev.assign .k) rfl ?_
    refine W.nil ?_
    refine W.blk_normal ?_
    refine W.then ?_
    refine W.region ?_
    refine W.q (Ev.move (.t rfl)) rfl ?_
    first | refine W.q (Ev.add (.t rfl) .k (fun _ => by omega)) rfl ?_ | refine W.q (Ev.addw (.t rfl) .k) rfl ?_
    refine W.q (Ev.assign (.t rfl)) rfl ?_
    refine W.nil ?_
    refine W.then ?_
    refine W.reach (D := []) 3 ⟨rfl, rfl, rfl, trivial⟩ (.refl _) ⟨by decide, by decide⟩
  · skip
    refine W.seq ?_
    refine W.seq ?_
    refine W.region ?_
    refine W.q (Ev.move (.t rfl)) rfl ?_
    refine W.q (Ev.move (.t rfl)) rfl ?_
    first | refine W.q (Ev.lensl (.t rfl) Tryz.underlying23) rfl ?_ | refine W.q (Ev.lenar (i := 0) (.t rfl) rfl Tryz.underlying23) rfl ?_ | refine W.q (Ev.lenar (i := 1) (.t rfl) rfl Tryz.underlying23) rfl ?_ | refine W.q (Ev.lenar (i := 2) (.t rfl) rfl Tryz.underlying23) rfl ?_ | refine W.q (Ev.lenar (i := 3) (.t rfl) rfl Tryz.underlying23) rfl ?_ | refine W.q (Ev.lenar (i := 4) (.t rfl) rfl Tryz.underlying23) rfl ?_
    refine W.q (Ev.lti (.t rfl) (.t rfl)) rfl ?_
    refine W.nil ?_
    refine W.then ?_
    refine W.is (t := 40) (g := true) (av' := .lit (.bool false)) rfl (congrArg (fun b => AV.lit (.bool b)) (by decide)) ?_
    refine W.condF (.t rfl) ?_
    refine W.exit ?_
    refine W.then_exit ?_
    refine W.then_exit ?_
    refine W.blk_hit ?_
    refine W.then ?_
    refine W.seq ?_
    refine W.seq ?_
    refine W.region ?_
    refine W.q (Ev.move (.t rfl)) rfl ?_
    refine W.nil ?_
    refine W.then ?_
    refine W.is (t := 59) (g := true) (av' := .lit (.bool false)) rfl (congrArg (fun b => AV.lit (.bool b)) (by rfl)) ?_
    refine W.condF (.t rfl) ?_
    refine W.skip ?_
    refine W.then ?_
    refine W.seq ?_
    refine W.region ?_
    refine W.q (Ev.move (.t rfl)) rfl ?_
    first | refine W.q (Ev.lensl (.t rfl) Tryz.underlying23) rfl ?_ | refine W.q (Ev.lenar (i := 0) (.t rfl) rfl Tryz.underlying23) rfl ?_ | refine W.q (Ev.lenar (i := 1) (.t rfl) rfl Tryz.underlying23) rfl ?_ | refine W.q (Ev.lenar (i := 2) (.t rfl) rfl Tryz.underlying23) rfl ?_ | refine W.q (Ev.lenar (i := 3) (.t rfl) rfl Tryz.underlying23) rfl ?_ | refine W.q (Ev.lenar (i := 4) (.t rfl) rfl Tryz.underlying23) rfl ?_
    first | refine W.q (Ev.quo (.t rfl) .k (fun _ => by decide)) rfl ?_ | refine W.q (Ev.quo (.t rfl) .k (fun _ => by omega)) rfl ?_
    refine W.is (t := 93) (g := true) (av' := .int ((3 : Nat) : Int)) rfl (congrArg AV.int (by decide)) ?_
    refine W.mk0 (n := 3) .k (.t rfl) Tryz.underlying23 ty9 rfl rfl (by decide) rfl ?_
    intro v94
    refine W.arr_inv 0 rfl (fun a94 n94 c94 h94 => ?_)
    subst h94
    refine W.q (Ev.build ty106 st106 rfl (fun hg => ⟨_, _, _, rfl, (.t rfl), rfl, rfl, rfl, rfl⟩)) rfl ?_
    refine W.alloc ty106 rfl rfl ?_
    intro b11
    first | refine W.stb 0 (.t rfl) (.t rfl) rfl ty106 rfl rfl rfl ?_ | refine W.stb 1 (.t rfl) (.t rfl) rfl ty106 rfl rfl rfl ?_ | refine W.stb 2 (.t rfl) (.t rfl) rfl ty106 rfl rfl rfl ?_ | refine W.stb 3 (.t rfl) (.t rfl) rfl ty106 rfl rfl rfl ?_ | refine W.stb 4 (.t rfl) (.t rfl) rfl ty106 rfl rfl rfl ?_
    refine W.nil ?_
    refine W.perm (M' := [.box b11 106 (Url.rowF (fun _ => Url.nilA) (.lit (.slice a94 n94 c94))), .arr (.slice a94 n94 c94) 9 1 [], .box b 84 [.lit (.int .u32 0), .lit (.int .i32 1), .lit (.int .u32 0), .lit .nilIface, .sl 1 (Url.six.map AV.str)]]) (List.Perm.of_eq (by rfl)) ?_
    refine W.then ?_
    refine W.seq ?_
    refine W.seq ?_
    refine W.region ?_
    refine W.q (Ev.move (.t rfl)) rfl ?_
    first | refine W.q (Ev.lensl (.t rfl) Tryz.underlying23) rfl ?_ | refine W.q (Ev.lenar (i := 0) (.t rfl) rfl Tryz.underlying23) rfl ?_ | refine W.q (Ev.lenar (i := 1) (.t rfl) rfl Tryz.underlying23) rfl ?_ | refine W.q (Ev.lenar (i := 2) (.t rfl) rfl Tryz.underlying23) rfl ?_ | refine W.q (Ev.lenar (i := 3) (.t rfl) rfl Tryz.underlying23) rfl ?_ | refine W.q (Ev.lenar (i := 4) (.t rfl) rfl Tryz.underlying23) rfl ?_
    first | refine W.q (Ev.sub (.t rfl) .k (fun _ => by omega)) rfl ?_ | refine W.q (Ev.subw (.t rfl) .k) rfl ?_
    refine W.q (Ev.assign (.t rfl)) rfl ?_
    refine W.nil ?_
    refine W.then ?_
    refine W.block ?_
    refine W.loop (D := []) (ι := Nat × (Nat → Nat × Nat) × Value) (fun y => [(12, true, .int (4 - 2 * (y.1 : Int))), (11, true, .lit (.pointer (some ⟨b11, 0, none⟩))), (3, true, .sl 1 (Url.six.map AV.str))]) (fun y => [.box b11 106 (Url.rowF (Url.Fz y.1 y.2.1) (.lit y.2.2)), .arr y.2.2 9 1 ((Url.tlr.take y.1).map AV.str), .box b 84 [.lit (.int .u32 0), .lit (.int .i32 1), .lit (.int .u32 0), .lit .nilIface, .sl 1 (Url.six.map AV.str)]]) (fun y => y.1 ≤ 3) (fun y => 3 - y.1) (0, (fun _ => (0, 0)), .slice a94 n94 c94) ⟨rfl, rfl, rfl, trivial⟩ (.refl _) (Nat.zero_le 3) ?_
    rintro ⟨k, z, v⟩ hk
    dsimp only at hk ⊢
    rcases (show k = 0 ∨ k = 1 ∨ k = 2 ∨ k = 3 from by omega) with rfl | rfl | rfl | rfl
    · skip
      refine W.seq ?_
      refine W.seq ?_
      refine W.region ?_
      refine W.q (Ev.move (.t rfl)) rfl ?_
      refine W.q (Ev.gei (.t rfl) .k) rfl ?_
      refine W.nil ?_
      refine W.then ?_
      refine W.is (t := 100) (g := true) (av' := .lit (.bool true)) rfl (congrArg (fun b => AV.lit (.bool b)) (by decide)) ?_
      refine W.condT (.t rfl) ?_
      refine W.skip ?_
      refine W.then ?_
      refine W.seq ?_
      refine W.block ?_
      refine W.seq ?_
      refine W.region ?_
      refine W.q (Ev.move (.t rfl)) rfl ?_
      refine W.q (Ev.move (.t rfl)) rfl ?_
      refine W.q (Ev.at (E := 9) (e := AV.str [13]) (.t rfl) (.t rfl) Tryz.underlying23 ty9 (fun _ => ⟨by decide, rfl⟩) rfl rfl) rfl ?_
      first | refine W.q (Ev.lde1 (.t rfl) ag9) rfl ?_ | refine W.q (Ev.ldb1 0 (.t rfl) rfl ag9 rfl) rfl ?_ | refine W.q (Ev.ldb1 1 (.t rfl) rfl ag9 rfl) rfl ?_ | refine W.q (Ev.ldb1 2 (.t rfl) rfl ag9 rfl) rfl ?_ | refine W.q (Ev.ldb1 3 (.t rfl) rfl ag9 rfl) rfl ?_ | refine W.q (Ev.ldb1 4 (.t rfl) rfl ag9 rfl) rfl ?_
      refine W.q (Ev.ats' (.t rfl) .k Tryz.underlying9 (fun hg => by decide)) rfl ?_
      refine W.is (t := 107) (g := true) (av' := AV.u8 13) rfl rfl ?_
      refine W.q (Ev.assign (.t rfl)) rfl ?_
      refine W.nil ?_
      refine W.then ?_
      refine W.seq ?_
      refine W.region ?_
      refine W.q (Ev.move (.t rfl)) rfl ?_
      refine W.q (Ev.move (.t rfl)) rfl ?_
      first | refine W.q (Ev.add (.t rfl) .k (fun _ => by omega)) rfl ?_ | refine W.q (Ev.addw (.t rfl) .k) rfl ?_
      refine W.q (Ev.at (E := 9) (e := AV.str []) (.t rfl) (.t rfl) Tryz.underlying23 ty9 (fun _ => ⟨by decide, rfl⟩) rfl rfl) rfl ?_
      first | refine W.q (Ev.lde1 (.t rfl) ag9) rfl ?_ | refine W.q (Ev.ldb1 0 (.t rfl) rfl ag9 rfl) rfl ?_ | refine W.q (Ev.ldb1 1 (.t rfl) rfl ag9 rfl) rfl ?_ | refine W.q (Ev.ldb1 2 (.t rfl) rfl ag9 rfl) rfl ?_ | refine W.q (Ev.ldb1 3 (.t rfl) rfl ag9 rfl) rfl ?_ | refine W.q (Ev.ldb1 4 (.t rfl) rfl ag9 rfl) rfl ?_
      refine W.q (Ev.assign (.t rfl)) rfl ?_
      refine W.nil ?_
      refine W.then ?_
      refine W.seq ?_
      refine W.seq ?_
      refine W.region ?_
      refine W.q (Ev.move (.t rfl)) rfl ?_
      first | refine W.q (Ev.fae (.t rfl) fa106_0 rfl) rfl ?_ | refine W.q (Ev.fab (.t rfl) fa106_0) rfl ?_ | refine W.q (Ev.faa (.t rfl) fa106_0) rfl ?_
      refine W.q (Ev.boxat (.t rfl) (.t rfl) Tryz.underlying104 ty61 (fun _ => by decide)) rfl ?_
      refine W.q (Ev.ldb1 0 (c := Url.nilA) (.t rfl) rfl ag61 (Url.rowF_get _ _ 13 (by decide))) rfl ?_
      refine W.q (Ev.eqnl (.t rfl) Tryz.underlying61) rfl ?_
      refine W.nil ?_
      refine W.then ?_
      refine W.is (t := 117) (g := true) (av' := .lit (.bool true)) rfl (congrArg (fun b => AV.lit (.bool b)) (by rfl)) ?_
      refine W.condT (.t rfl) ?_
      refine W.region ?_
      first | refine W.q (Ev.fae (.t rfl) fa106_1 rfl) rfl ?_ | refine W.q (Ev.fab (.t rfl) fa106_1) rfl ?_ | refine W.q (Ev.faa (.t rfl) fa106_1) rfl ?_
      refine W.q (Ev.ldb1 0 (c := .lit v) (.t rfl) rfl ag23 (Url.rowF_last _ _)) rfl ?_
      refine W.q (Ev.move (.t rfl)) rfl ?_
      refine W.bso (es := [_]) Tryz.underlying61 ty5 ⟨rfl, (.t rfl), rfl, rfl, trivial⟩ rfl (by decide) rfl rfl ?_
      intro v121
      refine W.q (Ev.b2s 0 (l := [13]) (.t rfl) rfl Tryz.underlying61 Tryz.underlying5 Tryz.underlying9) rfl ?_
      refine W.bs (es := [_]) Tryz.underlying23 ty9 ⟨rfl, (.t rfl), rfl, rfl, trivial⟩ rfl (by decide) rfl rfl ?_
      first | refine W.app 0 (.t rfl) rfl (.sl (.t rfl) (by first | (simp [AV.okc, shV]; done) | (intro e he; rw [List.mem_singleton.1 he]; rfl))) Tryz.underlying23 ni23 ty9 rfl rfl (by first | (simp; done) | (simp; omega)) rfl ?_ | refine W.app 1 (.t rfl) rfl (.sl (.t rfl) (by first | (simp [AV.okc, shV]; done) | (intro e he; rw [List.mem_singleton.1 he]; rfl))) Tryz.underlying23 ni23 ty9 rfl rfl (by first | (simp; done) | (simp; omega)) rfl ?_ | refine W.app 2 (.t rfl) rfl (.sl (.t rfl) (by first | (simp [AV.okc, shV]; done) | (intro e he; rw [List.mem_singleton.1 he]; rfl))) Tryz.underlying23 ni23 ty9 rfl rfl (by first | (simp; done) | (simp; omega)) rfl ?_ | refine W.app 3 (.t rfl) rfl (.sl (.t rfl) (by first | (simp [AV.okc, shV]; done) | (intro e he; rw [List.mem_singleton.1 he]; rfl))) Tryz.underlying23 ni23 ty9 rfl rfl (by first | (simp; done) | (simp; omega)) rfl ?_ | refine W.app 4 (.t rfl) rfl (.sl (.t rfl) (by first | (simp [AV.okc, shV]; done) | (intro e he; rw [List.mem_singleton.1 he]; rfl))) Tryz.underlying23 ni23 ty9 rfl rfl (by first | (simp; done) | (simp; omega)) rfl ?_ | refine W.app 0 (.t rfl) rfl (.arr 0 (.t rfl) rfl (by first | (simp [AV.okc, shV]; done) | (intro e he; rw [List.mem_singleton.1 he]; rfl))) Tryz.underlying23 ni23 ty9 rfl rfl (by first | (simp; done) | (simp; omega)) rfl ?_ | refine W.app 0 (.t rfl) rfl (.arr 1 (.t rfl) rfl (by first | (simp [AV.okc, shV]; done) | (intro e he; rw [List.mem_singleton.1 he]; rfl))) Tryz.underlying23 ni23 ty9 rfl rfl (by first | (simp; done) | (simp; omega)) rfl ?_ | refine W.app 0 (.t rfl) rfl (.arr 2 (.t rfl) rfl (by first | (simp [AV.okc, shV]; done) | (intro e he; rw [List.mem_singleton.1 he]; rfl))) Tryz.underlying23 ni23 ty9 rfl rfl (by first | (simp; done) | (simp; omega)) rfl ?_ | refine W.app 0 (.t rfl) rfl (.arr 3 (.t rfl) rfl (by first | (simp [AV.okc, shV]; done) | (intro e he; rw [List.mem_singleton.1 he]; rfl))) Tryz.underlying23 ni23 ty9 rfl rfl (by first | (simp; done) | (simp; omega)) rfl ?_ | refine W.app 0 (.t rfl) rfl (.arr 4 (.t rfl) rfl (by first | (simp [AV.okc, shV]; done) | (intro e he; rw [List.mem_singleton.1 he]; rfl))) Tryz.underlying23 ni23 ty9 rfl rfl (by first | (simp; done) | (simp; omega)) rfl ?_ | refine W.app 1 (.t rfl) rfl (.arr 0 (.t rfl) rfl (by first | (simp [AV.okc, shV]; done) | (intro e he; rw [List.mem_singleton.1 he]; rfl))) Tryz.underlying23 ni23 ty9 rfl rfl (by first | (simp; done) | (simp; omega)) rfl ?_ | refine W.app 1 (.t rfl) rfl (.arr 1 (.t rfl) rfl (by first | (simp [AV.okc, shV]; done) | (intro e he; rw [List.mem_singleton.1 he]; rfl))) Tryz.underlying23 ni23 ty9 rfl rfl (by first | (simp; done) | (simp; omega)) rfl ?_ | refine W.app 1 (.t rfl) rfl (.arr 2 (.t rfl) rfl (by first | (simp [AV.okc, shV]; done) | (intro e he; rw [List.mem_singleton.1 he]; rfl))) Tryz.underlying23 ni23 ty9 rfl rfl (by first | (simp; done) | (simp; omega)) rfl ?_ | refine W.app 1 (.t rfl) rfl (.arr 3 (.t rfl) rfl (by first | (simp [AV.okc, shV]; done) | (intro e he; rw [List.mem_singleton.1 he]; rfl))) Tryz.underlying23 ni23 ty9 rfl rfl (by first | (simp; done) | (simp; omega)) rfl ?_ | refine W.app 1 (.t rfl) rfl (.arr 4 (.t rfl) rfl (by first | (simp [AV.okc, shV]; done) | (intro e he; rw [List.mem_singleton.1 he]; rfl))) Tryz.underlying23 ni23 ty9 rfl rfl (by first | (simp; done) | (simp; omega)) rfl ?_ | refine W.app 2 (.t rfl) rfl (.arr 0 (.t rfl) rfl (by first | (simp [AV.okc, shV]; done) | (intro e he; rw [List.mem_singleton.1 he]; rfl))) Tryz.underlying23 ni23 ty9 rfl rfl (by first | (simp; done) | (simp; omega)) rfl ?_ | refine W.app 2 (.t rfl) rfl (.arr 1 (.t rfl) rfl (by first | (simp [AV.okc, shV]; done) | (intro e he; rw [List.mem_singleton.1 he]; rfl))) Tryz.underlying23 ni23 ty9 rfl rfl (by first | (simp; done) | (simp; omega)) rfl ?_ | refine W.app 2 (.t rfl) rfl (.arr 2 (.t rfl) rfl (by first | (simp [AV.okc, shV]; done) | (intro e he; rw [List.mem_singleton.1 he]; rfl))) Tryz.underlying23 ni23 ty9 rfl rfl (by first | (simp; done) | (simp; omega)) rfl ?_ | refine W.app 2 (.t rfl) rfl (.arr 3 (.t rfl) rfl (by first | (simp [AV.okc, shV]; done) | (intro e he; rw [List.mem_singleton.1 he]; rfl))) Tryz.underlying23 ni23 ty9 rfl rfl (by first | (simp; done) | (simp; omega)) rfl ?_ | refine W.app 2 (.t rfl) rfl (.arr 4 (.t rfl) rfl (by first | (simp [AV.okc, shV]; done) | (intro e he; rw [List.mem_singleton.1 he]; rfl))) Tryz.underlying23 ni23 ty9 rfl rfl (by first | (simp; done) | (simp; omega)) rfl ?_ | refine W.app 3 (.t rfl) rfl (.arr 0 (.t rfl) rfl (by first | (simp [AV.okc, shV]; done) | (intro e he; rw [List.mem_singleton.1 he]; rfl))) Tryz.underlying23 ni23 ty9 rfl rfl (by first | (simp; done) | (simp; omega)) rfl ?_ | refine W.app 3 (.t rfl) rfl (.arr 1 (.t rfl) rfl (by first | (simp [AV.okc, shV]; done) | (intro e he; rw [List.mem_singleton.1 he]; rfl))) Tryz.underlying23 ni23 ty9 rfl rfl (by first | (simp; done) | (simp; omega)) rfl ?_ | refine W.app 3 (.t rfl) rfl (.arr 2 (.t rfl) rfl (by first | (simp [AV.okc, shV]; done) | (intro e he; rw [List.mem_singleton.1 he]; rfl))) Tryz.underlying23 ni23 ty9 rfl rfl (by first | (simp; done) | (simp; omega)) rfl ?_ | refine W.app 3 (.t rfl) rfl (.arr 3 (.t rfl) rfl (by first | (simp [AV.okc, shV]; done) | (intro e he; rw [List.mem_singleton.1 he]; rfl))) Tryz.underlying23 ni23 ty9 rfl rfl (by first | (simp; done) | (simp; omega)) rfl ?_ | refine W.app 3 (.t rfl) rfl (.arr 4 (.t rfl) rfl (by first | (simp [AV.okc, shV]; done) | (intro e he; rw [List.mem_singleton.1 he]; rfl))) Tryz.underlying23 ni23 ty9 rfl rfl (by first | (simp; done) | (simp; omega)) rfl ?_ | refine W.app 4 (.t rfl) rfl (.arr 0 (.t rfl) rfl (by first | (simp [AV.okc, shV]; done) | (intro e he; rw [List.mem_singleton.1 he]; rfl))) Tryz.underlying23 ni23 ty9 rfl rfl (by first | (simp; done) | (simp; omega)) rfl ?_ | refine W.app 4 (.t rfl) rfl (.arr 1 (.t rfl) rfl (by first | (simp [AV.okc, shV]; done) | (intro e he; rw [List.mem_singleton.1 he]; rfl))) Tryz.underlying23 ni23 ty9 rfl rfl (by first | (simp; done) | (simp; omega)) rfl ?_ | refine W.app 4 (.t rfl) rfl (.arr 2 (.t rfl) rfl (by first | (simp [AV.okc, shV]; done) | (intro e he; rw [List.mem_singleton.1 he]; rfl))) Tryz.underlying23 ni23 ty9 rfl rfl (by first | (simp; done) | (simp; omega)) rfl ?_ | refine W.app 4 (.t rfl) rfl (.arr 3 (.t rfl) rfl (by first | (simp [AV.okc, shV]; done) | (intro e he; rw [List.mem_singleton.1 he]; rfl))) Tryz.underlying23 ni23 ty9 rfl rfl (by first | (simp; done) | (simp; omega)) rfl ?_ | refine W.app 4 (.t rfl) rfl (.arr 4 (.t rfl) rfl (by first | (simp [AV.okc, shV]; done) | (intro e he; rw [List.mem_singleton.1 he]; rfl))) Tryz.underlying23 ni23 ty9 rfl rfl (by first | (simp; done) | (simp; omega)) rfl ?_
      intro v124
      first | refine W.q (Ev.fae (.t rfl) fa106_1 rfl) rfl ?_ | refine W.q (Ev.fab (.t rfl) fa106_1) rfl ?_ | refine W.q (Ev.faa (.t rfl) fa106_1) rfl ?_
      refine W.arr_inv 2 rfl (fun a n c h => ?_)
      subst h
      refine W.stb 1 (.t rfl) (.t rfl) rfl ty23 rfl rfl (by rw [Url.rowF_len]; decide) ?_
      refine W.perm (M' := [_, .box b11 106 (Url.rowF (Url.Fz 0 z) (.lit (.slice a n c))), .arr (.slice a n c) 9 1 ((Url.tlr.take 1).map AV.str), _]) (List.Perm.of_eq (congrArg (fun cs => [_, ME.box b11 106 cs, _, _]) (Url.rowF_setl _ _ _))) ?_
      refine W.nil ?_
      refine W.then ?_
      refine W.region ?_
      refine W.q (Ev.move (.t rfl)) rfl ?_
      refine W.q (Ev.move (.t rfl)) rfl ?_
      refine W.s2b0 (.t rfl) Tryz.underlying9 Tryz.underlying61 Tryz.underlying5 rfl ?_
      intro b128 c128 hc128
      first | refine W.q (Ev.fae (.t rfl) fa106_0 rfl) rfl ?_ | refine W.q (Ev.fab (.t rfl) fa106_0) rfl ?_ | refine W.q (Ev.faa (.t rfl) fa106_0) rfl ?_
      refine W.q (Ev.boxat (.t rfl) (.t rfl) Tryz.underlying104 ty61 (fun _ => by decide)) rfl ?_
      refine W.stb 1 (.t rfl) (.t rfl) rfl ty61 rfl rfl (by rw [Url.rowF_len]; decide) ?_
      refine W.perm (M' := [_, .box b11 106 (Url.rowF (Url.Fz 1 (fun i => if i = ((Url.kill.getD 0 0).toNat) then (b128, c128) else z i)) (.lit (.slice a n c))), _, _]) (List.Perm.of_eq (congrArg (fun cs => [_, ME.box b11 106 cs, _, _]) ((Url.rowF_set _ _ _ _ (by decide)).trans (congrArg (fun f => Url.rowF f _) (Url.Fz_step 0 (by decide) z b128 c128))))) ?_
      refine W.nil ?_
      refine W.blk_normal ?_
      refine W.then ?_
      refine W.region ?_
      refine W.q (Ev.move (.t rfl)) rfl ?_
      first | refine W.q (Ev.sub (.t rfl) .k (fun _ => by omega)) rfl ?_ | refine W.q (Ev.subw (.t rfl) .k) rfl ?_
      refine W.q (Ev.assign (.t rfl)) rfl ?_
      refine W.nil ?_
      refine W.then ?_
      refine W.reach (D := [_]) (1, _, _) ⟨rfl, rfl, rfl, trivial⟩ ((List.perm_middle (l₁ := [_])).trans <| List.Perm.cons _ <| (List.perm_middle (l₁ := [_])).trans <| List.Perm.cons _ <| (List.perm_middle (l₁ := [_])).trans <| List.Perm.cons _ <| List.Perm.cons _ <| .refl _) ⟨by show 1 ≤ 3; decide, by show 3 - 1 < 3 - 0; decide⟩
    · skip
      refine W.seq ?_
      refine W.seq ?_
      refine W.region ?_
      refine W.q (Ev.move (.t rfl)) rfl ?_
      refine W.q (Ev.gei (.t rfl) .k) rfl ?_
      refine W.nil ?_
      refine W.then ?_
      refine W.is (t := 100) (g := true) (av' := .lit (.bool true)) rfl (congrArg (fun b => AV.lit (.bool b)) (by decide)) ?_
      refine W.condT (.t rfl) ?_
      refine W.skip ?_
      refine W.then ?_
      refine W.seq ?_
      refine W.block ?_
      refine W.seq ?_
      refine W.region ?_
      refine W.q (Ev.move (.t rfl)) rfl ?_
      refine W.q (Ev.move (.t rfl)) rfl ?_
      refine W.q (Ev.at (E := 9) (e := AV.str [10]) (.t rfl) (.t rfl) Tryz.underlying23 ty9 (fun _ => ⟨by decide, rfl⟩) rfl rfl) rfl ?_
      first | refine W.q (Ev.lde1 (.t rfl) ag9) rfl ?_ | refine W.q (Ev.ldb1 0 (.t rfl) rfl ag9 rfl) rfl ?_ | refine W.q (Ev.ldb1 1 (.t rfl) rfl ag9 rfl) rfl ?_ | refine W.q (Ev.ldb1 2 (.t rfl) rfl ag9 rfl) rfl ?_ | refine W.q (Ev.ldb1 3 (.t rfl) rfl ag9 rfl) rfl ?_ | refine W.q (Ev.ldb1 4 (.t rfl) rfl ag9 rfl) rfl ?_
      refine W.q (Ev.ats' (.t rfl) .k Tryz.underlying9 (fun hg => by decide)) rfl ?_
      refine W.is (t := 107) (g := true) (av' := AV.u8 10) rfl rfl ?_
      refine W.q (Ev.assign (.t rfl)) rfl ?_
      refine W.nil ?_
      refine W.then ?_
      refine W.seq ?_
      refine W.region ?_
      refine W.q (Ev.move (.t rfl)) rfl ?_
      refine W.q (Ev.move (.t rfl)) rfl ?_
      first | refine W.q (Ev.add (.t rfl) .k (fun _ => by omega)) rfl ?_ | refine W.q (Ev.addw (.t rfl) .k) rfl ?_
      refine W.q (Ev.at (E := 9) (e := AV.str []) (.t rfl) (.t rfl) Tryz.underlying23 ty9 (fun _ => ⟨by decide, rfl⟩) rfl rfl) rfl ?_
      first | refine W.q (Ev.lde1 (.t rfl) ag9) rfl ?_ | refine W.q (Ev.ldb1 0 (.t rfl) rfl ag9 rfl) rfl ?_ | refine W.q (Ev.ldb1 1 (.t rfl) rfl ag9 rfl) rfl ?_ | refine W.q (Ev.ldb1 2 (.t rfl) rfl ag9 rfl) rfl ?_ | refine W.q (Ev.ldb1 3 (.t rfl) rfl ag9 rfl) rfl ?_ | refine W.q (Ev.ldb1 4 (.t rfl) rfl ag9 rfl) rfl ?_
      refine W.q (Ev.assign (.t rfl)) rfl ?_
      refine W.nil ?_
      refine W.then ?_
      refine W.seq ?_
      refine W.seq ?_
      refine W.region ?_
      refine W.q (Ev.move (.t rfl)) rfl ?_
      first | refine W.q (Ev.fae (.t rfl) fa106_0 rfl) rfl ?_ | refine W.q (Ev.fab (.t rfl) fa106_0) rfl ?_ | refine W.q (Ev.faa (.t rfl) fa106_0) rfl ?_
      refine W.q (Ev.boxat (.t rfl) (.t rfl) Tryz.underlying104 ty61 (fun _ => by decide)) rfl ?_
      refine W.q (Ev.ldb1 0 (c := Url.nilA) (.t rfl) rfl ag61 (Url.rowF_get _ _ 10 (by decide))) rfl ?_
      refine W.q (Ev.eqnl (.t rfl) Tryz.underlying61) rfl ?_
      refine W.nil ?_
      refine W.then ?_
      refine W.is (t := 117) (g := true) (av' := .lit (.bool true)) rfl (congrArg (fun b => AV.lit (.bool b)) (by rfl)) ?_
      refine W.condT (.t rfl) ?_
      refine W.region ?_
      first | refine W.q (Ev.fae (.t rfl) fa106_1 rfl) rfl ?_ | refine W.q (Ev.fab (.t rfl) fa106_1) rfl ?_ | refine W.q (Ev.faa (.t rfl) fa106_1) rfl ?_
      refine W.q (Ev.ldb1 0 (c := .lit v) (.t rfl) rfl ag23 (Url.rowF_last _ _)) rfl ?_
      refine W.q (Ev.move (.t rfl)) rfl ?_
      refine W.bso (es := [_]) Tryz.underlying61 ty5 ⟨rfl, (.t rfl), rfl, rfl, trivial⟩ rfl (by decide) rfl rfl ?_
      intro v121
      refine W.q (Ev.b2s 0 (l := [10]) (.t rfl) rfl Tryz.underlying61 Tryz.underlying5 Tryz.underlying9) rfl ?_
      refine W.bs (es := [_]) Tryz.underlying23 ty9 ⟨rfl, (.t rfl), rfl, rfl, trivial⟩ rfl (by decide) rfl rfl ?_
      first | refine W.app 0 (.t rfl) rfl (.sl (.t rfl) (by first | (simp [AV.okc, shV]; done) | (intro e he; rw [List.mem_singleton.1 he]; rfl))) Tryz.underlying23 ni23 ty9 rfl rfl (by first | (simp; done) | (simp; omega)) rfl ?_ | refine W.app 1 (.t rfl) rfl (.sl (.t rfl) (by first | (simp [AV.okc, shV]; done) | (intro e he; rw [List.mem_singleton.1 he]; rfl))) Tryz.underlying23 ni23 ty9 rfl rfl (by first | (simp; done) | (simp; omega)) rfl ?_ | refine W.app 2 (.t rfl) rfl (.sl (.t rfl) (by first | (simp [AV.okc, shV]; done) | (intro e he; rw [List.mem_singleton.1 he]; rfl))) Tryz.underlying23 ni23 ty9 rfl rfl (by first | (simp; done) | (simp; omega)) rfl ?_ | refine W.app 3 (.t rfl) rfl (.sl (.t rfl) (by first | (simp [AV.okc, shV]; done) | (intro e he; rw [List.mem_singleton.1 he]; rfl))) Tryz.underlying23 ni23 ty9 rfl rfl (by first | (simp; done) | (simp; omega)) rfl ?_ | refine W.app 4 (.t rfl) rfl (.sl (.t rfl) (by first | (simp [AV.okc, shV]; done) | (intro e he; rw [List.mem_singleton.1 he]; rfl))) Tryz.underlying23 ni23 ty9 rfl rfl (by first | (simp; done) | (simp; omega)) rfl ?_ | refine W.app 0 (.t rfl) rfl (.arr 0 (.t rfl) rfl (by first | (simp [AV.okc, shV]; done) | (intro e he; rw [List.mem_singleton.1 he]; rfl))) Tryz.underlying23 ni23 ty9 rfl rfl (by first | (simp; done) | (simp; omega)) rfl ?_ | refine W.app 0 (.t rfl) rfl (.arr 1 (.t rfl) rfl (by first | (simp [AV.okc, shV]; done) | (intro e he; rw [List.mem_singleton.1 he]; rfl))) Tryz.underlying23 ni23 ty9 rfl rfl (by first | (simp; done) | (simp; omega)) rfl ?_ | refine W.app 0 (.t rfl) rfl (.arr 2 (.t rfl) rfl (by first | (simp [AV.okc, shV]; done) | (intro e he; rw [List.mem_singleton.1 he]; rfl))) Tryz.underlying23 ni23 ty9 rfl rfl (by first | (simp; done) | (simp; omega)) rfl ?_ | refine W.app 0 (.t rfl) rfl (.arr 3 (.t rfl) rfl (by first | (simp [AV.okc, shV]; done) | (intro e he; rw [List.mem_singleton.1 he]; rfl))) Tryz.underlying23 ni23 ty9 rfl rfl (by first | (simp; done) | (simp; omega)) rfl ?_ | refine W.app 0 (.t rfl) rfl (.arr 4 (.t rfl) rfl (by first | (simp [AV.okc, shV]; done) | (intro e he; rw [List.mem_singleton.1 he]; rfl))) Tryz.underlying23 ni23 ty9 rfl rfl (by first | (simp; done) | (simp; omega)) rfl ?_ | refine W.app 1 (.t rfl) rfl (.arr 0 (.t rfl) rfl (by first | (simp [AV.okc, shV]; done) | (intro e he; rw [List.mem_singleton.1 he]; rfl))) Tryz.underlying23 ni23 ty9 rfl rfl (by first | (simp; done) | (simp; omega)) rfl ?_ | refine W.app 1 (.t rfl) rfl (.arr 1 (.t rfl) rfl (by first | (simp [AV.okc, shV]; done) | (intro e he; rw [List.mem_singleton.1 he]; rfl))) Tryz.underlying23 ni23 ty9 rfl rfl (by first | (simp; done) | (simp; omega)) rfl ?_ | refine W.app 1 (.t rfl) rfl (.arr 2 (.t rfl) rfl (by first | (simp [AV.okc, shV]; done) | (intro e he; rw [List.mem_singleton.1 he]; rfl))) Tryz.underlying23 ni23 ty9 rfl rfl (by first | (simp; done) | (simp; omega)) rfl ?_ | refine W.app 1 (.t rfl) rfl (.arr 3 (.t rfl) rfl (by first | (simp [AV.okc, shV]; done) | (intro e he; rw [List.mem_singleton.1 he]; rfl))) Tryz.underlying23 ni23 ty9 rfl rfl (by first | (simp; done) | (simp; omega)) rfl ?_ | refine W.app 1 (.t rfl) rfl (.arr 4 (.t rfl) rfl (by first | (simp [AV.okc, shV]; done) | (intro e he; rw [List.mem_singleton.1 he]; rfl))) Tryz.underlying23 ni23 ty9 rfl rfl (by first | (simp; done) | (simp; omega)) rfl ?_ | refine W.app 2 (.t rfl) rfl (.arr 0 (.t rfl) rfl (by first | (simp [AV.okc, shV]; done) | (intro e he; rw [List.mem_singleton.1 he]; rfl))) Tryz.underlying23 ni23 ty9 rfl rfl (by first | (simp; done) | (simp; omega)) rfl ?_ | refine W.app 2 (.t rfl) rfl (.arr 1 (.t rfl) rfl (by first | (simp [AV.okc, shV]; done) | (intro e he; rw [List.mem_singleton.1 he]; rfl))) Tryz.underlying23 ni23 ty9 rfl rfl (by first | (simp; done) | (simp; omega)) rfl ?_ | refine W.app 2 (.t rfl) rfl (.arr 2 (.t rfl) rfl (by first | (simp [AV.okc, shV]; done) | (intro e he; rw [List.mem_singleton.1 he]; rfl))) Tryz.underlying23 ni23 ty9 rfl rfl (by first | (simp; done) | (simp; omega)) rfl ?_ | refine W.app 2 (.t rfl) rfl (.arr 3 (.t rfl) rfl (by first | (simp [AV.okc, shV]; done) | (intro e he; rw [List.mem_singleton.1 he]; rfl))) Tryz.underlying23 ni23 ty9 rfl rfl (by first | (simp; done) | (simp; omega)) rfl ?_ | refine W.app 2 (.t rfl) rfl (.arr 4 (.t rfl) rfl (by first | (simp [AV.okc, shV]; done) | (intro e he; rw [List.mem_singleton.1 he]; rfl))) Tryz.underlying23 ni23 ty9 rfl rfl (by first | (simp; done) | (simp; omega)) rfl ?_ | refine W.app 3 (.t rfl) rfl (.arr 0 (.t rfl) rfl (by first | (simp [AV.okc, shV]; done) | (intro e he; rw [List.mem_singleton.1 he]; rfl))) Tryz.underlying23 ni23 ty9 rfl rfl (by first | (simp; done) | (simp; omega)) rfl ?_ | refine W.app 3 (.t rfl) rfl (.arr 1 (.t rfl) rfl (by first | (simp [AV.okc, shV]; done) | (intro e he; rw [List.mem_singleton.1 he]; rfl))) Tryz.underlying23 ni23 ty9 rfl rfl (by first | (simp; done) | (simp; omega)) rfl ?_ | refine W.app 3 (.t rfl) rfl (.arr 2 (.t rfl) rfl (by first | (simp [AV.okc, shV]; done) | (intro e he; rw [List.mem_singleton.1 he]; rfl))) Tryz.underlying23 ni23 ty9 rfl rfl (by first | (simp; done) | (simp; omega)) rfl ?_ | refine W.app 3 (.t rfl) rfl (.arr 3 (.t rfl) rfl (by first | (simp [AV.okc, shV]; done) | (intro e he; rw [List.mem_singleton.1 he]; rfl))) Tryz.underlying23 ni23 ty9 rfl rfl (by first | (simp; done) | (simp; omega)) rfl ?_ | refine W.app 3 (.t rfl) rfl (.arr 4 (.t rfl) rfl (by first | (simp [AV.okc, shV]; done) | (intro e he; rw [List.mem_singleton.1 he]; rfl))) Tryz.underlying23 ni23 ty9 rfl rfl (by first | (simp; done) | (simp; omega)) rfl ?_ | refine W.app 4 (.t rfl) rfl (.arr 0 (.t rfl) rfl (by first | (simp [AV.okc, shV]; done) | (intro e he; rw [List.mem_singleton.1 he]; rfl))) Tryz.underlying23 ni23 ty9 rfl rfl (by first | (simp; done) | (simp; omega)) rfl ?_ | refine W.app 4 (.t rfl) rfl (.arr 1 (.t rfl) rfl (by first | (simp [AV.okc, shV]; done) | (intro e he; rw [List.mem_singleton.1 he]; rfl))) Tryz.underlying23 ni23 ty9 rfl rfl (by first | (simp; done) | (simp; omega)) rfl ?_ | refine W.app 4 (.t rfl) rfl (.arr 2 (.t rfl) rfl (by first | (simp [AV.okc, shV]; done) | (intro e he; rw [List.mem_singleton.1 he]; rfl))) Tryz.underlying23 ni23 ty9 rfl rfl (by first | (simp; done) | (simp; omega)) rfl ?_ | refine W.app 4 (.t rfl) rfl (.arr 3 (.t rfl) rfl (by first | (simp [AV.okc, shV]; done) | (intro e he; rw [List.mem_singleton.1 he]; rfl))) Tryz.underlying23 ni23 ty9 rfl rfl (by first | (simp; done) | (simp; omega)) rfl ?_ | refine W.app 4 (.t rfl) rfl (.arr 4 (.t rfl) rfl (by first | (simp [AV.okc, shV]; done) | (intro e he; rw [List.mem_singleton.1 he]; rfl))) Tryz.underlying23 ni23 ty9 rfl rfl (by first | (simp; done) | (simp; omega)) rfl ?_
      intro v124
      first | refine W.q (Ev.fae (.t rfl) fa106_1 rfl) rfl ?_ | refine W.q (Ev.fab (.t rfl) fa106_1) rfl ?_ | refine W.q (Ev.faa (.t rfl) fa106_1) rfl ?_
      refine W.arr_inv 2 rfl (fun a n c h => ?_)
      subst h
      refine W.stb 1 (.t rfl) (.t rfl) rfl ty23 rfl rfl (by rw [Url.rowF_len]; decide) ?_
      refine W.perm (M' := [_, .box b11 106 (Url.rowF (Url.Fz 1 z) (.lit (.slice a n c))), .arr (.slice a n c) 9 1 ((Url.tlr.take 2).map AV.str), _]) (List.Perm.of_eq (congrArg (fun cs => [_, ME.box b11 106 cs, _, _]) (Url.rowF_setl _ _ _))) ?_
      refine W.nil ?_
      refine W.then ?_
      refine W.region ?_
      refine W.q (Ev.move (.t rfl)) rfl ?_
      refine W.q (Ev.move (.t rfl)) rfl ?_
      refine W.s2b0 (.t rfl) Tryz.underlying9 Tryz.underlying61 Tryz.underlying5 rfl ?_
      intro b128 c128 hc128
      first | refine W.q (Ev.fae (.t rfl) fa106_0 rfl) rfl ?_ | refine W.q (Ev.fab (.t rfl) fa106_0) rfl ?_ | refine W.q (Ev.faa (.t rfl) fa106_0) rfl ?_
      refine W.q (Ev.boxat (.t rfl) (.t rfl) Tryz.underlying104 ty61 (fun _ => by decide)) rfl ?_
      refine W.stb 1 (.t rfl) (.t rfl) rfl ty61 rfl rfl (by rw [Url.rowF_len]; decide) ?_
      refine W.perm (M' := [_, .box b11 106 (Url.rowF (Url.Fz 2 (fun i => if i = ((Url.kill.getD 1 0).toNat) then (b128, c128) else z i)) (.lit (.slice a n c))), _, _]) (List.Perm.of_eq (congrArg (fun cs => [_, ME.box b11 106 cs, _, _]) ((Url.rowF_set _ _ _ _ (by decide)).trans (congrArg (fun f => Url.rowF f _) (Url.Fz_step 1 (by decide) z b128 c128))))) ?_
      refine W.nil ?_
      refine W.blk_normal ?_
      refine W.then ?_
      refine W.region ?_
      refine W.q (Ev.move (.t rfl)) rfl ?_
      first | refine W.q (Ev.sub (.t rfl) .k (fun _ => by omega)) rfl ?_ | refine W.q (Ev.subw (.t rfl) .k) rfl ?_
      refine W.q (Ev.assign (.t rfl)) rfl ?_
      refine W.nil ?_
      refine W.then ?_
      refine W.reach (D := [_]) (2, _, _) ⟨rfl, rfl, rfl, trivial⟩ ((List.perm_middle (l₁ := [_])).trans <| List.Perm.cons _ <| (List.perm_middle (l₁ := [_])).trans <| List.Perm.cons _ <| (List.perm_middle (l₁ := [_])).trans <| List.Perm.cons _ <| List.Perm.cons _ <| .refl _) ⟨by show 2 ≤ 3; decide, by show 3 - 2 < 3 - 1; decide⟩
    · skip
      refine W.seq ?_
      refine W.seq ?_
      refine W.region ?_
      refine W.q (Ev.move (.t rfl)) rfl ?_
      refine W.q (Ev.gei (.t rfl) .k) rfl ?_
      refine W.nil ?_
      refine W.then ?_
      refine W.is (t := 100) (g := true) (av' := .lit (.bool true)) rfl (congrArg (fun b => AV.lit (.bool b)) (by decide)) ?_
      refine W.condT (.t rfl) ?_
      refine W.skip ?_
      refine W.then ?_
      refine W.seq ?_
      refine W.block ?_
      refine W.seq ?_
      refine W.region ?_
      refine W.q (Ev.move (.t rfl)) rfl ?_
      refine W.q (Ev.move (.t rfl)) rfl ?_
      refine W.q (Ev.at (E := 9) (e := AV.str [9]) (.t rfl) (.t rfl) Tryz.underlying23 ty9 (fun _ => ⟨by decide, rfl⟩) rfl rfl) rfl ?_
      first | refine W.q (Ev.lde1 (.t rfl) ag9) rfl ?_ | refine W.q (Ev.ldb1 0 (.t rfl) rfl ag9 rfl) rfl ?_ | refine W.q (Ev.ldb1 1 (.t rfl) rfl ag9 rfl) rfl ?_ | refine W.q (Ev.ldb1 2 (.t rfl) rfl ag9 rfl) rfl ?_ | refine W.q (Ev.ldb1 3 (.t rfl) rfl ag9 rfl) rfl ?_ | refine W.q (Ev.ldb1 4 (.t rfl) rfl ag9 rfl) rfl ?_
      refine W.q (Ev.ats' (.t rfl) .k Tryz.underlying9 (fun hg => by decide)) rfl ?_
      refine W.is (t := 107) (g := true) (av' := AV.u8 9) rfl rfl ?_
      refine W.q (Ev.assign (.t rfl)) rfl ?_
      refine W.nil ?_
      refine W.then ?_
      refine W.seq ?_
      refine W.region ?_
      refine W.q (Ev.move (.t rfl)) rfl ?_
      refine W.q (Ev.move (.t rfl)) rfl ?_
      first | refine W.q (Ev.add (.t rfl) .k (fun _ => by omega)) rfl ?_ | refine W.q (Ev.addw (.t rfl) .k) rfl ?_
      refine W.q (Ev.at (E := 9) (e := AV.str []) (.t rfl) (.t rfl) Tryz.underlying23 ty9 (fun _ => ⟨by decide, rfl⟩) rfl rfl) rfl ?_
      first | refine W.q (Ev.lde1 (.t rfl) ag9) rfl ?_ | refine W.q (Ev.ldb1 0 (.t rfl) rfl ag9 rfl) rfl ?_ | refine W.q (Ev.ldb1 1 (.t rfl) rfl ag9 rfl) rfl ?_ | refine W.q (Ev.ldb1 2 (.t rfl) rfl ag9 rfl) rfl ?_ | refine W.q (Ev.ldb1 3 (.t rfl) rfl ag9 rfl) rfl ?_ | refine W.q (Ev.ldb1 4 (.t rfl) rfl ag9 rfl) rfl ?_
      refine W.q (Ev.assign (.t rfl)) rfl ?_
      refine W.nil ?_
      refine W.then ?_
      refine W.seq ?_
      refine W.seq ?_
      refine W.region ?_
      refine W.q (Ev.move (.t rfl)) rfl ?_
      first | refine W.q (Ev.fae (.t rfl) fa106_0 rfl) rfl ?_ | refine W.q (Ev.fab (.t rfl) fa106_0) rfl ?_ | refine W.q (Ev.faa (.t rfl) fa106_0) rfl ?_
      refine W.q (Ev.boxat (.t rfl) (.t rfl) Tryz.underlying104 ty61 (fun _ => by decide)) rfl ?_
      refine W.q (Ev.ldb1 0 (c := Url.nilA) (.t rfl) rfl ag61 (Url.rowF_get _ _ 9 (by decide))) rfl ?_
      refine W.q (Ev.eqnl (.t rfl) Tryz.underlying61) rfl ?_
      refine W.nil ?_
      refine W.then ?_
      refine W.is (t := 117) (g := true) (av' := .lit (.bool true)) rfl (congrArg (fun b => AV.lit (.bool b)) (by rfl)) ?_
      refine W.condT (.t rfl) ?_
      refine W.region ?_
      first | refine W.q (Ev.fae (.t rfl) fa106_1 rfl) rfl ?_ | refine W.q (Ev.fab (.t rfl) fa106_1) rfl ?_ | refine W.q (Ev.faa (.t rfl) fa106_1) rfl ?_
      refine W.q (Ev.ldb1 0 (c := .lit v) (.t rfl) rfl ag23 (Url.rowF_last _ _)) rfl ?_
      refine W.q (Ev.move (.t rfl)) rfl ?_
      refine W.bso (es := [_]) Tryz.underlying61 ty5 ⟨rfl, (.t rfl), rfl, rfl, trivial⟩ rfl (by decide) rfl rfl ?_
      intro v121
      refine W.q (Ev.b2s 0 (l := [9]) (.t rfl) rfl Tryz.underlying61 Tryz.underlying5 Tryz.underlying9) rfl ?_
      refine W.bs (es := [_]) Tryz.underlying23 ty9 ⟨rfl, (.t rfl), rfl, rfl, trivial⟩ rfl (by decide) rfl rfl ?_
      first | refine W.app 0 (.t rfl) rfl (.sl (.t rfl) (by first | (simp [AV.okc, shV]; done) | (intro e he; rw [List.mem_singleton.1 he]; rfl))) Tryz.underlying23 ni23 ty9 rfl rfl (by first | (simp; done) | (simp; omega)) rfl ?_ | refine W.app 1 (.t rfl) rfl (.sl (.t rfl) (by first | (simp [AV.okc, shV]; done) | (intro e he; rw [List.mem_singleton.1 he]; rfl))) Tryz.underlying23 ni23 ty9 rfl rfl (by first | (simp; done) | (simp; omega)) rfl ?_ | refine W.app 2 (.t rfl) rfl (.sl (.t rfl) (by first | (simp [AV.okc, shV]; done) | (intro e he; rw [List.mem_singleton.1 he]; rfl))) Tryz.underlying23 ni23 ty9 rfl rfl (by first | (simp; done) | (simp; omega)) rfl ?_ | refine W.app 3 (.t rfl) rfl (.sl (.t rfl) (by first | (simp [AV.okc, shV]; done) | (intro e he; rw [List.mem_singleton.1 he]; rfl))) Tryz.underlying23 ni23 ty9 rfl rfl (by first | (simp; done) | (simp; omega)) rfl ?_ | refine W.app 4 (.t rfl) rfl (.sl (.t rfl) (by first | (simp [AV.okc, shV]; done) | (intro e he; rw [List.mem_singleton.1 he]; rfl))) Tryz.underlying23 ni23 ty9 rfl rfl (by first | (simp; done) | (simp; omega)) rfl ?_ | refine W.app 0 (.t rfl) rfl (.arr 0 (.t rfl) rfl (by first | (simp [AV.okc, shV]; done) | (intro e he; rw [List.mem_singleton.1 he]; rfl))) Tryz.underlying23 ni23 ty9 rfl rfl (by first | (simp; done) | (simp; omega)) rfl ?_ | refine W.app 0 (.t rfl) rfl (.arr 1 (.t rfl) rfl (by first | (simp [AV.okc, shV]; done) | (intro e he; rw [List.mem_singleton.1 he]; rfl))) Tryz.underlying23 ni23 ty9 rfl rfl (by first | (simp; done) | (simp; omega)) rfl ?_ | refine W.app 0 (.t rfl) rfl (.arr 2 (.t rfl) rfl (by first | (simp [AV.okc, shV]; done) | (intro e he; rw [List.mem_singleton.1 he]; rfl))) Tryz.underlying23 ni23 ty9 rfl rfl (by first | (simp; done) | (simp; omega)) rfl ?_ | refine W.app 0 (.t rfl) rfl (.arr 3 (.t rfl) rfl (by first | (simp [AV.okc, shV]; done) | (intro e he; rw [List.mem_singleton.1 he]; rfl))) Tryz.underlying23 ni23 ty9 rfl rfl (by first | (simp; done) | (simp; omega)) rfl ?_ | refine W.app 0 (.t rfl) rfl (.arr 4 (.t rfl) rfl (by first | (simp [AV.okc, shV]; done) | (intro e he; rw [List.mem_singleton.1 he]; rfl))) Tryz.underlying23 ni23 ty9 rfl rfl (by first | (simp; done) | (simp; omega)) rfl ?_ | refine W.app 1 (.t rfl) rfl (.arr 0 (.t rfl) rfl (by first | (simp [AV.okc, shV]; done) | (intro e he; rw [List.mem_singleton.1 he]; rfl))) Tryz.underlying23 ni23 ty9 rfl rfl (by first | (simp; done) | (simp; omega)) rfl ?_ | refine W.app 1 (.t rfl) rfl (.arr 1 (.t rfl) rfl (by first | (simp [AV.okc, shV]; done) | (intro e he; rw [List.mem_singleton.1 he]; rfl))) Tryz.underlying23 ni23 ty9 rfl rfl (by first | (simp; done) | (simp; omega)) rfl ?_ | refine W.app 1 (.t rfl) rfl (.arr 2 (.t rfl) rfl (by first | (simp [AV.okc, shV]; done) | (intro e he; rw [List.mem_singleton.1 he]; rfl))) Tryz.underlying23 ni23 ty9 rfl rfl (by first | (simp; done) | (simp; omega)) rfl ?_ | refine W.app 1 (.t rfl) rfl (.arr 3 (.t rfl) rfl (by first | (simp [AV.okc, shV]; done) | (intro e he; rw [List.mem_singleton.1 he]; rfl))) Tryz.underlying23 ni23 ty9 rfl rfl (by first | (simp; done) | (simp; omega)) rfl ?_ | refine W.app 1 (.t rfl) rfl (.arr 4 (.t rfl) rfl (by first | (simp [AV.okc, shV]; done) | (intro e he; rw [List.mem_singleton.1 he]; rfl))) Tryz.underlying23 ni23 ty9 rfl rfl (by first | (simp; done) | (simp; omega)) rfl ?_ | refine W.app 2 (.t rfl) rfl (.arr 0 (.t rfl) rfl (by first | (simp [AV.okc, shV]; done) | (intro e he; rw [List.mem_singleton.1 he]; rfl))) Tryz.underlying23 ni23 ty9 rfl rfl (by first | (simp; done) | (simp; omega)) rfl ?_ | refine W.app 2 (.t rfl) rfl (.arr 1 (.t rfl) rfl (by first | (simp [AV.okc, shV]; done) | (intro e he; rw [List.mem_singleton.1 he]; rfl))) Tryz.underlying23 ni23 ty9 rfl rfl (by first | (simp; done) | (simp; omega)) rfl ?_ | refine W.app 2 (.t rfl) rfl (.arr 2 (.t rfl) rfl (by first | (simp [AV.okc, shV]; done) | (intro e he; rw [List.mem_singleton.1 he]; rfl))) Tryz.underlying23 ni23 ty9 rfl rfl (by first | (simp; done) | (simp; omega)) rfl ?_ | refine W.app 2 (.t rfl) rfl (.arr 3 (.t rfl) rfl (by first | (simp [AV.okc, shV]; done) | (intro e he; rw [List.mem_singleton.1 he]; rfl))) Tryz.underlying23 ni23 ty9 rfl rfl (by first | (simp; done) | (simp; omega)) rfl ?_ | refine W.app 2 (.t rfl) rfl (.arr 4 (.t rfl) rfl (by first | (simp [AV.okc, shV]; done) | (intro e he; rw [List.mem_singleton.1 he]; rfl))) Tryz.underlying23 ni23 ty9 rfl rfl (by first | (simp; done) | (simp; omega)) rfl ?_ | refine W.app 3 (.t rfl) rfl (.arr 0 (.t rfl) rfl (by first | (simp [AV.okc, shV]; done) | (intro e he; rw [List.mem_singleton.1 he]; rfl))) Tryz.underlying23 ni23 ty9 rfl rfl (by first | (simp; done) | (simp; omega)) rfl ?_ | refine W.app 3 (.t rfl) rfl (.arr 1 (.t rfl) rfl (by first | (simp [AV.okc, shV]; done) | (intro e he; rw [List.mem_singleton.1 he]; rfl))) Tryz.underlying23 ni23 ty9 rfl rfl (by first | (simp; done) | (simp; omega)) rfl ?_ | refine W.app 3 (.t rfl) rfl (.arr 2 (.t rfl) rfl (by first | (simp [AV.okc, shV]; done) | (intro e he; rw [List.mem_singleton.1 he]; rfl))) Tryz.underlying23 ni23 ty9 rfl rfl (by first | (simp; done) | (simp; omega)) rfl ?_ | refine W.app 3 (.t rfl) rfl (.arr 3 (.t rfl) rfl (by first | (simp [AV.okc, shV]; done) | (intro e he; rw [List.mem_singleton.1 he]; rfl))) Tryz.underlying23 ni23 ty9 rfl rfl (by first | (simp; done) | (simp; omega)) rfl ?_ | refine W.app 3 (.t rfl) rfl (.arr 4 (.t rfl) rfl (by first | (simp [AV.okc, shV]; done) | (intro e he; rw [List.mem_singleton.1 he]; rfl))) Tryz.underlying23 ni23 ty9 rfl rfl (by first | (simp; done) | (simp; omega)) rfl ?_ | refine W.app 4 (.t rfl) rfl (.arr 0 (.t rfl) rfl (by first | (simp [AV.okc, shV]; done) | (intro e he; rw [List.mem_singleton.1 he]; rfl))) Tryz.underlying23 ni23 ty9 rfl rfl (by first | (simp; done) | (simp; omega)) rfl ?_ | refine W.app 4 (.t rfl) rfl (.arr 1 (.t rfl) rfl (by first | (simp [AV.okc, shV]; done) | (intro e he; rw [List.mem_singleton.1 he]; rfl))) Tryz.underlying23 ni23 ty9 rfl rfl (by first | (simp; done) | (simp; omega)) rfl ?_ | refine W.app 4 (.t rfl) rfl (.arr 2 (.t rfl) rfl (by first | (simp [AV.okc, shV]; done) | (intro e he; rw [List.mem_singleton.1 he]; rfl))) Tryz.underlying23 ni23 ty9 rfl rfl (by first | (simp; done) | (simp; omega)) rfl ?_ | refine W.app 4 (.t rfl) rfl (.arr 3 (.t rfl) rfl (by first | (simp [AV.okc, shV]; done) | (intro e he; rw [List.mem_singleton.1 he]; rfl))) Tryz.underlying23 ni23 ty9 rfl rfl (by first | (simp; done) | (simp; omega)) rfl ?_ | refine W.app 4 (.t rfl) rfl (.arr 4 (.t rfl) rfl (by first | (simp [AV.okc, shV]; done) | (intro e he; rw [List.mem_singleton.1 he]; rfl))) Tryz.underlying23 ni23 ty9 rfl rfl (by first | (simp; done) | (simp; omega)) rfl ?_
      intro v124
      first | refine W.q (Ev.fae (.t rfl) fa106_1 rfl) rfl ?_ | refine W.q (Ev.fab (.t rfl) fa106_1) rfl ?_ | refine W.q (Ev.faa (.t rfl) fa106_1) rfl ?_
      refine W.arr_inv 2 rfl (fun a n c h => ?_)
      subst h
      refine W.stb 1 (.t rfl) (.t rfl) rfl ty23 rfl rfl (by rw [Url.rowF_len]; decide) ?_
      refine W.perm (M' := [_, .box b11 106 (Url.rowF (Url.Fz 2 z) (.lit (.slice a n c))), .arr (.slice a n c) 9 1 ((Url.tlr.take 3).map AV.str), _]) (List.Perm.of_eq (congrArg (fun cs => [_, ME.box b11 106 cs, _, _]) (Url.rowF_setl _ _ _))) ?_
      refine W.nil ?_
      refine W.then ?_
      refine W.region ?_
      refine W.q (Ev.move (.t rfl)) rfl ?_
      refine W.q (Ev.move (.t rfl)) rfl ?_
      refine W.s2b0 (.t rfl) Tryz.underlying9 Tryz.underlying61 Tryz.underlying5 rfl ?_
      intro b128 c128 hc128
      first | refine W.q (Ev.fae (.t rfl) fa106_0 rfl) rfl ?_ | refine W.q (Ev.fab (.t rfl) fa106_0) rfl ?_ | refine W.q (Ev.faa (.t rfl) fa106_0) rfl ?_
      refine W.q (Ev.boxat (.t rfl) (.t rfl) Tryz.underlying104 ty61 (fun _ => by decide)) rfl ?_
      refine W.stb 1 (.t rfl) (.t rfl) rfl ty61 rfl rfl (by rw [Url.rowF_len]; decide) ?_
      refine W.perm (M' := [_, .box b11 106 (Url.rowF (Url.Fz 3 (fun i => if i = ((Url.kill.getD 2 0).toNat) then (b128, c128) else z i)) (.lit (.slice a n c))), _, _]) (List.Perm.of_eq (congrArg (fun cs => [_, ME.box b11 106 cs, _, _]) ((Url.rowF_set _ _ _ _ (by decide)).trans (congrArg (fun f => Url.rowF f _) (Url.Fz_step 2 (by decide) z b128 c128))))) ?_
      refine W.nil ?_
      refine W.blk_normal ?_
      refine W.then ?_
      refine W.region ?_
      refine W.q (Ev.move (.t rfl)) rfl ?_
      first | refine W.q (Ev.sub (.t rfl) .k (fun _ => by omega)) rfl ?_ | refine W.q (Ev.subw (.t rfl) .k) rfl ?_
      refine W.q (Ev.assign (.t rfl)) rfl ?_
      refine W.nil ?_
      refine W.then ?_
      refine W.reach (D := [_]) (3, _, _) ⟨rfl, rfl, rfl, trivial⟩ ((List.perm_middle (l₁ := [_])).trans <| List.Perm.cons _ <| (List.perm_middle (l₁ := [_])).trans <| List.Perm.cons _ <| (List.perm_middle (l₁ := [_])).trans <| List.Perm.cons _ <| List.Perm.cons _ <| .refl _) ⟨by show 3 ≤ 3; decide, by show 3 - 3 < 3 - 2; decide⟩
    · refine W.freezeA (M1 := [.box b11 106 (Url.rowF (Url.Fz 3 z) (.lit v)), .box b 84 [.lit (.int .u32 0), .lit (.int .i32 1), .lit (.int .u32 0), .lit .nilIface, .sl 1 (Url.six.map AV.str)]]) (M2 := [.box b11 106 (Url.rowF (Url.Fz 3 z) (.sl 1 (Url.tlr.map AV.str))), .box b 84 [.lit (.int .u32 0), .lit (.int .i32 1), .lit (.int .u32 0), .lit .nilIface, .sl 1 (Url.six.map AV.str)]]) (D := []) (v := v) (L' := []) (List.Perm.swap _ _ _) trivial ⟨.box (Url.frz_rowF _), .refl _, trivial⟩ ?_
      refine W.seq ?_
      refine W.seq ?_
      refine W.region ?_
      refine W.q (Ev.move (.t rfl)) rfl ?_
      refine W.q (Ev.gei (.t rfl) .k) rfl ?_
      refine W.nil ?_
      refine W.then ?_
      refine W.is (t := 100) (g := true) (av' := .lit (.bool false)) rfl (congrArg (fun b => AV.lit (.bool b)) (by decide)) ?_
      refine W.condF (.t rfl) ?_
      refine W.exit ?_
      refine W.then_exit ?_
      refine W.then_exit ?_
      refine W.blk_hit ?_
      refine W.then ?_
      refine W.seq ?_
      refine W.region ?_
      refine W.q (Ev.mkif (.t rfl) Tryz.underlying107 (by intro ms h; cases h)) rfl ?_
      refine W.q (Ev.assign (.t rfl)) rfl ?_
      refine W.nil ?_
      refine W.then ?_
      refine W.ret ?_
      refine W.retn (M' := [.box b 84 [.lit (.int .u32 0), .lit (.int .i32 1), .lit (.int .u32 0), .lit .nilIface, .sl 1 (Url.six.map AV.str)], .box b11 106 _]) (D := []) (rs := [.tmp 2]) (avs := [_]) Tryz.results44 ⟨rfl, trivial⟩ rfl (List.Perm.swap _ _ []) ?_
      exact ⟨b11, z, rfl, rfl⟩

end WBuild

end Go.Proofs.YtgjndpgcpohnoaaGreatDoor
end

section
set_option linter.unusedVariables false
set_option linter.unusedSimpArgs false
set_option maxRecDepth 100000
namespace Go.Proofs.YtgjndpgcpohnoaaGreatDoor
open Go.Vl

namespace WOnce

theorem disable (w : World) : (callFunc 65 #[]).run Tryz.prog w = .ok (.value (.tuple #[])) w := run_call_mark0 Tryz.func65 (by kernel_rfl) (by kernel_rfl) (by kernel_rfl) .disable (by kernel_rfl) w
theorem enable (w : World) : (callFunc 67 #[]).run Tryz.prog w = .ok (.value (.tuple #[])) w := run_call_mark0 Tryz.func67 (by kernel_rfl) (by kernel_rfl) (by kernel_rfl) .enable (by kernel_rfl) w
theorem acquire (a : Addr) (w : World) : (callFunc 68 #[.pointer (some a)]).run Tryz.prog w = .ok (.value (.tuple #[])) w := run_call_marked Tryz.func68 (by kernel_rfl) (by kernel_rfl) (by kernel_rfl) .acquire (by kernel_rfl) a w
theorem releaseMerge (a : Addr) (w : World) : (callFunc 70 #[.pointer (some a)]).run Tryz.prog w = .ok (.value (.tuple #[])) w := run_call_marked Tryz.func70 (by kernel_rfl) (by kernel_rfl) (by kernel_rfl) .releaseMerge (by kernel_rfl) a w
theorem store_deferred (a : Addr) (x : Value) (u : FrameMode) (w : World) (hc : w.cell? a = some x) (hz : w.frozen? a = false) :
    CallsD Tryz.prog 51 #[.pointer (some a), .bool true] u w fun e u' w' => u' = u ∧ (e = .returned (.tuple #[]) ∧ w' = w.drew.setCell a (.int .u32 1)) := by
  have hc' : w.drew.cell? a = some x := by go_simp
  have hz' : w.drew.frozen? a = false := by go_simp
  have hst := run_call_store (P := Tryz.prog) Tryz.func60 (by kernel_rfl) (by kernel_rfl) (by kernel_rfl) (by kernel_rfl) (k := .u32) (y := 1) hc' hz'
  go_enter_d Tryz.func51, Tryz.ntmps51
  go_wp2
  go_region_calls
  all_goals (go_end0; exact ⟨rfl, rfl⟩)
theorem unlock_deferred (a : Addr) (u : FrameMode) (w : World) (hc : w.cell? a = some (.int .i32 1)) (hz : w.frozen? a = false) :
    CallsD Tryz.prog 50 #[.pointer (some a)] u w fun e u' w' => u' = u ∧ (e = .returned (.tuple #[]) ∧ w' = w.setCell a (.int .i32 0)) := by
  have hd := disable
  have he := enable
  have hr := releaseMerge
  have hadd := run_call_add (P := Tryz.prog) Tryz.func71 (by kernel_rfl) (by kernel_rfl) (by kernel_rfl) .i32 (by kernel_rfl) (y := -1) (s := 0) hc hz (by simp [go_sem]; rfl)
  have hcv := run_convert_to_unsafe (P := Tryz.prog) (src := 130) (dst := 134) Tryz.underlying130 Tryz.underlying134 (by kernel_rfl) hc
  go_enter_d Tryz.func50, Tryz.ntmps50
  go_wp2
  go_end0
  go_wp2
  go_end0
  exact ⟨rfl, rfl⟩
theorem lock_free (a : Addr) (w : World) (hc : w.cell? a = some (.int .i32 0)) (hz : w.frozen? a = false) :
    Calls Tryz.prog 49 #[.pointer (some a)] w fun e w' => e = .returned (.tuple #[]) ∧ w' = w.setCell a (.int .i32 1) := by
  have hd := disable
  have he := enable
  have ha := acquire
  have hcas := run_call_cas_hit (P := Tryz.prog) Tryz.func66 (by kernel_rfl) (by kernel_rfl) (by kernel_rfl) .i32 (by kernel_rfl) (y := 1) hc hz
  have hc' : (w.setCell a (.int .i32 1)).cell? a = some (.int .i32 1) := World.cell?_setCell_same w a _ hc
  have hcv := run_convert_to_unsafe (P := Tryz.prog) (src := 130) (dst := 134) Tryz.underlying130 Tryz.underlying134 (by kernel_rfl) hc'
  go_enter Tryz.func49, Tryz.ntmps49
  go_wp2
  first | go_end0 | (simp only [Exit.inBlock, Exit.then]; refine bodyPost_ret (results_none rfl _ _ _) rfl ?_) | refine bodyPost_ret (results_none rfl _ _ _) rfl ?_
  go_wp2
  go_end0
  exact ⟨rfl, rfl⟩
set_option maxRecDepth 100000 in
set_option maxHeartbeats 1600000 in
theorem slow_any (b : Nat) (w : World) (Q : World → Prop) (h0 : w.cell? ⟨b, 0, none⟩ = some (.int .u32 0)) (h1 : w.cell? ⟨b, 1, none⟩ = some (.int .i32 0)) (f0 : w.frozen? ⟨b, 0, none⟩ = false) (f1 : w.frozen? ⟨b, 1, none⟩ = false)
    (hcall : Calls Tryz.prog 37 #[.pointer (some ⟨b, 0, none⟩)] (w.setCell ⟨b, 1, none⟩ (.int .i32 1)) fun e w' => e = .returned (.tuple #[]) ∧ (w'.cell? ⟨b, 0, none⟩ = some (.int .u32 0) ∧ w'.cell? ⟨b, 1, none⟩ = some (.int .i32 1) ∧ w'.frozen? ⟨b, 0, none⟩ = false ∧ w'.frozen? ⟨b, 1, none⟩ = false) ∧ Q w') :
    Calls Tryz.prog 43 #[.pointer (some ⟨b, 0, none⟩), .func (.func 37) #[.pointer (some ⟨b, 0, none⟩)] #[]] w fun e w' => e = .returned (.tuple #[]) ∧ ∃ w2, Q w2 ∧ w' = (w2.drew.setCell ⟨b, 0, none⟩ (.int .u32 1)).setCell ⟨b, 1, none⟩ (.int .i32 0) := by
  have hl := run_call_load (P := Tryz.prog) Tryz.func48 (by kernel_rfl) (by kernel_rfl) (by kernel_rfl) .u32 (by kernel_rfl) (w := w.setCell ⟨b, 1, none⟩ (.int .i32 1)) (a := ⟨b, 0, none⟩) (x := 0) ((World.cell?_setCell_other _ ⟨b, 1, none⟩ ⟨b, 0, none⟩ _ (by simp)).trans h0)
  have hnot : ∀ (x : Bool) (w : World), (Op.unary .not (.bool x)).run Tryz.prog w = .ok (.bool (!x)) w := fun _ _ => rfl
  go_enter_defers Tryz.func43, Tryz.ntmps43
  go_wp2_with (go_at_call 49; refine (lock_free ⟨b, 1, none⟩ _ (by go_simp) (by go_simp)).mono ?_; rintro e w' ⟨rfl, rfl⟩)
  go_wp2_with (first | (go_at_call 37; refine hcall.mono ?_; rintro e w' ⟨rfl, ⟨k0, k1, z0, z1⟩, hQ⟩) | (go_at_call 42; go_in))
  first | go_wp2 | skip
  refine leaves_cons (f := 51) (args := #[.pointer (some ⟨b, 0, none⟩), .bool true]) (by simp) (by simp [go_sem]) ?_
  refine (store_deferred ⟨b, 0, none⟩ (.int .u32 0) .returning _ k0 z0).mono ?_
  rintro e u' w'' ⟨rfl, rfl, rfl⟩
  refine leaves_cons (f := 50) (args := #[.pointer (some ⟨b, 1, none⟩)]) (by simp [settle]) (by simp [go_sem]) ?_
  refine (unlock_deferred ⟨b, 1, none⟩ _ _ ?_ (by simp [z1])).mono ?_
  · refine (World.cell?_setCell_other _ ⟨b, 0, none⟩ ⟨b, 1, none⟩ _ (by simp)).trans ?_
    rw [World.cell?_drew]
    exact k1
  rintro e u' w'' ⟨rfl, rfl, rfl⟩
  simp [Leaves, settle, results, Tryz.results43]
  exact ⟨w', hQ, rfl⟩
set_option maxRecDepth 100000 in
set_option maxHeartbeats 1600000 in
theorem do_first (b : Nat) (w : World) (Q : World → Prop) (h0 : w.cell? ⟨b, 0, none⟩ = some (.int .u32 0)) (h1 : w.cell? ⟨b, 1, none⟩ = some (.int .i32 0)) (f0 : w.frozen? ⟨b, 0, none⟩ = false) (f1 : w.frozen? ⟨b, 1, none⟩ = false)
    (hcall : Calls Tryz.prog 37 #[.pointer (some ⟨b, 0, none⟩)] (w.setCell ⟨b, 1, none⟩ (.int .i32 1)) fun e w' => e = .returned (.tuple #[]) ∧ (w'.cell? ⟨b, 0, none⟩ = some (.int .u32 0) ∧ w'.cell? ⟨b, 1, none⟩ = some (.int .i32 1) ∧ w'.frozen? ⟨b, 0, none⟩ = false ∧ w'.frozen? ⟨b, 1, none⟩ = false) ∧ Q w') :
    Calls Tryz.prog 36 #[.pointer (some ⟨b, 0, none⟩), .func (.func 37) #[.pointer (some ⟨b, 0, none⟩)] #[]] w fun e w' => e = .returned (.tuple #[]) ∧ ∃ w2, Q w2 ∧ w' = (w2.drew.setCell ⟨b, 0, none⟩ (.int .u32 1)).setCell ⟨b, 1, none⟩ (.int .i32 0) := by
  have hl := run_call_load (P := Tryz.prog) Tryz.func48 (by kernel_rfl) (by kernel_rfl) (by kernel_rfl) .u32 (by kernel_rfl) h0
  have hnot : ∀ (x : Bool) (w : World), (Op.unary .not (.bool x)).run Tryz.prog w = .ok (.bool (!x)) w := fun _ _ => rfl
  go_enter Tryz.func36, Tryz.ntmps36
  go_wp2_with (first | (go_at_call 43; refine (slow_any b w Q h0 h1 f0 f1 hcall).mono ?_; rintro e w' ⟨rfl, w2, hQ, rfl⟩) | (go_at_call 42; go_in))
  go_end0
  exact ⟨rfl, w2, hQ, rfl⟩

end WOnce

end Go.Proofs.YtgjndpgcpohnoaaGreatDoor
end

section
set_option linter.unusedVariables false
set_option linter.unusedSimpArgs false
namespace Go.Vl
open Go.RowKit (Below)
theorem setCell_eq {w : World} {b j : Nat} {cur : Array Value} {T : TypeId} {fr : Nat × Nat} {u : Value} (h : w.heap[b]? = some (.cells cur T fr)) :
    w.setCell ⟨b, j, none⟩ u = { w with heap := w.heap.setIfInBounds b (.cells (cur.setIfInBounds j u) T fr) } := by
  simp only [World.setCell]
  congr 1
  apply Array.ext_getElem?
  intro i
  rw [Array.getElem?_modify, Array.getElem?_setIfInBounds]
  by_cases e : b = i
  · subst e
    have hlt := heap_lt h
    rw [if_pos rfl, h, if_pos rfl, if_pos hlt]
    rfl
  · rw [if_neg e, if_neg e]
theorem wr_one (cur : Array Value) (j : Nat) (u : Value) (h : j < cur.size) : cur.setIfInBounds j u = wr cur j [u] := by
  have := wr_cons cur j u [] (by simp; omega)
  rw [wr_nil] at this
  exact this
theorem St.poke {x : Cx} {L : List (Tmp × Bool × AV)} {M : List ME} {a : Act} {w : World} (hs : St x L M a w) {i b j : Nat} {T : TypeId} {cs : List AV} {u : Value} (hM : M[i]? = some (.box b T cs)) (hj : j < cs.length) (hu : shV u = 0) :
    St x L (M.set i (.box b T (splice cs j [.lit u]))) a (w.setCell ⟨b, j, none⟩ u) := by
  obtain ⟨cur, hc, hcs⟩ := box_at (N := []) hs.mem hM
  have hcl := hcs.length
  simp at hcl
  rw [setCell_eq hc, wr_one _ _ _ (by omega)]
  refine hs.write hM rfl rfl ?_
  intro w' hother hnew hk'
  refine ⟨_, hnew, (RepL.keep hk' _ _ hcs).splice ?_⟩
  simp only [RepL]
  exact ⟨_, _, rfl, ⟨hu, hu, by simp only [RepC]; cases u <;> simp_all [shV, Value.cells]⟩, rfl⟩
theorem St.start {P : Program} {w : World} {M : List ME} {F : List Nat} (hF : ∀ b ∈ F, b < w.heap.size) (hm : MOk w M F) : St ⟨P, 0, w, bl M, F⟩ [] M { tmps := #[], defers := [] } w :=
  ⟨rfl, rfl, fun t g av h => (by cases h), hm, Fr.refl _ _, hF⟩
theorem box_cell {w : World} {M : List ME} {F : List Nat} {b j : Nat} {T : TypeId} {cs : List AV} {u : Value} (hm : MOk w M F) (hM : ME.box b T cs ∈ M) (hj : cs[j]? = some (.lit u)) (hu : shV u = 0) : w.cell? ⟨b, j, none⟩ = some u ∧ w.frozen? ⟨b, j, none⟩ = false := by
  obtain ⟨cur, hc, hcs⟩ := hm.holds _ hM
  obtain ⟨v, hv, hr⟩ := RepL.get hcs hj
  have he : v = u := Rep.lit_iff.1 hr
  subst he
  refine ⟨?_, ?_⟩
  · rw [cell_of hc, ← Array.getElem?_toList]; exact hv
  · simp only [World.frozen?, hc]; simp
theorem rep_unit {w : World} {N : List Nat} {v : Value} (h : Rep w N (.tup []) v) : v = .tuple #[] := by
  obtain ⟨hs, hr⟩ := h
  simp only [RepC] at hr
  obtain ⟨us, he, hu⟩ := hr
  simp only [RepT] at hu
  have hus : us = #[] := by cases us; simpa using hu
  subst hus
  cases v with
  | tuple vs => exact List.singleton_inj.1 (show [Value.tuple vs] = [Value.tuple #[]] from he)
  | _ => cases hs
end Go.Vl
end

section
set_option linter.unusedVariables false
set_option linter.unusedSimpArgs false
namespace Go.Vl
open Go.RowKit (Below)
theorem Fr.of_below {w w' : World} (h : Below w.heap.size w w') : Fr w [] w' [] :=
  ⟨h.os, h.tape, h.output, h.size, fun k hk _ => ⟨h.block k hk, by simp⟩⟩
theorem FnP.of_below {P : Program} {f : FuncId} {args : List AV} {r : AV} (hc : CallOk P f)
    (h : ∀ (w : World) (F : List Nat) (vs : List Value), RepT w F args vs → Calls P f vs.toArray w fun e w' => ∃ v, e = .returned v ∧ Rep w' F r v ∧ Below w.heap.size w w') : FnP P f args r :=
  ⟨hc, fun w F vs hF hm ha => (h w F vs (by simpa [bl] using ha)).mono fun e w' ⟨v, he, hr, hb⟩ => ⟨v, r, [], he, ⟨rfl, rfl⟩, MOk.nil w' F, by simpa [bl] using hr, by simpa [bl] using Fr.of_below hb⟩⟩
theorem CallOk.of {P : Program} {f : FuncId} {fn : Func} (h1 : P.funcs[f]? = some fn) (h2 : (fn.name == "runtime.NumGoroutine") = false) (h3 : fn.body.isNone = false) : CallOk P f := ⟨fn, h1, h2, h3⟩
theorem RepE.strs {w : World} {N : List Nat} {l : List (List UInt8)} {row : List Value} (h : RepE w N 1 (l.map AV.str) row) (j : Nat) (x : List UInt8) (hj : l[j]? = some x) : row[j]? = some (.string ⟨x.toArray⟩) := by
  obtain ⟨h1, h2⟩ := RepE.get (i := j) (e := AV.str x) h (by rw [List.getElem?_map, hj]; rfl)
  simp only [RepC, Nat.mul_one] at h2
  have h3 : (List.take 1 (List.drop j row)) = [Value.string ⟨x.toArray⟩] := h2
  have : (List.take 1 (List.drop j row))[0]? = row[j]? := by simp [List.getElem?_take, List.getElem?_drop]
  rw [← this, h3]; rfl
end Go.Vl
end

section
set_option linter.unusedVariables false
set_option linter.unusedSimpArgs false
set_option maxRecDepth 100000
namespace Go.Proofs.YtgjndpgcpohnoaaGreatDoor
open Go.Vl

namespace WDo

theorem c_Do {ι : Type} (b : Nat) (R0 : List AV) (R1 : ι → List AV) (Mz : ι → List ME) (hb : FnC Tryz.prog 37 [.lit (.pointer (some ⟨b, 0, none⟩))] [.box b 84 (.lit (.int .u32 0) :: .lit (.int .i32 1) :: .lit (.int .u32 0) :: R0)] (fun r M => r = .tup [] ∧ ∃ z, M = .box b 84 (.lit (.int .u32 0) :: .lit (.int .i32 1) :: .lit (.int .u32 0) :: R1 z) :: Mz z)) :
    FnC Tryz.prog 36 [.lit (.pointer (some ⟨b, 0, none⟩)), .lit (.func (.func 37) #[.pointer (some ⟨b, 0, none⟩)] #[])] [.box b 84 (.lit (.int .u32 0) :: .lit (.int .i32 0) :: .lit (.int .u32 0) :: R0)] (fun r M => r = .tup [] ∧ ∃ z, M = .box b 84 (.lit (.int .u32 1) :: .lit (.int .i32 0) :: .lit (.int .u32 0) :: R1 z) :: Mz z) := by
  refine ⟨CallOk.of Tryz.func36 (by kernel_rfl) (by kernel_rfl), fun w F vs hF hm ha => ?_⟩
  simp only [RepT] at ha
  obtain ⟨v0, _, rfl, h0, v1, _, rfl, h1, rfl⟩ := ha
  rw [show v0 = _ from Rep.lit_iff.1 (show Rep w _ (.lit _) v0 from h0), show v1 = _ from Rep.lit_iff.1 (show Rep w _ (.lit _) v1 from h1)]
  have s0 := St.start (P := Tryz.prog) hF hm
  have s1 : St _ _ [.box b 84 (.lit (.int .u32 0) :: .lit (.int .i32 1) :: .lit (.int .u32 0) :: R0)] _ _ := s0.poke (i := 0) (b := b) (j := 1) (u := .int .i32 1) rfl (by simp) rfl
  obtain ⟨c0, z0⟩ := box_cell (j := 0) hm List.mem_cons_self rfl rfl
  obtain ⟨c1, z1⟩ := box_cell (j := 1) hm List.mem_cons_self rfl rfl
  refine (WOnce.do_first b w (fun w2 => ∃ z, St ⟨Tryz.prog, 0, w, bl [.box b 84 (.lit (.int .u32 0) :: .lit (.int .i32 0) :: .lit (.int .u32 0) :: R0)], F⟩ [] (.box b 84 (.lit (.int .u32 0) :: .lit (.int .i32 1) :: .lit (.int .u32 0) :: R1 z) :: Mz z) { tmps := #[], defers := [] } w2) c0 c1 z0 z1 ((hb.2 _ F [.pointer (some ⟨b, 0, none⟩)] (fun k hk => Nat.lt_of_lt_of_le (hF k hk) s1.fr.size) s1.mem (RepT.lits [_])).mono ?_)).mono ?_
  · rintro e w' ⟨v, r, M', rfl, ⟨rfl, z, rfl⟩, hm', hr, hf⟩
    have s2 := s1.back (Mr := []) (List.Perm.of_eq (List.append_nil _).symm) (by simpa [bl] using hm') hf
    rw [List.append_nil] at s2
    obtain ⟨d0, y0⟩ := box_cell (j := 0) hm' List.mem_cons_self rfl rfl
    obtain ⟨d1, y1⟩ := box_cell (j := 1) hm' List.mem_cons_self rfl rfl
    have hv := rep_unit hr
    rw [hv]
    exact ⟨rfl, ⟨d0, d1, y0, y1⟩, z, s2⟩
  · rintro e w' ⟨rfl, w2, ⟨z, s2⟩, rfl⟩
    have s3 := s2.same (w' := w2.drew) rfl rfl rfl rfl
    have s4 : St _ _ (.box b 84 (.lit (.int .u32 1) :: .lit (.int .i32 1) :: .lit (.int .u32 0) :: R1 z) :: Mz z) _ _ := s3.poke (i := 0) (b := b) (j := 0) (u := .int .u32 1) rfl (by simp) rfl
    have s5 : St _ _ (.box b 84 (.lit (.int .u32 1) :: .lit (.int .i32 0) :: .lit (.int .u32 0) :: R1 z) :: Mz z) _ _ := s4.poke (i := 0) (b := b) (j := 1) (u := .int .i32 0) rfl (by simp) rfl
    refine ⟨_, .tup [], _, rfl, ⟨rfl, z, rfl⟩, s5.mem, ⟨rfl, ?_⟩, s5.fr⟩
    simp only [RepC, RepT]
    exact ⟨#[], rfl, rfl⟩

end WDo

end Go.Proofs.YtgjndpgcpohnoaaGreatDoor
end

section
set_option linter.unusedVariables false
set_option linter.unusedSimpArgs false
set_option maxRecDepth 100000
namespace Go.Proofs.YtgjndpgcpohnoaaGreatDoor
open Go.Vl

namespace WRepl
theorem ty9 : Ty Tryz.prog 9 1 16 (.string ⟨#[]⟩) := Ty.of (by kernel_rfl)
theorem ty23 : Ty Tryz.prog 23 1 24 (.slice none 0 0) := Ty.of (by kernel_rfl)
theorem ty80 : Ty Tryz.prog 80 3 12 (.agg #[.int .u32 0, .int .i32 0, .int .u32 0]) := Ty.of (by kernel_rfl)
theorem ty82 : Ty Tryz.prog 82 1 16 (.nilIface) := Ty.of (by kernel_rfl)
theorem ty84 : Ty Tryz.prog 84 5 56 (.agg #[.int .u32 0, .int .i32 0, .int .u32 0, .nilIface, .slice none 0 0]) := Ty.of (by kernel_rfl)
theorem ag23 : IsAgg Tryz.prog 23 false := ⟨_, Tryz.underlying23, rfl⟩
theorem ag82 : IsAgg Tryz.prog 82 false := ⟨_, Tryz.underlying82, rfl⟩
theorem fa84_1 : FieldAt Tryz.prog 84 1 3 1 false := ⟨_, _, Tryz.underlying84, rfl, rfl, ty82.size, ag82, by decide⟩
theorem fa84_2 : FieldAt Tryz.prog 84 2 4 1 false := ⟨_, _, Tryz.underlying84, rfl, rfl, ty23.size, ag23, by decide⟩
theorem st84 : StructAt Tryz.prog 84 [(0, 3), (3, 1), (4, 1)] := ⟨_, Tryz.underlying84, rfl, ty80.size, rfl, ty82.size, rfl, ty23.size, trivial⟩
theorem ni23 : NotInt Tryz.prog 23 := .inl ⟨_, Tryz.underlying23⟩
theorem c_buildOnce (b : Nat) : FnC Tryz.prog 37 [.lit (.pointer (some ⟨b, 0, none⟩))] [.box b 84 [.lit (.int .u32 0), .lit (.int .i32 1), .lit (.int .u32 0), .lit .nilIface, .sl 1 (Url.six.map AV.str)]] (fun r M => r = .tup [] ∧ ∃ z : Nat × (Nat → Nat × Nat), M = .box b 84 (.lit (.int .u32 0) :: .lit (.int .i32 1) :: .lit (.int .u32 0) :: [.lit (.iface 107 (.pointer (some ⟨z.1, 0, none⟩))), .lit (.slice none 0 0)]) :: [.box z.1 106 (Url.rowF (Url.Fz 3 z.2) (.sl 1 (Url.tlr.map AV.str)))]) :=  by
  refine FnC.mk Tryz.func37 (by kernel_rfl) rfl Tryz.ntmps37 rfl (fun w0 F => ?_)
  refine W.seq ?_
  refine W.region ?_
  refine W.q (Ev.move (.t rfl)) rfl ?_
  refine W.q (Ev.move (.t rfl)) rfl ?_
  refine W.call (WBuild.c_build b) ⟨(.t rfl), trivial⟩ (.refl _) rfl ?_
  rintro _ _ ⟨b11, z, rfl, rfl⟩
  refine W.q (Ev.nilc (.t rfl)) rfl ?_
  first | refine W.q (Ev.fae (.t rfl) fa84_1 rfl) rfl ?_ | refine W.q (Ev.fab (.t rfl) fa84_1) rfl ?_ | refine W.q (Ev.faa (.t rfl) fa84_1) rfl ?_
  first | refine W.stb 0 (.t rfl) (.t rfl) rfl ty82 rfl rfl rfl ?_ | refine W.stb 1 (.t rfl) (.t rfl) rfl ty82 rfl rfl rfl ?_ | refine W.stb 2 (.t rfl) (.t rfl) rfl ty82 rfl rfl rfl ?_
  refine W.nil ?_
  refine W.then ?_
  refine W.region ?_
  refine W.q (Ev.move (.t rfl)) rfl ?_
  refine W.q (Ev.nilc (.t rfl)) rfl ?_
  first | refine W.q (Ev.fae (.t rfl) fa84_2 rfl) rfl ?_ | refine W.q (Ev.fab (.t rfl) fa84_2) rfl ?_ | refine W.q (Ev.faa (.t rfl) fa84_2) rfl ?_
  first | refine W.stb 0 (.t rfl) .k rfl ty23 rfl rfl rfl ?_ | refine W.stb 1 (.t rfl) .k rfl ty23 rfl rfl rfl ?_ | refine W.stb 2 (.t rfl) .k rfl ty23 rfl rfl rfl ?_
  refine W.nil ?_
  refine W.endn (M' := [.box b 84 [.lit (.int .u32 0), .lit (.int .i32 1), .lit (.int .u32 0), .lit (.iface 107 (.pointer (some ⟨(b11, z).1, 0, none⟩))), .lit (.slice none 0 0)], .box b11 106 (Url.rowF (Url.Fz 3 z) (.sl 1 (Url.tlr.map AV.str)))]) (D := []) (rs := []) (avs := []) Tryz.results37 trivial rfl (.refl _) ?_
  exact ⟨rfl, (b11, z), rfl⟩

theorem c_NewReplacer : FnC Tryz.prog 27 [.sl 1 (Url.six.map AV.str)] [] (fun r M => ∃ b, r = .lit (.pointer (some ⟨b, 0, none⟩)) ∧ M = [.box b 84 [.lit (.int .u32 0), .lit (.int .i32 0), .lit (.int .u32 0), .lit .nilIface, .sl 1 (Url.six.map AV.str)]]) :=  by
  refine FnC.mk Tryz.func27 (by kernel_rfl) rfl Tryz.ntmps27 rfl (fun w0 F => ?_)
  refine W.seq ?_
  refine W.region ?_
  refine W.q (Ev.assign .k) rfl ?_
  refine W.nil ?_
  refine W.then ?_
  refine W.seq ?_
  refine W.seq ?_
  refine W.region ?_
  refine W.q (Ev.move (.t rfl)) rfl ?_
  first | refine W.q (Ev.lensl (.t rfl) Tryz.underlying23) rfl ?_ | refine W.q (Ev.lenar (i := 0) (.t rfl) rfl Tryz.underlying23) rfl ?_ | refine W.q (Ev.lenar (i := 1) (.t rfl) rfl Tryz.underlying23) rfl ?_ | refine W.q (Ev.lenar (i := 2) (.t rfl) rfl Tryz.underlying23) rfl ?_ | refine W.q (Ev.lenar (i := 3) (.t rfl) rfl Tryz.underlying23) rfl ?_
  first | refine W.q (Ev.rem (.t rfl) .k (fun _ => by decide)) rfl ?_ | refine W.q (Ev.rem (.t rfl) .k (fun _ => by omega)) rfl ?_
  refine W.q (Ev.eqi (.t rfl) .k) rfl ?_
  refine W.nil ?_
  refine W.then ?_
  refine W.is (t := 6) (g := true) (av' := .lit (.bool false)) rfl (congrArg (fun b => AV.lit (.bool b)) (by decide)) ?_
  refine W.condF (.t rfl) ?_
  refine W.skip ?_
  refine W.then ?_
  refine W.seq ?_
  refine W.region ?_
  refine W.q (Ev.move (.t rfl)) rfl ?_
  first | refine W.appn .k (.sl (.t rfl) (okc_strs Url.six)) Tryz.underlying23 ni23 ty9 rfl rfl (by decide) rfl ?_ | refine W.appn .k (.arr 0 (.t rfl) rfl (okc_strs Url.six)) Tryz.underlying23 ni23 ty9 rfl rfl (by decide) rfl ?_ | refine W.appn .k (.arr 1 (.t rfl) rfl (okc_strs Url.six)) Tryz.underlying23 ni23 ty9 rfl rfl (by decide) rfl ?_ | refine W.appn .k (.arr 2 (.t rfl) rfl (okc_strs Url.six)) Tryz.underlying23 ni23 ty9 rfl rfl (by decide) rfl ?_ | refine W.appn .k (.arr 3 (.t rfl) rfl (okc_strs Url.six)) Tryz.underlying23 ni23 ty9 rfl rfl (by decide) rfl ?_
  intro v9
  refine W.freezeA (M1 := []) (M2 := []) (D := []) (v := v9) (L' := [(9, true, .sl 1 (Url.six.map AV.str))]) (.refl _) ⟨⟨_, rfl, .one .hit⟩, trivial⟩ (FrzMs.refl _) ?_
  refine W.q (Ev.build ty84 st84 rfl (fun hg => ⟨_, _, _, rfl, (.t rfl), rfl, rfl, rfl, rfl⟩)) rfl ?_
  refine W.box (.t rfl) rfl rfl ?_
  intro b11
  refine W.q (Ev.assign (.t rfl)) rfl ?_
  refine W.nil ?_
  refine W.then ?_
  refine W.ret ?_
  refine W.retn (M' := [.box b11 84 [.lit (.int .u32 0), .lit (.int .i32 0), .lit (.int .u32 0), .lit .nilIface, .sl 1 (Url.six.map AV.str)]]) (D := []) (rs := [.tmp 2]) (avs := [_]) Tryz.results27 ⟨rfl, trivial⟩ rfl (.refl _) ?_
  exact ⟨b11, rfl, rfl⟩

theorem c_Count (s : List UInt8) (c : UInt8) : FnP Tryz.prog 117 [.str s, .str [c]] (.int (s.count c : Int)) :=  by
  refine FnC.mk Tryz.func117 (by kernel_rfl) rfl Tryz.ntmps117 rfl (fun w0 F => ?_)
  refine W.seq ?_
  refine W.region ?_
  refine W.q (Ev.assign .k) rfl ?_
  refine W.nil ?_
  refine W.then ?_
  refine W.seq ?_
  refine W.seq ?_
  refine W.region ?_
  refine W.q (Ev.move (.t rfl)) rfl ?_
  refine W.q (Ev.lens (.t rfl) Tryz.underlying9) rfl ?_
  refine W.q (Ev.eqi (.t rfl) .k) rfl ?_
  refine W.nil ?_
  refine W.then ?_
  refine W.is (t := 9) (g := true) (av' := .lit (.bool false)) rfl (congrArg (fun b => AV.lit (.bool b)) (by rfl)) ?_
  refine W.condF (.t rfl) ?_
  refine W.skip ?_
  refine W.then ?_
  refine W.seq ?_
  refine W.seq ?_
  refine W.region ?_
  refine W.q (Ev.move (.t rfl)) rfl ?_
  refine W.q (Ev.lens (.t rfl) Tryz.underlying9) rfl ?_
  refine W.q (Ev.eqi (.t rfl) .k) rfl ?_
  refine W.nil ?_
  refine W.then ?_
  refine W.is (t := 15) (g := true) (av' := .lit (.bool true)) rfl (congrArg (fun b => AV.lit (.bool b)) (by rfl)) ?_
  refine W.condT (.t rfl) ?_
  refine W.seq ?_
  refine W.region ?_
  refine W.q (Ev.move (.t rfl)) rfl ?_
  refine W.q (Ev.move (.t rfl)) rfl ?_
  refine W.q (Ev.ats' (.t rfl) .k Tryz.underlying9 (fun hg => by simp)) rfl ?_
  refine W.is (t := 18) (g := true) (av' := AV.u8 c) rfl rfl ?_
  refine W.q (Ev.cnt (fn := Tryz.f119) Tryz.func119 rfl rfl rfl rfl (.t rfl) (.t rfl)) rfl ?_
  refine W.q (Ev.assign (.t rfl)) rfl ?_
  refine W.nil ?_
  refine W.then ?_
  refine W.ret ?_
  refine W.then_ret ?_
  refine W.retn (M' := []) (rs := [.tmp 4]) (avs := [_]) Tryz.results117 ⟨rfl, trivial⟩ rfl (.refl _) ?_
  exact ⟨rfl, rfl⟩

end WRepl

end Go.Proofs.YtgjndpgcpohnoaaGreatDoor
end

section
set_option linter.unusedVariables false
set_option linter.unusedSimpArgs false
set_option maxRecDepth 100000
namespace Go.Proofs.YtgjndpgcpohnoaaGreatDoor
open Go.Vl

namespace WRepB
theorem ty5 : Ty Tryz.prog 5 1 1 (.int .u8 0) := Ty.of (by kernel_rfl)
theorem ty9 : Ty Tryz.prog 9 1 16 (.string ⟨#[]⟩) := Ty.of (by kernel_rfl)
theorem ty23 : Ty Tryz.prog 23 1 24 (.slice none 0 0) := Ty.of (by kernel_rfl)
theorem ty61 : Ty Tryz.prog 61 1 24 (.slice none 0 0) := Ty.of (by kernel_rfl)
theorem ty104 : Ty Tryz.prog 104 256 6144 (.agg #[.slice none 0 0, .slice none 0 0, .slice none 0 0, .slice none 0 0, .slice none 0 0, .slice none 0 0, .slice none 0 0, .slice none 0 0, .slice none 0 0, .slice none 0 0, .slice none 0 0, .slice none 0 0, .slice none 0 0, .slice none 0 0, .slice none 0 0, .slice none 0 0, .slice none 0 0, .slice none 0 0, .slice none 0 0, .slice none 0 0, .slice none 0 0, .slice none 0 0, .slice none 0 0, .slice none 0 0, .slice none 0 0, .slice none 0 0, .slice none 0 0, .slice none 0 0, .slice none 0 0, .slice none 0 0, .slice none 0 0, .slice none 0 0, .slice none 0 0, .slice none 0 0, .slice none 0 0, .slice none 0 0, .slice none 0 0, .slice none 0 0, .slice none 0 0, .slice none 0 0, .slice none 0 0, .slice none 0 0, .slice none 0 0, .slice none 0 0, .slice none 0 0, .slice none 0 0, .slice none 0 0, .slice none 0 0, .slice none 0 0, .slice none 0 0, .slice none 0 0, .slice none 0 0, .slice none 0 0, .slice none 0 0, .slice none 0 0, .slice none 0 0, .slice none 0 0, .slice none 0 0, .slice none 0 0, .slice none 0 0, .slice none 0 0, .slice none 0 0, .slice none 0 0, .slice none 0 0, .slice none 0 0, .slice none 0 0, .slice none 0 0, .slice none 0 0, .slice none 0 0, .slice none 0 0, .slice none 0 0, .slice none 0 0, .slice none 0 0, .slice none 0 0, .slice none 0 0, .slice none 0 0, .slice none 0 0, .slice none 0 0, .slice none 0 0, .slice none 0 0, .slice none 0 0, .slice none 0 0, .slice none 0 0, .slice none 0 0, .slice none 0 0, .slice none 0 0, .slice none 0 0, .slice none 0 0, .slice none 0 0, .slice none 0 0, .slice none 0 0, .slice none 0 0, .slice none 0 0, .slice none 0 0, .slice none 0 0, .slice none 0 0, .slice none 0 0, .slice none 0 0, .slice none 0 0, .slice none 0 0, .slice none 0 0, .slice none 0 0, .slice none 0 0, .slice none 0 0, .slice none 0 0, .slice none 0 0, .slice none 0 0, .slice none 0 0, .slice none 0 0, .slice none 0 0, .slice none 0 0, .slice none 0 0, .slice none 0 0, .slice none 0 0, .slice none 0 0, .slice none 0 0, .slice none 0 0, .slice none 0 0, .slice none 0 0, .slice none 0 0, .slice none 0 0, .slice none 0 0, .slice none 0 0, .slice none 0 0, .slice none 0 0, .slice none 0 0, .slice none 0 0, .slice none 0 0, .slice none 0 0, .slice none 0 0, .slice none 0 0, .slice none 0 0, .slice none 0 0, .slice none 0 0, .slice none 0 0, .slice none 0 0, .slice none 0 0, .slice none 0 0, .slice none 0 0, .slice none 0 0, .slice none 0 0, .slice none 0 0, .slice none 0 0, .slice none 0 0, .slice none 0 0, .slice none 0 0, .slice none 0 0, .slice none 0 0, .slice none 0 0, .slice none 0 0, .slice none 0 0, .slice none 0 0, .slice none 0 0, .slice none 0 0, .slice none 0 0, .slice none 0 0, .slice none 0 0, .slice none 0 0, .slice none 0 0, .slice none 0 0, .slice none 0 0, .slice none 0 0, .slice none 0 0, .slice none 0 0, .slice none 0 0, .slice none 0 0, .slice none 0 0, .slice none 0 0, .slice none 0 0, .slice none 0 0, .slice none 0 0, .slice none 0 0, .slice none 0 0, .slice none 0 0, .slice none 0 0, .slice none 0 0, .slice none 0 0, .slice none 0 0, .slice none 0 0, .slice none 0 0, .slice none 0 0, .slice none 0 0, .slice none 0 0, .slice none 0 0, .slice none 0 0, .slice none 0 0, .slice none 0 0, .slice none 0 0, .slice none 0 0, .slice none 0 0, .slice none 0 0, .slice none 0 0, .slice none 0 0, .slice none 0 0, .slice none 0 0, .slice none 0 0, .slice none 0 0, .slice none 0 0, .slice none 0 0, .slice none 0 0, .slice none 0 0, .slice none 0 0, .slice none 0 0, .slice none 0 0, .slice none 0 0, .slice none 0 0, .slice none 0 0, .slice none 0 0, .slice none 0 0, .slice none 0 0, .slice none 0 0, .slice none 0 0, .slice none 0 0, .slice none 0 0, .slice none 0 0, .slice none 0 0, .slice none 0 0, .slice none 0 0, .slice none 0 0, .slice none 0 0, .slice none 0 0, .slice none 0 0, .slice none 0 0, .slice none 0 0, .slice none 0 0, .slice none 0 0, .slice none 0 0, .slice none 0 0, .slice none 0 0, .slice none 0 0, .slice none 0 0, .slice none 0 0, .slice none 0 0, .slice none 0 0, .slice none 0 0, .slice none 0 0, .slice none 0 0, .slice none 0 0, .slice none 0 0, .slice none 0 0, .slice none 0 0, .slice none 0 0, .slice none 0 0, .slice none 0 0, .slice none 0 0, .slice none 0 0, .slice none 0 0, .slice none 0 0, .slice none 0 0, .slice none 0 0, .slice none 0 0, .slice none 0 0, .slice none 0 0, .slice none 0 0, .slice none 0 0, .slice none 0 0]) := Ty.of (by kernel_rfl)
theorem ag9 : IsAgg Tryz.prog 9 false := ⟨_, Tryz.underlying9, rfl⟩
theorem ag23 : IsAgg Tryz.prog 23 false := ⟨_, Tryz.underlying23, rfl⟩
theorem ag61 : IsAgg Tryz.prog 61 false := ⟨_, Tryz.underlying61, rfl⟩
theorem ag104 : IsAgg Tryz.prog 104 true := ⟨_, Tryz.underlying104, rfl⟩
theorem fa106_0 : FieldAt Tryz.prog 106 0 0 256 true := ⟨_, _, Tryz.underlying106, rfl, rfl, ty104.size, ag104, by decide⟩
theorem fa106_1 : FieldAt Tryz.prog 106 1 256 1 false := ⟨_, _, Tryz.underlying106, rfl, rfl, ty23.size, ag23, by decide⟩
theorem c_Replace (s : List UInt8) (hs : s.length ≤ 1099511627776) (b : Nat) (z : Nat → Nat × Nat) : FnC Tryz.prog 115 [.lit (.pointer (some ⟨b, 0, none⟩)), .str s] [.box b 106 (Url.rowF (Url.Fz 3 z) (.sl 1 (Url.tlr.map AV.str)))] (fun r M => r = .str (Url.rm s) ∧ M = [.box b 106 (Url.rowF (Url.Fz 3 z) (.sl 1 (Url.tlr.map AV.str)))]) :=  by
  refine FnC.mk Tryz.func115 (by kernel_rfl) rfl Tryz.ntmps115 rfl (fun w0 F => ?_)
  have hrl0 := Url.rm_len s
  refine W.seq ?_
  refine W.region ?_
  refine W.q (Ev.assign .k) rfl ?_
  refine W.nil ?_
  refine W.then ?_
  refine W.seq ?_
  refine W.region ?_
  refine W.q (Ev.move (.t rfl)) rfl ?_
  refine W.q (Ev.lens (.t rfl) Tryz.underlying9) rfl ?_
  refine W.q (Ev.assign (.t rfl)) rfl ?_
  refine W.nil ?_
  refine W.then ?_
  refine W.seq ?_
  refine W.region ?_
  refine W.q (Ev.assign .k) rfl ?_
  refine W.nil ?_
  refine W.then ?_
  refine W.seq ?_
  refine W.seq ?_
  refine W.region ?_
  refine W.q (Ev.move (.t rfl)) rfl ?_
  refine W.q (Ev.nilc (.t rfl)) rfl ?_
  first | refine W.q (Ev.fae (.t rfl) fa106_1 rfl) rfl ?_ | refine W.q (Ev.fab (.t rfl) fa106_1) rfl ?_ | refine W.q (Ev.faa (.t rfl) fa106_1) rfl ?_
  refine W.q (Ev.ldb1 0 (c := .sl 1 (Url.tlr.map AV.str)) (.t rfl) rfl ag23 (Url.rowF_last _ _)) rfl ?_
  first | refine W.q (Ev.lensl (.t rfl) Tryz.underlying23) rfl ?_ | refine W.q (Ev.lenar (i := 0) (.t rfl) rfl Tryz.underlying23) rfl ?_ | refine W.q (Ev.lenar (i := 1) (.t rfl) rfl Tryz.underlying23) rfl ?_ | refine W.q (Ev.lenl (.t rfl) Tryz.underlying23) rfl ?_
  first | refine W.q (Ev.mul (.t rfl) .k (fun _ => by omega)) rfl ?_ | refine W.q (Ev.mulw (.t rfl) .k) rfl ?_
  refine W.q (Ev.move (.t rfl)) rfl ?_
  refine W.q (Ev.lens (.t rfl) Tryz.underlying9) rfl ?_
  refine W.q (Ev.lei (.t rfl) (.t rfl)) rfl ?_
  refine W.nil ?_
  refine W.then ?_
  refine W.cond (.t rfl) (fun hc_t26 => ?_) (fun hc_t26 => ?_)
  · refine W.seq ?_
    refine W.region ?_
    refine W.q (Ev.move (.t rfl)) rfl ?_
    refine W.q (Ev.nilc (.t rfl)) rfl ?_
    first | refine W.q (Ev.fae (.t rfl) fa106_1 rfl) rfl ?_ | refine W.q (Ev.fab (.t rfl) fa106_1) rfl ?_ | refine W.q (Ev.faa (.t rfl) fa106_1) rfl ?_
    refine W.q (Ev.ldb1 0 (c := .sl 1 (Url.tlr.map AV.str)) (.t rfl) rfl ag23 (Url.rowF_last _ _)) rfl ?_
    first | refine W.q (Ev.lensl (.t rfl) Tryz.underlying23) rfl ?_ | refine W.q (Ev.lenar (i := 0) (.t rfl) rfl Tryz.underlying23) rfl ?_ | refine W.q (Ev.lenar (i := 1) (.t rfl) rfl Tryz.underlying23) rfl ?_ | refine W.q (Ev.lenl (.t rfl) Tryz.underlying23) rfl ?_
    refine W.q (Ev.move .k) rfl ?_
    refine W.nil ?_
    refine W.then ?_
    refine W.block ?_
    refine W.loop (D := []) (ι := Nat) (fun k => [(32, true, .int (k : Int)), (31, true, .int ((Url.tlr.map AV.str).length : Int)), (30, true, .sl 1 (Url.tlr.map AV.str)), (5, true, .int (if k = 0 then (s.length : Int) else if k = 1 then ((s.length : Int) - (s.count 13 : Int)) else if k = 2 then ((s.length : Int) - (s.count 13 : Int) - (s.count 10 : Int)) else ((s.length : Int) - (s.count 13 : Int) - (s.count 10 : Int) - (s.count 9 : Int)))), (6, true, .bool (if k = 0 then false else if k = 1 then (decide (0 < s.count 13)) else if k = 2 then (decide (0 < s.count 13 + s.count 10)) else (decide (0 < s.count 13 + s.count 10 + s.count 9)))), (0, true, .lit (.pointer (some ⟨b, 0, none⟩))), (1, true, .str s)]) (fun _ => [.box b 106 (Url.rowF (Url.Fz 3 z) (.sl 1 (Url.tlr.map AV.str)))]) (fun k => k ≤ 3) (fun k => 3 - k) 0 ⟨rfl, rfl, rfl, rfl, rfl, rfl, rfl, trivial⟩ (.refl _) (by decide) ?_
    intro k hk
    dsimp only at hk ⊢
    rcases (show k = 0 ∨ k = 1 ∨ k = 2 ∨ k = 3 from by omega) with rfl | rfl | rfl | rfl
    · have hkc : (s.count 13 : Int) ≤ s.length := by have := List.count_le_length (a := (13 : UInt8)) (l := s); omega
      refine W.is (t := 5) (g := true) (av' := .int (s.length : Int)) rfl (rfl) ?_
      refine W.is (t := 6) (g := true) (av' := .bool false) rfl (rfl) ?_
      refine W.seq ?_
      refine W.region ?_
      refine W.q (Ev.lti (.t rfl) (.t rfl)) rfl ?_
      refine W.nil ?_
      refine W.then ?_
      refine W.seq ?_
      refine W.is (t := 33) (g := true) (av' := .lit (.bool true)) rfl (congrArg (fun b => AV.lit (.bool b)) (by decide)) ?_
      refine W.condT (.t rfl) ?_
      refine W.skip ?_
      refine W.then ?_
      refine W.seq ?_
      refine W.block ?_
      refine W.seq ?_
      refine W.region ?_
      refine W.q (Ev.at (E := 9) (e := AV.str [13]) (.t rfl) (.t rfl) Tryz.underlying23 ty9 (fun _ => ⟨by decide, rfl⟩) rfl rfl) rfl ?_
      first | refine W.q (Ev.lde1 (.t rfl) ag9) rfl ?_ | refine W.q (Ev.ldb1 0 (.t rfl) rfl ag9 rfl) rfl ?_ | refine W.q (Ev.ldb1 1 (.t rfl) rfl ag9 rfl) rfl ?_
      refine W.q (Ev.assign (.t rfl)) rfl ?_
      refine W.nil ?_
      refine W.then ?_
      refine W.seq ?_
      refine W.region ?_
      refine W.q (Ev.move (.t rfl)) rfl ?_
      refine W.q (Ev.move (.t rfl)) rfl ?_
      refine W.callp (WRepl.c_Count s 13) ⟨(.t rfl), (.t rfl), trivial⟩ rfl ?_
      refine W.q (Ev.assign (.t rfl)) rfl ?_
      refine W.nil ?_
      refine W.then ?_
      refine W.seq ?_
      refine W.region ?_
      refine W.q (Ev.move (.t rfl)) rfl ?_
      refine W.q (Ev.nei (.t rfl) .k) rfl ?_
      refine W.nil ?_
      refine W.then ?_
      refine W.cond (.t rfl) (fun hc_t40 => ?_) (fun hc_t40 => ?_)
      · have hc0 : s.count 13 ≠ 0 := by intro h; rw [h] at hc_t40; simp at hc_t40
        refine W.seq ?_
        refine W.drawn (by kernel_rfl) (by kernel_rfl) ?_
        refine DP.q (Ev.move (.t rfl)) rfl ?_
        refine DP.q (Ev.move (.t rfl)) rfl ?_
        refine DP.q (Ev.move (.t rfl)) rfl ?_
        refine DP.q (Ev.move (.t rfl)) rfl ?_
        refine DP.q (av := AV.u8 13) (Ev.ats' (l := [13]) (.t rfl) .k Tryz.underlying9 (fun hg => by decide)) rfl ?_
        refine DP.q (Ev.nilc (.t rfl)) rfl ?_
        first | refine DP.q (Ev.fae (.t rfl) fa106_0 rfl) rfl ?_ | refine DP.q (Ev.fab (.t rfl) fa106_0) rfl ?_ | refine DP.q (Ev.faa (.t rfl) fa106_0) rfl ?_
        refine DP.q (Ev.boxat (.t rfl) (.t rfl) Tryz.underlying104 ty61 (fun _ => by decide)) rfl ?_
        refine DP.q (Ev.ldb1 0 (c := Url.slA (z 13)) (.t rfl) rfl ag61 (Url.rowF_get _ _ 13 (by decide))) rfl ?_
        first | refine DP.q (Ev.lensl (.t rfl) Tryz.underlying61) rfl ?_ | refine DP.q (Ev.lenar (i := 0) (.t rfl) rfl Tryz.underlying61) rfl ?_ | refine DP.q (Ev.lenar (i := 1) (.t rfl) rfl Tryz.underlying61) rfl ?_ | refine DP.q (Ev.lenl (.t rfl) Tryz.underlying61) rfl ?_
        first | refine DP.q (Ev.sub (.t rfl) .k (fun _ => by omega)) rfl ?_ | refine DP.q (Ev.subw (.t rfl) .k) rfl ?_
        first | refine DP.q (Ev.mul (.t rfl) (.t rfl) (fun _ => by omega)) rfl ?_ | refine DP.q (Ev.mulw (.t rfl) (.t rfl)) rfl ?_
        first | refine DP.q (Ev.add (.t rfl) (.t rfl) (fun _ => by omega)) rfl ?_ | refine DP.q (Ev.addw (.t rfl) (.t rfl)) rfl ?_
        refine DP.q (Ev.assign (.t rfl)) rfl ?_
        refine DP.nil ?_
        refine W.then ?_
        refine W.region ?_
        refine W.q (Ev.assign .k) rfl ?_
        refine W.nil ?_
        refine W.blk_normal ?_
        refine W.then ?_
        refine W.region ?_
        first | refine W.q (Ev.add (.t rfl) .k (fun _ => by omega)) rfl ?_ | refine W.q (Ev.addw (.t rfl) .k) rfl ?_
        refine W.q (Ev.move (.t rfl)) rfl ?_
        refine W.nil ?_
        refine W.then ?_
        refine W.is (t := 5) (g := true) (av' := .int ((s.length : Int) - (s.count 13 : Int))) rfl (congrArg AV.int (by show (s.length : Int) + _ = _; omega)) ?_
        refine W.is (t := 6) (g := true) (av' := .bool (decide (0 < s.count 13))) rfl (congrArg AV.bool (decide_eq_true (by omega)).symm) ?_
        refine W.reach (D := []) 1 ⟨rfl, rfl, rfl, rfl, rfl, rfl, rfl, trivial⟩ (.refl _) ⟨by decide, by decide⟩
      · have hc0 : s.count 13 = 0 := by simpa using hc_t40
        refine W.skip ?_
        refine W.blk_normal ?_
        refine W.then ?_
        refine W.region ?_
        first | refine W.q (Ev.add (.t rfl) .k (fun _ => by omega)) rfl ?_ | refine W.q (Ev.addw (.t rfl) .k) rfl ?_
        refine W.q (Ev.move (.t rfl)) rfl ?_
        refine W.nil ?_
        refine W.then ?_
        refine W.is (t := 5) (g := true) (av' := .int ((s.length : Int) - (s.count 13 : Int))) rfl (congrArg AV.int (by show (s.length : Int) = _; omega)) ?_
        refine W.is (t := 6) (g := true) (av' := .bool (decide (0 < s.count 13))) rfl (congrArg AV.bool (by show false = _; rw [hc0]; first | rfl | simp)) ?_
        refine W.reach (D := []) 1 ⟨rfl, rfl, rfl, rfl, rfl, rfl, rfl, trivial⟩ (.refl _) ⟨by decide, by decide⟩
    · have hkc : (s.count 10 : Int) ≤ s.length := by have := List.count_le_length (a := (10 : UInt8)) (l := s); omega
      refine W.is (t := 5) (g := true) (av' := .int ((s.length : Int) - (s.count 13 : Int))) rfl (rfl) ?_
      refine W.is (t := 6) (g := true) (av' := .bool (decide (0 < s.count 13))) rfl (rfl) ?_
      refine W.seq ?_
      refine W.region ?_
      refine W.q (Ev.lti (.t rfl) (.t rfl)) rfl ?_
      refine W.nil ?_
      refine W.then ?_
      refine W.seq ?_
      refine W.is (t := 33) (g := true) (av' := .lit (.bool true)) rfl (congrArg (fun b => AV.lit (.bool b)) (by decide)) ?_
      refine W.condT (.t rfl) ?_
      refine W.skip ?_
      refine W.then ?_
      refine W.seq ?_
      refine W.block ?_
      refine W.seq ?_
      refine W.region ?_
      refine W.q (Ev.at (E := 9) (e := AV.str [10]) (.t rfl) (.t rfl) Tryz.underlying23 ty9 (fun _ => ⟨by decide, rfl⟩) rfl rfl) rfl ?_
      first | refine W.q (Ev.lde1 (.t rfl) ag9) rfl ?_ | refine W.q (Ev.ldb1 0 (.t rfl) rfl ag9 rfl) rfl ?_ | refine W.q (Ev.ldb1 1 (.t rfl) rfl ag9 rfl) rfl ?_
      refine W.q (Ev.assign (.t rfl)) rfl ?_
      refine W.nil ?_
      refine W.then ?_
      refine W.seq ?_
      refine W.region ?_
      refine W.q (Ev.move (.t rfl)) rfl ?_
      refine W.q (Ev.move (.t rfl)) rfl ?_
      refine W.callp (WRepl.c_Count s 10) ⟨(.t rfl), (.t rfl), trivial⟩ rfl ?_
      refine W.q (Ev.assign (.t rfl)) rfl ?_
      refine W.nil ?_
      refine W.then ?_
      refine W.seq ?_
      refine W.region ?_
      refine W.q (Ev.move (.t rfl)) rfl ?_
      refine W.q (Ev.nei (.t rfl) .k) rfl ?_
      refine W.nil ?_
      refine W.then ?_
      refine W.cond (.t rfl) (fun hc_t40 => ?_) (fun hc_t40 => ?_)
      · have hc0 : s.count 10 ≠ 0 := by intro h; rw [h] at hc_t40; simp at hc_t40
        refine W.seq ?_
        refine W.drawn (by kernel_rfl) (by kernel_rfl) ?_
        refine DP.q (Ev.move (.t rfl)) rfl ?_
        refine DP.q (Ev.move (.t rfl)) rfl ?_
        refine DP.q (Ev.move (.t rfl)) rfl ?_
        refine DP.q (Ev.move (.t rfl)) rfl ?_
        refine DP.q (av := AV.u8 10) (Ev.ats' (l := [10]) (.t rfl) .k Tryz.underlying9 (fun hg => by decide)) rfl ?_
        refine DP.q (Ev.nilc (.t rfl)) rfl ?_
        first | refine DP.q (Ev.fae (.t rfl) fa106_0 rfl) rfl ?_ | refine DP.q (Ev.fab (.t rfl) fa106_0) rfl ?_ | refine DP.q (Ev.faa (.t rfl) fa106_0) rfl ?_
        refine DP.q (Ev.boxat (.t rfl) (.t rfl) Tryz.underlying104 ty61 (fun _ => by decide)) rfl ?_
        refine DP.q (Ev.ldb1 0 (c := Url.slA (z 10)) (.t rfl) rfl ag61 (Url.rowF_get _ _ 10 (by decide))) rfl ?_
        first | refine DP.q (Ev.lensl (.t rfl) Tryz.underlying61) rfl ?_ | refine DP.q (Ev.lenar (i := 0) (.t rfl) rfl Tryz.underlying61) rfl ?_ | refine DP.q (Ev.lenar (i := 1) (.t rfl) rfl Tryz.underlying61) rfl ?_ | refine DP.q (Ev.lenl (.t rfl) Tryz.underlying61) rfl ?_
        first | refine DP.q (Ev.sub (.t rfl) .k (fun _ => by omega)) rfl ?_ | refine DP.q (Ev.subw (.t rfl) .k) rfl ?_
        first | refine DP.q (Ev.mul (.t rfl) (.t rfl) (fun _ => by omega)) rfl ?_ | refine DP.q (Ev.mulw (.t rfl) (.t rfl)) rfl ?_
        first | refine DP.q (Ev.add (.t rfl) (.t rfl) (fun _ => by omega)) rfl ?_ | refine DP.q (Ev.addw (.t rfl) (.t rfl)) rfl ?_
        refine DP.q (Ev.assign (.t rfl)) rfl ?_
        refine DP.nil ?_
        refine W.then ?_
        refine W.region ?_
        refine W.q (Ev.assign .k) rfl ?_
        refine W.nil ?_
        refine W.blk_normal ?_
        refine W.then ?_
        refine W.region ?_
        first | refine W.q (Ev.add (.t rfl) .k (fun _ => by omega)) rfl ?_ | refine W.q (Ev.addw (.t rfl) .k) rfl ?_
        refine W.q (Ev.move (.t rfl)) rfl ?_
        refine W.nil ?_
        refine W.then ?_
        refine W.is (t := 5) (g := true) (av' := .int ((s.length : Int) - (s.count 13 : Int) - (s.count 10 : Int))) rfl (congrArg AV.int (by show ((s.length : Int) - (s.count 13 : Int)) + _ = _; omega)) ?_
        refine W.is (t := 6) (g := true) (av' := .bool (decide (0 < s.count 13 + s.count 10))) rfl (congrArg AV.bool (decide_eq_true (by omega)).symm) ?_
        refine W.reach (D := []) 2 ⟨rfl, rfl, rfl, rfl, rfl, rfl, rfl, trivial⟩ (.refl _) ⟨by decide, by decide⟩
      · have hc0 : s.count 10 = 0 := by simpa using hc_t40
        refine W.skip ?_
        refine W.blk_normal ?_
        refine W.then ?_
        refine W.region ?_
        first | refine W.q (Ev.add (.t rfl) .k (fun _ => by omega)) rfl ?_ | refine W.q (Ev.addw (.t rfl) .k) rfl ?_
        refine W.q (Ev.move (.t rfl)) rfl ?_
        refine W.nil ?_
        refine W.then ?_
        refine W.is (t := 5) (g := true) (av' := .int ((s.length : Int) - (s.count 13 : Int) - (s.count 10 : Int))) rfl (congrArg AV.int (by show ((s.length : Int) - (s.count 13 : Int)) = _; omega)) ?_
        refine W.is (t := 6) (g := true) (av' := .bool (decide (0 < s.count 13 + s.count 10))) rfl (congrArg AV.bool (by show (decide (0 < s.count 13)) = _; rw [hc0]; first | rfl | simp)) ?_
        refine W.reach (D := []) 2 ⟨rfl, rfl, rfl, rfl, rfl, rfl, rfl, trivial⟩ (.refl _) ⟨by decide, by decide⟩
    · have hkc : (s.count 9 : Int) ≤ s.length := by have := List.count_le_length (a := (9 : UInt8)) (l := s); omega
      refine W.is (t := 5) (g := true) (av' := .int ((s.length : Int) - (s.count 13 : Int) - (s.count 10 : Int))) rfl (rfl) ?_
      refine W.is (t := 6) (g := true) (av' := .bool (decide (0 < s.count 13 + s.count 10))) rfl (rfl) ?_
      refine W.seq ?_
      refine W.region ?_
      refine W.q (Ev.lti (.t rfl) (.t rfl)) rfl ?_
      refine W.nil ?_
      refine W.then ?_
      refine W.seq ?_
      refine W.is (t := 33) (g := true) (av' := .lit (.bool true)) rfl (congrArg (fun b => AV.lit (.bool b)) (by decide)) ?_
      refine W.condT (.t rfl) ?_
      refine W.skip ?_
      refine W.then ?_
      refine W.seq ?_
      refine W.block ?_
      refine W.seq ?_
      refine W.region ?_
      refine W.q (Ev.at (E := 9) (e := AV.str [9]) (.t rfl) (.t rfl) Tryz.underlying23 ty9 (fun _ => ⟨by decide, rfl⟩) rfl rfl) rfl ?_
      first | refine W.q (Ev.lde1 (.t rfl) ag9) rfl ?_ | refine W.q (Ev.ldb1 0 (.t rfl) rfl ag9 rfl) rfl ?_ | refine W.q (Ev.ldb1 1 (.t rfl) rfl ag9 rfl) rfl ?_
      refine W.q (Ev.assign (.t rfl)) rfl ?_
      refine W.nil ?_
      refine W.then ?_
      refine W.seq ?_
      refine W.region ?_
      refine W.q (Ev.move (.t rfl)) rfl ?_
      refine W.q (Ev.move (.t rfl)) rfl ?_
      refine W.callp (WRepl.c_Count s 9) ⟨(.t rfl), (.t rfl), trivial⟩ rfl ?_
      refine W.q (Ev.assign (.t rfl)) rfl ?_
      refine W.nil ?_
      refine W.then ?_
      refine W.seq ?_
      refine W.region ?_
      refine W.q (Ev.move (.t rfl)) rfl ?_
      refine W.q (Ev.nei (.t rfl) .k) rfl ?_
      refine W.nil ?_
      refine W.then ?_
      refine W.cond (.t rfl) (fun hc_t40 => ?_) (fun hc_t40 => ?_)
      · have hc0 : s.count 9 ≠ 0 := by intro h; rw [h] at hc_t40; simp at hc_t40
        refine W.seq ?_
        refine W.drawn (by kernel_rfl) (by kernel_rfl) ?_
        refine DP.q (Ev.move (.t rfl)) rfl ?_
        refine DP.q (Ev.move (.t rfl)) rfl ?_
        refine DP.q (Ev.move (.t rfl)) rfl ?_
        refine DP.q (Ev.move (.t rfl)) rfl ?_
        refine DP.q (av := AV.u8 9) (Ev.ats' (l := [9]) (.t rfl) .k Tryz.underlying9 (fun hg => by decide)) rfl ?_
        refine DP.q (Ev.nilc (.t rfl)) rfl ?_
        first | refine DP.q (Ev.fae (.t rfl) fa106_0 rfl) rfl ?_ | refine DP.q (Ev.fab (.t rfl) fa106_0) rfl ?_ | refine DP.q (Ev.faa (.t rfl) fa106_0) rfl ?_
        refine DP.q (Ev.boxat (.t rfl) (.t rfl) Tryz.underlying104 ty61 (fun _ => by decide)) rfl ?_
        refine DP.q (Ev.ldb1 0 (c := Url.slA (z 9)) (.t rfl) rfl ag61 (Url.rowF_get _ _ 9 (by decide))) rfl ?_
        first | refine DP.q (Ev.lensl (.t rfl) Tryz.underlying61) rfl ?_ | refine DP.q (Ev.lenar (i := 0) (.t rfl) rfl Tryz.underlying61) rfl ?_ | refine DP.q (Ev.lenar (i := 1) (.t rfl) rfl Tryz.underlying61) rfl ?_ | refine DP.q (Ev.lenl (.t rfl) Tryz.underlying61) rfl ?_
        first | refine DP.q (Ev.sub (.t rfl) .k (fun _ => by omega)) rfl ?_ | refine DP.q (Ev.subw (.t rfl) .k) rfl ?_
        first | refine DP.q (Ev.mul (.t rfl) (.t rfl) (fun _ => by omega)) rfl ?_ | refine DP.q (Ev.mulw (.t rfl) (.t rfl)) rfl ?_
        first | refine DP.q (Ev.add (.t rfl) (.t rfl) (fun _ => by omega)) rfl ?_ | refine DP.q (Ev.addw (.t rfl) (.t rfl)) rfl ?_
        refine DP.q (Ev.assign (.t rfl)) rfl ?_
        refine DP.nil ?_
        refine W.then ?_
        refine W.region ?_
        refine W.q (Ev.assign .k) rfl ?_
        refine W.nil ?_
        refine W.blk_normal ?_
        refine W.then ?_
        refine W.region ?_
        first | refine W.q (Ev.add (.t rfl) .k (fun _ => by omega)) rfl ?_ | refine W.q (Ev.addw (.t rfl) .k) rfl ?_
        refine W.q (Ev.move (.t rfl)) rfl ?_
        refine W.nil ?_
        refine W.then ?_
        refine W.is (t := 5) (g := true) (av' := .int ((s.length : Int) - (s.count 13 : Int) - (s.count 10 : Int) - (s.count 9 : Int))) rfl (congrArg AV.int (by show ((s.length : Int) - (s.count 13 : Int) - (s.count 10 : Int)) + _ = _; omega)) ?_
        refine W.is (t := 6) (g := true) (av' := .bool (decide (0 < s.count 13 + s.count 10 + s.count 9))) rfl (congrArg AV.bool (decide_eq_true (by omega)).symm) ?_
        refine W.reach (D := []) 3 ⟨rfl, rfl, rfl, rfl, rfl, rfl, rfl, trivial⟩ (.refl _) ⟨by decide, by decide⟩
      · have hc0 : s.count 9 = 0 := by simpa using hc_t40
        refine W.skip ?_
        refine W.blk_normal ?_
        refine W.then ?_
        refine W.region ?_
        first | refine W.q (Ev.add (.t rfl) .k (fun _ => by omega)) rfl ?_ | refine W.q (Ev.addw (.t rfl) .k) rfl ?_
        refine W.q (Ev.move (.t rfl)) rfl ?_
        refine W.nil ?_
        refine W.then ?_
        refine W.is (t := 5) (g := true) (av' := .int ((s.length : Int) - (s.count 13 : Int) - (s.count 10 : Int) - (s.count 9 : Int))) rfl (congrArg AV.int (by show ((s.length : Int) - (s.count 13 : Int) - (s.count 10 : Int)) = _; omega)) ?_
        refine W.is (t := 6) (g := true) (av' := .bool (decide (0 < s.count 13 + s.count 10 + s.count 9))) rfl (congrArg AV.bool (by show (decide (0 < s.count 13 + s.count 10)) = _; rw [hc0]; first | rfl | simp)) ?_
        refine W.reach (D := []) 3 ⟨rfl, rfl, rfl, rfl, rfl, rfl, rfl, trivial⟩ (.refl _) ⟨by decide, by decide⟩
    · have hrl := Url.rm_len s
      refine W.is (t := 5) (g := true) (av' := .int ((s.length : Int) - (s.count 13 : Int) - (s.count 10 : Int) - (s.count 9 : Int))) rfl (rfl) ?_
      refine W.is (t := 6) (g := true) (av' := .bool (decide (0 < s.count 13 + s.count 10 + s.count 9))) rfl (rfl) ?_
      refine W.is (t := 5) (g := true) (av' := .int ((Url.rm s).length : Int)) rfl (congrArg AV.int (by show ((s.length : Int) - (s.count 13 : Int) - (s.count 10 : Int) - (s.count 9 : Int)) = _; omega)) ?_
      refine W.is (t := 6) (g := true) (av' := .bool (decide ((Url.rm s).length < s.length))) rfl (congrArg AV.bool (by show (decide (0 < s.count 13 + s.count 10 + s.count 9)) = _; rw [decide_eq_decide]; omega)) ?_
      refine W.seq ?_
      refine W.region ?_
      refine W.q (Ev.lti (.t rfl) (.t rfl)) rfl ?_
      refine W.nil ?_
      refine W.then ?_
      refine W.seq ?_
      refine W.is (t := 33) (g := true) (av' := .lit (.bool false)) rfl (congrArg (fun b => AV.lit (.bool b)) (by decide)) ?_
      refine W.condF (.t rfl) ?_
      refine W.exit ?_
      refine W.then_exit ?_
      refine W.then_exit ?_
      refine W.blk_hit ?_
      refine W.then ?_
      refine W.seq ?_
      refine W.seq ?_
      refine W.region ?_
      refine W.q (Ev.move (.t rfl)) rfl ?_
      refine W.q (Ev.not (.t rfl)) rfl ?_
      refine W.nil ?_
      refine W.then ?_
      refine W.cond (.t rfl) (fun hc_t82 => ?_) (fun hc_t82 => ?_)
      · have hsm : Url.rm s = s := Url.rm_same (by have h1 := Url.rm_len s; have h2 := of_decide_eq_false (show decide ((Url.rm s).length < s.length) = false from by simpa using hc_t82); omega)
        refine W.seq ?_
        refine W.region ?_
        refine W.q (Ev.move (.t rfl)) rfl ?_
        refine W.q (Ev.assign (.t rfl)) rfl ?_
        refine W.nil ?_
        refine W.then ?_
        refine W.ret ?_
        refine W.then_ret ?_
        refine W.retn (M' := [.box b 106 (Url.rowF (Url.Fz 3 z) (.sl 1 (Url.tlr.map AV.str)))]) (D := _) (rs := [.tmp 4]) (avs := [_]) Tryz.results115 ⟨rfl, trivial⟩ rfl (by first | exact .refl _ | exact List.perm_append_comm (l₁ := [_])) ?_
        first | exact ⟨rfl, rfl⟩ | exact ⟨congrArg AV.str hsm.symm, rfl⟩
      · refine W.skip ?_
        refine W.then ?_
        refine W.seq ?_
        refine W.region ?_
        refine W.q (Ev.move (.t rfl)) rfl ?_
        refine W.mk (n := (Url.rm s).length) (.t rfl) (.t rfl) Tryz.underlying61 ty5 rfl rfl rfl rfl rfl (by have := Url.rm_len s; omega) rfl ?_
        intro v12
        refine W.arr_len 0 rfl (fun a12 c12 h12 hc12 => ?_)
        rw [List.length_replicate] at h12 hc12
        subst h12
        refine W.q (Ev.assign (.t rfl)) rfl ?_
        refine W.nil ?_
        refine W.then ?_
        refine W.seq ?_
        refine W.region ?_
        refine W.q (Ev.assign .k) rfl ?_
        refine W.nil ?_
        refine W.then ?_
        refine W.seq ?_
        refine W.seq ?_
        refine W.region ?_
        refine W.q (Ev.assign .k) rfl ?_
        refine W.nil ?_
        refine W.then ?_
        refine W.block ?_
        refine W.perm (M' := [.arr (.slice a12 (Url.rm s).length c12) 5 1 (Url.bufV s 0), .box b 106 (Url.rowF (Url.Fz 3 z) (.sl 1 (Url.tlr.map AV.str)))]) (List.Perm.of_eq (by rw [Url.bufV_zero]; rfl)) ?_
        refine W.loop (D := []) (ι := Nat) (fun i => [(14, true, .int (i : Int)), (13, true, .int ((Url.rm (s.take i)).length : Int)), (12, true, .lit (.slice a12 (Url.rm s).length c12)), (0, true, .lit (.pointer (some ⟨b, 0, none⟩))), (1, true, .str s)]) (fun i => [.arr (.slice a12 (Url.rm s).length c12) 5 1 (Url.bufV s i), .box b 106 (Url.rowF (Url.Fz 3 z) (.sl 1 (Url.tlr.map AV.str)))]) (fun i => i ≤ s.length) (fun i => s.length - i) 0 ⟨rfl, rfl, rfl, rfl, rfl, trivial⟩ (.refl _) (Nat.zero_le _) ?_
        intro i hi
        dsimp only at hi ⊢
        rcases (show (i < s.length ∧ (Url.gone (s.getD i 0) = true ∧ Url.rm (s.take (i + 1)) = Url.rm (s.take i))) ∨ (i < s.length ∧ (Url.gone (s.getD i 0) = false ∧ Url.rm (s.take (i + 1)) = Url.rm (s.take i) ++ [s.getD i 0])) ∨ i = s.length from by rcases Nat.lt_or_ge i s.length with h | h; rcases Url.rm_step s i h with h2 | h2; exact .inl ⟨h, h2⟩; exact .inr (.inl ⟨h, h2⟩); exact .inr (.inr (by omega))) with ⟨hlt, hg, hrt⟩ | ⟨hlt, hg, hrt⟩ | hend
        · obtain ⟨c, hc⟩ : ∃ c, s.getD i 0 = c := ⟨_, rfl⟩
          rw [hc] at hg
          (try rw [hc] at hrt)
          have hc8 := c.toNat_lt
          have hl1 := Url.rm_take_len s i
          have hle := Url.rm_take_le s (i + 1)
          have hlen1 := congrArg List.length hrt
          have hle0 := Url.rm_take_le s i
          refine W.seq ?_
          refine W.seq ?_
          refine W.region ?_
          refine W.q (Ev.move (.t rfl)) rfl ?_
          refine W.q (Ev.move (.t rfl)) rfl ?_
          refine W.q (Ev.lens (.t rfl) Tryz.underlying9) rfl ?_
          refine W.q (Ev.lti (.t rfl) (.t rfl)) rfl ?_
          refine W.nil ?_
          refine W.then ?_
          refine W.is (t := 89) (g := true) (av' := .lit (.bool true)) rfl (congrArg (fun b => AV.lit (.bool b)) (by exact decide_eq_true (by omega))) ?_
          refine W.condT (.t rfl) ?_
          refine W.skip ?_
          refine W.then ?_
          refine W.seq ?_
          refine W.block ?_
          refine W.seq ?_
          refine W.region ?_
          refine W.q (Ev.move (.t rfl)) rfl ?_
          refine W.q (Ev.move (.t rfl)) rfl ?_
          refine W.q (Ev.ats' (.t rfl) (.t rfl) Tryz.underlying9 (fun hg => by omega)) rfl ?_
          refine W.is (t := 94) (g := true) (av' := AV.u8 c) rfl (by rw [show ((i : Int)).toNat = i from rfl, hc]) ?_
          refine W.q (Ev.assign (.t rfl)) rfl ?_
          refine W.nil ?_
          refine W.then ?_
          refine W.seq ?_
          refine W.region ?_
          refine W.q (Ev.move (.t rfl)) rfl ?_
          refine W.q (Ev.move (.t rfl)) rfl ?_
          refine W.q (Ev.nilc (.t rfl)) rfl ?_
          first | refine W.q (Ev.fae (.t rfl) fa106_0 rfl) rfl ?_ | refine W.q (Ev.fab (.t rfl) fa106_0) rfl ?_ | refine W.q (Ev.faa (.t rfl) fa106_0) rfl ?_
          refine W.q (Ev.boxat (.t rfl) (.t rfl) Tryz.underlying104 ty61 (fun _ => ⟨by omega, by omega⟩)) rfl ?_
          refine W.q (Ev.ldb1 1 (c := Url.slA (z c.toNat)) (.t rfl) rfl ag61 (by show (Url.rowF (Url.Fz 3 z) _)[c.toNat]? = _; rw [Url.rowF_get _ _ _ (by omega), Url.Fz_gone, hg]; rfl)) rfl ?_
          refine W.q (Ev.nenl (ad := some ⟨(z c.toNat).1, 0, none⟩) (n := 0) (c := (z c.toNat).2) (.t rfl) Tryz.underlying61) rfl ?_
          refine W.nil ?_
          refine W.then ?_
          refine W.is (t := 101) (g := true) (av' := .lit (.bool true)) rfl (congrArg (fun b => AV.lit (.bool b)) (by rfl)) ?_
          refine W.condT (.t rfl) ?_
          refine W.drawn (by kernel_rfl) (by kernel_rfl) ?_
          refine DP.q (Ev.move (.t rfl)) rfl ?_
          refine DP.q (Ev.move (.t rfl)) rfl ?_
          refine DP.q (Ev.move (.t rfl)) rfl ?_
          refine DP.q (Ev.slit (v := _) (lo := some (.tmp 104)) (hi := none) (.t rfl) Tryz.underlying61 ty5 (.t rfl) rfl (fun _ => by omega) (by exact rfl)) rfl ?_
          refine DP.q (Ev.move (.t rfl)) rfl ?_
          refine DP.q (Ev.move (.t rfl)) rfl ?_
          refine DP.q (Ev.nilc (.t rfl)) rfl ?_
          first | refine DP.q (Ev.fae (.t rfl) fa106_0 rfl) rfl ?_ | refine DP.q (Ev.fab (.t rfl) fa106_0) rfl ?_ | refine DP.q (Ev.faa (.t rfl) fa106_0) rfl ?_
          refine DP.q (Ev.boxat (.t rfl) (.t rfl) Tryz.underlying104 ty61 (fun _ => ⟨by omega, by omega⟩)) rfl ?_
          refine DP.q (Ev.ldb1 1 (c := Url.slA (z c.toNat)) (.t rfl) rfl ag61 (by show (Url.rowF (Url.Fz 3 z) _)[c.toNat]? = _; rw [Url.rowF_get _ _ _ (by omega), Url.Fz_gone, hg]; rfl)) rfl ?_
          refine DP.q (Ev.copy0 (ad := some ⟨(z c.toNat).1, 0, none⟩) (c := (z c.toNat).2) (.t rfl) (.t rfl) Tryz.underlying61 ty5) rfl ?_
          first | refine DP.q (Ev.add (.t rfl) (.t rfl) (fun _ => by omega)) rfl ?_ | refine DP.q (Ev.addw (.t rfl) (.t rfl)) rfl ?_
          refine DP.q (Ev.assign (.t rfl)) rfl ?_
          refine DP.nil ?_
          refine W.blk_normal ?_
          refine W.then ?_
          refine W.region ?_
          refine W.q (Ev.move (.t rfl)) rfl ?_
          first | refine W.q (Ev.add (.t rfl) .k (fun _ => by omega)) rfl ?_ | refine W.q (Ev.addw (.t rfl) .k) rfl ?_
          refine W.q (Ev.assign (.t rfl)) rfl ?_
          refine W.nil ?_
          refine W.then ?_
          refine W.is (t := 13) (g := true) (av' := .int ((Url.rm (s.take (i + 1))).length : Int)) rfl (congrArg AV.int (by omega)) ?_
          refine W.reach (D := []) (i + 1) ⟨rfl, rfl, rfl, rfl, rfl, trivial⟩ (by rw [Url.bufV_same s i hrt]; exact .refl _) ⟨by show i + 1 ≤ _; omega, by show _ - (i + 1) < _; omega⟩
        · obtain ⟨c, hc⟩ : ∃ c, s.getD i 0 = c := ⟨_, rfl⟩
          rw [hc] at hg
          (try rw [hc] at hrt)
          have hc8 := c.toNat_lt
          have hl1 := Url.rm_take_len s i
          have hle := Url.rm_take_le s (i + 1)
          have hlen1 := congrArg List.length hrt
          rw [List.length_append, List.length_singleton] at hlen1
          have hbl := Url.bufV_len s i
          refine W.seq ?_
          refine W.seq ?_
          refine W.region ?_
          refine W.q (Ev.move (.t rfl)) rfl ?_
          refine W.q (Ev.move (.t rfl)) rfl ?_
          refine W.q (Ev.lens (.t rfl) Tryz.underlying9) rfl ?_
          refine W.q (Ev.lti (.t rfl) (.t rfl)) rfl ?_
          refine W.nil ?_
          refine W.then ?_
          refine W.is (t := 89) (g := true) (av' := .lit (.bool true)) rfl (congrArg (fun b => AV.lit (.bool b)) (by exact decide_eq_true (by omega))) ?_
          refine W.condT (.t rfl) ?_
          refine W.skip ?_
          refine W.then ?_
          refine W.seq ?_
          refine W.block ?_
          refine W.seq ?_
          refine W.region ?_
          refine W.q (Ev.move (.t rfl)) rfl ?_
          refine W.q (Ev.move (.t rfl)) rfl ?_
          refine W.q (Ev.ats' (.t rfl) (.t rfl) Tryz.underlying9 (fun hg => by omega)) rfl ?_
          refine W.is (t := 94) (g := true) (av' := AV.u8 c) rfl (by rw [show ((i : Int)).toNat = i from rfl, hc]) ?_
          refine W.q (Ev.assign (.t rfl)) rfl ?_
          refine W.nil ?_
          refine W.then ?_
          refine W.seq ?_
          refine W.region ?_
          refine W.q (Ev.move (.t rfl)) rfl ?_
          refine W.q (Ev.move (.t rfl)) rfl ?_
          refine W.q (Ev.nilc (.t rfl)) rfl ?_
          first | refine W.q (Ev.fae (.t rfl) fa106_0 rfl) rfl ?_ | refine W.q (Ev.fab (.t rfl) fa106_0) rfl ?_ | refine W.q (Ev.faa (.t rfl) fa106_0) rfl ?_
          refine W.q (Ev.boxat (.t rfl) (.t rfl) Tryz.underlying104 ty61 (fun _ => ⟨by omega, by omega⟩)) rfl ?_
          refine W.q (Ev.ldb1 1 (c := Url.nilA) (.t rfl) rfl ag61 (by show (Url.rowF (Url.Fz 3 z) _)[c.toNat]? = _; rw [Url.rowF_get _ _ _ (by omega), Url.Fz_gone, hg]; rfl)) rfl ?_
          refine W.q (Ev.nenl (ad := none) (n := 0) (c := 0) (.t rfl) Tryz.underlying61) rfl ?_
          refine W.nil ?_
          refine W.then ?_
          refine W.is (t := 101) (g := true) (av' := .lit (.bool false)) rfl (congrArg (fun b => AV.lit (.bool b)) (by rfl)) ?_
          refine W.condF (.t rfl) ?_
          refine W.seq ?_
          refine W.region ?_
          refine W.q (Ev.move (.t rfl)) rfl ?_
          refine W.q (Ev.move (.t rfl)) rfl ?_
          refine W.q (Ev.move (.t rfl)) rfl ?_
          refine W.q (Ev.ata 0 (.t rfl) rfl (.t rfl) Tryz.underlying61 ty5 (fun _ => by omega)) rfl ?_
          refine W.sta 0 (Url.rm (s.take i)).length 0 (e := AV.lit (.int .u8 0)) (e' := AV.u8 c) (.t rfl) (.t rfl) rfl (Url.bufV_at s i (by omega)) (by omega) ty5 rfl rfl rfl rfl rfl rfl rfl ?_
          refine W.nil ?_
          refine W.then ?_
          refine W.region ?_
          refine W.q (Ev.move (.t rfl)) rfl ?_
          first | refine W.q (Ev.add (.t rfl) .k (fun _ => by omega)) rfl ?_ | refine W.q (Ev.addw (.t rfl) .k) rfl ?_
          refine W.q (Ev.assign (.t rfl)) rfl ?_
          refine W.nil ?_
          refine W.blk_normal ?_
          refine W.then ?_
          refine W.region ?_
          refine W.q (Ev.move (.t rfl)) rfl ?_
          first | refine W.q (Ev.add (.t rfl) .k (fun _ => by omega)) rfl ?_ | refine W.q (Ev.addw (.t rfl) .k) rfl ?_
          refine W.q (Ev.assign (.t rfl)) rfl ?_
          refine W.nil ?_
          refine W.then ?_
          refine W.is (t := 13) (g := true) (av' := .int ((Url.rm (s.take (i + 1))).length : Int)) rfl (congrArg AV.int (by omega)) ?_
          refine W.reach (D := []) (i + 1) ⟨rfl, rfl, rfl, rfl, rfl, trivial⟩ (by rw [← Url.bufV_set s i c hrt]; exact .refl _) ⟨by show i + 1 ≤ _; omega, by show _ - (i + 1) < _; omega⟩
        · refine W.perm (M' := [.arr (.slice a12 (Url.rm s).length c12) 5 1 ((Url.rm s).map AV.u8), .box b 106 (Url.rowF (Url.Fz 3 z) (.sl 1 (Url.tlr.map AV.str)))]) (List.Perm.of_eq (by rw [hend, Url.bufV_end])) ?_
          refine W.seq ?_
          refine W.seq ?_
          refine W.region ?_
          refine W.q (Ev.move (.t rfl)) rfl ?_
          refine W.q (Ev.move (.t rfl)) rfl ?_
          refine W.q (Ev.lens (.t rfl) Tryz.underlying9) rfl ?_
          refine W.q (Ev.lti (.t rfl) (.t rfl)) rfl ?_
          refine W.nil ?_
          refine W.then ?_
          refine W.is (t := 89) (g := true) (av' := .lit (.bool false)) rfl (congrArg (fun b => AV.lit (.bool b)) (by exact decide_eq_false (by omega))) ?_
          refine W.condF (.t rfl) ?_
          refine W.exit ?_
          refine W.then_exit ?_
          refine W.then_exit ?_
          refine W.blk_hit ?_
          refine W.then ?_
          refine W.seq ?_
          refine W.region ?_
          refine W.q (Ev.move (.t rfl)) rfl ?_
          refine W.q (Ev.b2s 0 (l := Url.rm s) (.t rfl) rfl Tryz.underlying61 Tryz.underlying5 Tryz.underlying9) rfl ?_
          refine W.q (Ev.assign (.t rfl)) rfl ?_
          refine W.nil ?_
          refine W.then ?_
          refine W.ret ?_
          refine W.retn (M' := [.box b 106 (Url.rowF (Url.Fz 3 z) (.sl 1 (Url.tlr.map AV.str)))]) (D := _) (rs := [.tmp 4]) (avs := [_]) Tryz.results115 ⟨rfl, trivial⟩ rfl (by first | exact .refl _ | exact List.perm_append_comm (l₁ := [_])) ?_
          first | exact ⟨rfl, rfl⟩ | exact ⟨congrArg AV.str hsm.symm, rfl⟩
  · refine W.seq ?_
    refine W.region ?_
    refine W.q (Ev.assign .k) rfl ?_
    refine W.nil ?_
    refine W.then ?_
    refine W.block ?_
    refine W.is (t := 5) (g := true) (av' := .int ((s.length : Int) - (((0 : Nat) : Int) - ((Url.rm (s.take 0)).length : Int)))) rfl (congrArg AV.int (by simp [Url.rm])) ?_
    refine W.is (t := 6) (g := true) (av' := .bool (decide ((Url.rm (s.take 0)).length < 0))) rfl (congrArg AV.bool (by simp)) ?_
    refine W.loop (D := []) (ι := Nat) (fun i => [(10, true, .int (i : Int)), (5, true, .int ((s.length : Int) - ((i : Int) - ((Url.rm (s.take i)).length : Int)))), (6, true, .bool (decide ((Url.rm (s.take i)).length < i))), (0, true, .lit (.pointer (some ⟨b, 0, none⟩))), (1, true, .str s)]) (fun _ => [.box b 106 (Url.rowF (Url.Fz 3 z) (.sl 1 (Url.tlr.map AV.str)))]) (fun i => i ≤ s.length) (fun i => s.length - i) 0 ⟨rfl, rfl, rfl, rfl, rfl, trivial⟩ (.refl _) (Nat.zero_le _) ?_
    intro i hi
    dsimp only at hi ⊢
    rcases (show (i < s.length ∧ (Url.gone (s.getD i 0) = true ∧ Url.rm (s.take (i + 1)) = Url.rm (s.take i))) ∨ (i < s.length ∧ (Url.gone (s.getD i 0) = false ∧ Url.rm (s.take (i + 1)) = Url.rm (s.take i) ++ [s.getD i 0])) ∨ i = s.length from by rcases Nat.lt_or_ge i s.length with h | h; rcases Url.rm_step s i h with h2 | h2; exact .inl ⟨h, h2⟩; exact .inr (.inl ⟨h, h2⟩); exact .inr (.inr (by omega))) with ⟨hlt, hg, hrt⟩ | ⟨hlt, hg, hrt⟩ | hend
    · obtain ⟨c, hc⟩ : ∃ c, s.getD i 0 = c := ⟨_, rfl⟩
      rw [hc] at hg
      (try rw [hc] at hrt)
      have hc8 := c.toNat_lt
      have hl1 := Url.rm_take_len s i
      have hle := Url.rm_take_le s (i + 1)
      have hlen1 := congrArg List.length hrt
      refine W.seq ?_
      refine W.seq ?_
      refine W.region ?_
      refine W.q (Ev.move (.t rfl)) rfl ?_
      refine W.q (Ev.move (.t rfl)) rfl ?_
      refine W.q (Ev.lens (.t rfl) Tryz.underlying9) rfl ?_
      refine W.q (Ev.lti (.t rfl) (.t rfl)) rfl ?_
      refine W.nil ?_
      refine W.then ?_
      refine W.is (t := 58) (g := true) (av' := .lit (.bool true)) rfl (congrArg (fun b => AV.lit (.bool b)) (by exact decide_eq_true (by omega))) ?_
      refine W.condT (.t rfl) ?_
      refine W.skip ?_
      refine W.then ?_
      refine W.seq ?_
      refine W.block ?_
      refine W.seq ?_
      refine W.region ?_
      refine W.q (Ev.move (.t rfl)) rfl ?_
      refine W.q (Ev.move (.t rfl)) rfl ?_
      refine W.q (Ev.ats' (.t rfl) (.t rfl) Tryz.underlying9 (fun hg => by omega)) rfl ?_
      refine W.is (t := 63) (g := true) (av' := AV.u8 c) rfl (by rw [show ((i : Int)).toNat = i from rfl, hc]) ?_
      refine W.q (Ev.assign (.t rfl)) rfl ?_
      refine W.nil ?_
      refine W.then ?_
      refine W.seq ?_
      refine W.region ?_
      refine W.q (Ev.move (.t rfl)) rfl ?_
      refine W.q (Ev.move (.t rfl)) rfl ?_
      refine W.q (Ev.nilc (.t rfl)) rfl ?_
      first | refine W.q (Ev.fae (.t rfl) fa106_0 rfl) rfl ?_ | refine W.q (Ev.fab (.t rfl) fa106_0) rfl ?_ | refine W.q (Ev.faa (.t rfl) fa106_0) rfl ?_
      refine W.q (Ev.boxat (.t rfl) (.t rfl) Tryz.underlying104 ty61 (fun _ => ⟨by omega, by omega⟩)) rfl ?_
      refine W.q (Ev.ldb1 0 (c := Url.slA (z c.toNat)) (.t rfl) rfl ag61 (by show (Url.rowF (Url.Fz 3 z) _)[c.toNat]? = _; rw [Url.rowF_get _ _ _ (by omega), Url.Fz_gone, hg]; rfl)) rfl ?_
      refine W.q (Ev.nenl (ad := some ⟨(z c.toNat).1, 0, none⟩) (n := 0) (c := (z c.toNat).2) (.t rfl) Tryz.underlying61) rfl ?_
      refine W.nil ?_
      refine W.then ?_
      refine W.is (t := 70) (g := true) (av' := .lit (.bool true)) rfl (congrArg (fun b => AV.lit (.bool b)) (by rfl)) ?_
      refine W.condT (.t rfl) ?_
      refine W.seq ?_
      refine W.region ?_
      refine W.q (Ev.move (.t rfl)) rfl ?_
      refine W.q (Ev.move (.t rfl)) rfl ?_
      refine W.q (Ev.move (.t rfl)) rfl ?_
      refine W.q (Ev.nilc (.t rfl)) rfl ?_
      first | refine W.q (Ev.fae (.t rfl) fa106_0 rfl) rfl ?_ | refine W.q (Ev.fab (.t rfl) fa106_0) rfl ?_ | refine W.q (Ev.faa (.t rfl) fa106_0) rfl ?_
      refine W.q (Ev.boxat (.t rfl) (.t rfl) Tryz.underlying104 ty61 (fun _ => ⟨by omega, by omega⟩)) rfl ?_
      refine W.q (Ev.ldb1 0 (c := Url.slA (z c.toNat)) (.t rfl) rfl ag61 (by show (Url.rowF (Url.Fz 3 z) _)[c.toNat]? = _; rw [Url.rowF_get _ _ _ (by omega), Url.Fz_gone, hg]; rfl)) rfl ?_
      first | refine W.q (Ev.lensl (.t rfl) Tryz.underlying61) rfl ?_ | refine W.q (Ev.lenar (i := 0) (.t rfl) rfl Tryz.underlying61) rfl ?_ | refine W.q (Ev.lenar (i := 1) (.t rfl) rfl Tryz.underlying61) rfl ?_ | refine W.q (Ev.lenl (.t rfl) Tryz.underlying61) rfl ?_
      first | refine W.q (Ev.sub (.t rfl) .k (fun _ => by omega)) rfl ?_ | refine W.q (Ev.subw (.t rfl) .k) rfl ?_
      first | refine W.q (Ev.add (.t rfl) (.t rfl) (fun _ => by omega)) rfl ?_ | refine W.q (Ev.addw (.t rfl) (.t rfl)) rfl ?_
      refine W.q (Ev.assign (.t rfl)) rfl ?_
      refine W.nil ?_
      refine W.then ?_
      refine W.region ?_
      refine W.q (Ev.assign .k) rfl ?_
      refine W.nil ?_
      refine W.blk_normal ?_
      refine W.then ?_
      refine W.region ?_
      refine W.q (Ev.move (.t rfl)) rfl ?_
      first | refine W.q (Ev.add (.t rfl) .k (fun _ => by omega)) rfl ?_ | refine W.q (Ev.addw (.t rfl) .k) rfl ?_
      refine W.q (Ev.assign (.t rfl)) rfl ?_
      refine W.nil ?_
      refine W.then ?_
      refine W.is (t := 5) (g := true) (av' := .int ((s.length : Int) - (((i + 1 : Nat) : Int) - ((Url.rm (s.take (i + 1))).length : Int)))) rfl (congrArg AV.int (by omega)) ?_
      refine W.is (t := 6) (g := true) (av' := .bool (decide ((Url.rm (s.take (i + 1))).length < (i + 1)))) rfl (congrArg AV.bool (decide_eq_true (by omega)).symm) ?_
      refine W.reach (D := []) (i + 1) ⟨rfl, rfl, rfl, rfl, rfl, trivial⟩ (.refl _) ⟨by show i + 1 ≤ _; omega, by show _ - (i + 1) < _; omega⟩
    · obtain ⟨c, hc⟩ : ∃ c, s.getD i 0 = c := ⟨_, rfl⟩
      rw [hc] at hg
      (try rw [hc] at hrt)
      have hc8 := c.toNat_lt
      have hl1 := Url.rm_take_len s i
      have hle := Url.rm_take_le s (i + 1)
      have hlen1 := congrArg List.length hrt
      rw [List.length_append, List.length_singleton] at hlen1
      refine W.seq ?_
      refine W.seq ?_
      refine W.region ?_
      refine W.q (Ev.move (.t rfl)) rfl ?_
      refine W.q (Ev.move (.t rfl)) rfl ?_
      refine W.q (Ev.lens (.t rfl) Tryz.underlying9) rfl ?_
      refine W.q (Ev.lti (.t rfl) (.t rfl)) rfl ?_
      refine W.nil ?_
      refine W.then ?_
      refine W.is (t := 58) (g := true) (av' := .lit (.bool true)) rfl (congrArg (fun b => AV.lit (.bool b)) (by exact decide_eq_true (by omega))) ?_
      refine W.condT (.t rfl) ?_
      refine W.skip ?_
      refine W.then ?_
      refine W.seq ?_
      refine W.block ?_
      refine W.seq ?_
      refine W.region ?_
      refine W.q (Ev.move (.t rfl)) rfl ?_
      refine W.q (Ev.move (.t rfl)) rfl ?_
      refine W.q (Ev.ats' (.t rfl) (.t rfl) Tryz.underlying9 (fun hg => by omega)) rfl ?_
      refine W.is (t := 63) (g := true) (av' := AV.u8 c) rfl (by rw [show ((i : Int)).toNat = i from rfl, hc]) ?_
      refine W.q (Ev.assign (.t rfl)) rfl ?_
      refine W.nil ?_
      refine W.then ?_
      refine W.seq ?_
      refine W.region ?_
      refine W.q (Ev.move (.t rfl)) rfl ?_
      refine W.q (Ev.move (.t rfl)) rfl ?_
      refine W.q (Ev.nilc (.t rfl)) rfl ?_
      first | refine W.q (Ev.fae (.t rfl) fa106_0 rfl) rfl ?_ | refine W.q (Ev.fab (.t rfl) fa106_0) rfl ?_ | refine W.q (Ev.faa (.t rfl) fa106_0) rfl ?_
      refine W.q (Ev.boxat (.t rfl) (.t rfl) Tryz.underlying104 ty61 (fun _ => ⟨by omega, by omega⟩)) rfl ?_
      refine W.q (Ev.ldb1 0 (c := Url.nilA) (.t rfl) rfl ag61 (by show (Url.rowF (Url.Fz 3 z) _)[c.toNat]? = _; rw [Url.rowF_get _ _ _ (by omega), Url.Fz_gone, hg]; rfl)) rfl ?_
      refine W.q (Ev.nenl (ad := none) (n := 0) (c := 0) (.t rfl) Tryz.underlying61) rfl ?_
      refine W.nil ?_
      refine W.then ?_
      refine W.is (t := 70) (g := true) (av' := .lit (.bool false)) rfl (congrArg (fun b => AV.lit (.bool b)) (by rfl)) ?_
      refine W.condF (.t rfl) ?_
      refine W.skip ?_
      refine W.blk_normal ?_
      refine W.then ?_
      refine W.region ?_
      refine W.q (Ev.move (.t rfl)) rfl ?_
      first | refine W.q (Ev.add (.t rfl) .k (fun _ => by omega)) rfl ?_ | refine W.q (Ev.addw (.t rfl) .k) rfl ?_
      refine W.q (Ev.assign (.t rfl)) rfl ?_
      refine W.nil ?_
      refine W.then ?_
      refine W.is (t := 5) (g := true) (av' := .int ((s.length : Int) - (((i + 1 : Nat) : Int) - ((Url.rm (s.take (i + 1))).length : Int)))) rfl (congrArg AV.int (by omega)) ?_
      refine W.is (t := 6) (g := true) (av' := .bool (decide ((Url.rm (s.take (i + 1))).length < (i + 1)))) rfl (congrArg AV.bool (by rw [decide_eq_decide]; omega)) ?_
      refine W.reach (D := []) (i + 1) ⟨rfl, rfl, rfl, rfl, rfl, trivial⟩ (.refl _) ⟨by show i + 1 ≤ _; omega, by show _ - (i + 1) < _; omega⟩
    · have he : s.take i = s := List.take_of_length_le (by omega)
      rw [he]
      refine W.is (t := 5) (g := true) (av' := .int ((Url.rm s).length : Int)) rfl (congrArg AV.int (by omega)) ?_
      refine W.is (t := 6) (g := true) (av' := .bool (decide ((Url.rm s).length < s.length))) rfl (congrArg AV.bool (by rw [hend])) ?_
      refine W.seq ?_
      refine W.seq ?_
      refine W.region ?_
      refine W.q (Ev.move (.t rfl)) rfl ?_
      refine W.q (Ev.move (.t rfl)) rfl ?_
      refine W.q (Ev.lens (.t rfl) Tryz.underlying9) rfl ?_
      refine W.q (Ev.lti (.t rfl) (.t rfl)) rfl ?_
      refine W.nil ?_
      refine W.then ?_
      refine W.is (t := 58) (g := true) (av' := .lit (.bool false)) rfl (congrArg (fun b => AV.lit (.bool b)) (by exact decide_eq_false (by omega))) ?_
      refine W.condF (.t rfl) ?_
      refine W.exit ?_
      refine W.then_exit ?_
      refine W.then_exit ?_
      refine W.blk_hit ?_
      refine W.then ?_
      refine W.seq ?_
      refine W.seq ?_
      refine W.region ?_
      refine W.q (Ev.move (.t rfl)) rfl ?_
      refine W.q (Ev.not (.t rfl)) rfl ?_
      refine W.nil ?_
      refine W.then ?_
      refine W.cond (.t rfl) (fun hc_t82 => ?_) (fun hc_t82 => ?_)
      · have hsm : Url.rm s = s := Url.rm_same (by have h1 := Url.rm_len s; have h2 := of_decide_eq_false (show decide ((Url.rm s).length < s.length) = false from by simpa using hc_t82); omega)
        refine W.seq ?_
        refine W.region ?_
        refine W.q (Ev.move (.t rfl)) rfl ?_
        refine W.q (Ev.assign (.t rfl)) rfl ?_
        refine W.nil ?_
        refine W.then ?_
        refine W.ret ?_
        refine W.then_ret ?_
        refine W.retn (M' := [.box b 106 (Url.rowF (Url.Fz 3 z) (.sl 1 (Url.tlr.map AV.str)))]) (D := _) (rs := [.tmp 4]) (avs := [_]) Tryz.results115 ⟨rfl, trivial⟩ rfl (by first | exact .refl _ | exact List.perm_append_comm (l₁ := [_])) ?_
        first | exact ⟨rfl, rfl⟩ | exact ⟨congrArg AV.str hsm.symm, rfl⟩
      · refine W.skip ?_
        refine W.then ?_
        refine W.seq ?_
        refine W.region ?_
        refine W.q (Ev.move (.t rfl)) rfl ?_
        refine W.mk (n := (Url.rm s).length) (.t rfl) (.t rfl) Tryz.underlying61 ty5 rfl rfl rfl rfl rfl (by have := Url.rm_len s; omega) rfl ?_
        intro v12
        refine W.arr_len 0 rfl (fun a12 c12 h12 hc12 => ?_)
        rw [List.length_replicate] at h12 hc12
        subst h12
        refine W.q (Ev.assign (.t rfl)) rfl ?_
        refine W.nil ?_
        refine W.then ?_
        refine W.seq ?_
        refine W.region ?_
        refine W.q (Ev.assign .k) rfl ?_
        refine W.nil ?_
        refine W.then ?_
        refine W.seq ?_
        refine W.seq ?_
        refine W.region ?_
        refine W.q (Ev.assign .k) rfl ?_
        refine W.nil ?_
        refine W.then ?_
        refine W.block ?_
        refine W.perm (M' := [.arr (.slice a12 (Url.rm s).length c12) 5 1 (Url.bufV s 0), .box b 106 (Url.rowF (Url.Fz 3 z) (.sl 1 (Url.tlr.map AV.str)))]) (List.Perm.of_eq (by rw [Url.bufV_zero]; rfl)) ?_
        refine W.loop (D := []) (ι := Nat) (fun i => [(14, true, .int (i : Int)), (13, true, .int ((Url.rm (s.take i)).length : Int)), (12, true, .lit (.slice a12 (Url.rm s).length c12)), (0, true, .lit (.pointer (some ⟨b, 0, none⟩))), (1, true, .str s)]) (fun i => [.arr (.slice a12 (Url.rm s).length c12) 5 1 (Url.bufV s i), .box b 106 (Url.rowF (Url.Fz 3 z) (.sl 1 (Url.tlr.map AV.str)))]) (fun i => i ≤ s.length) (fun i => s.length - i) 0 ⟨rfl, rfl, rfl, rfl, rfl, trivial⟩ (.refl _) (Nat.zero_le _) ?_
        intro i hi
        dsimp only at hi ⊢
        rcases (show (i < s.length ∧ (Url.gone (s.getD i 0) = true ∧ Url.rm (s.take (i + 1)) = Url.rm (s.take i))) ∨ (i < s.length ∧ (Url.gone (s.getD i 0) = false ∧ Url.rm (s.take (i + 1)) = Url.rm (s.take i) ++ [s.getD i 0])) ∨ i = s.length from by rcases Nat.lt_or_ge i s.length with h | h; rcases Url.rm_step s i h with h2 | h2; exact .inl ⟨h, h2⟩; exact .inr (.inl ⟨h, h2⟩); exact .inr (.inr (by omega))) with ⟨hlt, hg, hrt⟩ | ⟨hlt, hg, hrt⟩ | hend
        · obtain ⟨c, hc⟩ : ∃ c, s.getD i 0 = c := ⟨_, rfl⟩
          rw [hc] at hg
          (try rw [hc] at hrt)
          have hc8 := c.toNat_lt
          have hl1 := Url.rm_take_len s i
          have hle := Url.rm_take_le s (i + 1)
          have hlen1 := congrArg List.length hrt
          have hle0 := Url.rm_take_le s i
          refine W.seq ?_
          refine W.seq ?_
          refine W.region ?_
          refine W.q (Ev.move (.t rfl)) rfl ?_
          refine W.q (Ev.move (.t rfl)) rfl ?_
          refine W.q (Ev.lens (.t rfl) Tryz.underlying9) rfl ?_
          refine W.q (Ev.lti (.t rfl) (.t rfl)) rfl ?_
          refine W.nil ?_
          refine W.then ?_
          refine W.is (t := 89) (g := true) (av' := .lit (.bool true)) rfl (congrArg (fun b => AV.lit (.bool b)) (by exact decide_eq_true (by omega))) ?_
          refine W.condT (.t rfl) ?_
          refine W.skip ?_
          refine W.then ?_
          refine W.seq ?_
          refine W.block ?_
          refine W.seq ?_
          refine W.region ?_
          refine W.q (Ev.move (.t rfl)) rfl ?_
          refine W.q (Ev.move (.t rfl)) rfl ?_
          refine W.q (Ev.ats' (.t rfl) (.t rfl) Tryz.underlying9 (fun hg => by omega)) rfl ?_
          refine W.is (t := 94) (g := true) (av' := AV.u8 c) rfl (by rw [show ((i : Int)).toNat = i from rfl, hc]) ?_
          refine W.q (Ev.assign (.t rfl)) rfl ?_
          refine W.nil ?_
          refine W.then ?_
          refine W.seq ?_
          refine W.region ?_
          refine W.q (Ev.move (.t rfl)) rfl ?_
          refine W.q (Ev.move (.t rfl)) rfl ?_
          refine W.q (Ev.nilc (.t rfl)) rfl ?_
          first | refine W.q (Ev.fae (.t rfl) fa106_0 rfl) rfl ?_ | refine W.q (Ev.fab (.t rfl) fa106_0) rfl ?_ | refine W.q (Ev.faa (.t rfl) fa106_0) rfl ?_
          refine W.q (Ev.boxat (.t rfl) (.t rfl) Tryz.underlying104 ty61 (fun _ => ⟨by omega, by omega⟩)) rfl ?_
          refine W.q (Ev.ldb1 1 (c := Url.slA (z c.toNat)) (.t rfl) rfl ag61 (by show (Url.rowF (Url.Fz 3 z) _)[c.toNat]? = _; rw [Url.rowF_get _ _ _ (by omega), Url.Fz_gone, hg]; rfl)) rfl ?_
          refine W.q (Ev.nenl (ad := some ⟨(z c.toNat).1, 0, none⟩) (n := 0) (c := (z c.toNat).2) (.t rfl) Tryz.underlying61) rfl ?_
          refine W.nil ?_
          refine W.then ?_
          refine W.is (t := 101) (g := true) (av' := .lit (.bool true)) rfl (congrArg (fun b => AV.lit (.bool b)) (by rfl)) ?_
          refine W.condT (.t rfl) ?_
          refine W.drawn (by kernel_rfl) (by kernel_rfl) ?_
          refine DP.q (Ev.move (.t rfl)) rfl ?_
          refine DP.q (Ev.move (.t rfl)) rfl ?_
          refine DP.q (Ev.move (.t rfl)) rfl ?_
          refine DP.q (Ev.slit (v := _) (lo := some (.tmp 104)) (hi := none) (.t rfl) Tryz.underlying61 ty5 (.t rfl) rfl (fun _ => by omega) (by exact rfl)) rfl ?_
          refine DP.q (Ev.move (.t rfl)) rfl ?_
          refine DP.q (Ev.move (.t rfl)) rfl ?_
          refine DP.q (Ev.nilc (.t rfl)) rfl ?_
          first | refine DP.q (Ev.fae (.t rfl) fa106_0 rfl) rfl ?_ | refine DP.q (Ev.fab (.t rfl) fa106_0) rfl ?_ | refine DP.q (Ev.faa (.t rfl) fa106_0) rfl ?_
          refine DP.q (Ev.boxat (.t rfl) (.t rfl) Tryz.underlying104 ty61 (fun _ => ⟨by omega, by omega⟩)) rfl ?_
          refine DP.q (Ev.ldb1 1 (c := Url.slA (z c.toNat)) (.t rfl) rfl ag61 (by show (Url.rowF (Url.Fz 3 z) _)[c.toNat]? = _; rw [Url.rowF_get _ _ _ (by omega), Url.Fz_gone, hg]; rfl)) rfl ?_
          refine DP.q (Ev.copy0 (ad := some ⟨(z c.toNat).1, 0, none⟩) (c := (z c.toNat).2) (.t rfl) (.t rfl) Tryz.underlying61 ty5) rfl ?_
          first | refine DP.q (Ev.add (.t rfl) (.t rfl) (fun _ => by omega)) rfl ?_ | refine DP.q (Ev.addw (.t rfl) (.t rfl)) rfl ?_
          refine DP.q (Ev.assign (.t rfl)) rfl ?_
          refine DP.nil ?_
          refine W.blk_normal ?_
          refine W.then ?_
          refine W.region ?_
          refine W.q (Ev.move (.t rfl)) rfl ?_
          first | refine W.q (Ev.add (.t rfl) .k (fun _ => by omega)) rfl ?_ | refine W.q (Ev.addw (.t rfl) .k) rfl ?_
          refine W.q (Ev.assign (.t rfl)) rfl ?_
          refine W.nil ?_
          refine W.then ?_
          refine W.is (t := 13) (g := true) (av' := .int ((Url.rm (s.take (i + 1))).length : Int)) rfl (congrArg AV.int (by omega)) ?_
          refine W.reach (D := []) (i + 1) ⟨rfl, rfl, rfl, rfl, rfl, trivial⟩ (by rw [Url.bufV_same s i hrt]; exact .refl _) ⟨by show i + 1 ≤ _; omega, by show _ - (i + 1) < _; omega⟩
        · obtain ⟨c, hc⟩ : ∃ c, s.getD i 0 = c := ⟨_, rfl⟩
          rw [hc] at hg
          (try rw [hc] at hrt)
          have hc8 := c.toNat_lt
          have hl1 := Url.rm_take_len s i
          have hle := Url.rm_take_le s (i + 1)
          have hlen1 := congrArg List.length hrt
          rw [List.length_append, List.length_singleton] at hlen1
          have hbl := Url.bufV_len s i
          refine W.seq ?_
          refine W.seq ?_
          refine W.region ?_
          refine W.q (Ev.move (.t rfl)) rfl ?_
          refine W.q (Ev.move (.t rfl)) rfl ?_
          refine W.q (Ev.lens (.t rfl) Tryz.underlying9) rfl ?_
          refine W.q (Ev.lti (.t rfl) (.t rfl)) rfl ?_
          refine W.nil ?_
          refine W.then ?_
          refine W.is (t := 89) (g := true) (av' := .lit (.bool true)) rfl (congrArg (fun b => AV.lit (.bool b)) (by exact decide_eq_true (by omega))) ?_
          refine W.condT (.t rfl) ?_
          refine W.skip ?_
          refine W.then ?_
          refine W.seq ?_
          refine W.block ?_
          refine W.seq ?_
          refine W.region ?_
          refine W.q (Ev.move (.t rfl)) rfl ?_
          refine W.q (Ev.move (.t rfl)) rfl ?_
          refine W.q (Ev.ats' (.t rfl) (.t rfl) Tryz.underlying9 (fun hg => by omega)) rfl ?_
          refine W.is (t := 94) (g := true) (av' := AV.u8 c) rfl (by rw [show ((i : Int)).toNat = i from rfl, hc]) ?_
          refine W.q (Ev.assign (.t rfl)) rfl ?_
          refine W.nil ?_
          refine W.then ?_
          refine W.seq ?_
          refine W.region ?_
          refine W.q (Ev.move (.t rfl)) rfl ?_
          refine W.q (Ev.move (.t rfl)) rfl ?_
          refine W.q (Ev.nilc (.t rfl)) rfl ?_
          first | refine W.q (Ev.fae (.t rfl) fa106_0 rfl) rfl ?_ | refine W.q (Ev.fab (.t rfl) fa106_0) rfl ?_ | refine W.q (Ev.faa (.t rfl) fa106_0) rfl ?_
          refine W.q (Ev.boxat (.t rfl) (.t rfl) Tryz.underlying104 ty61 (fun _ => ⟨by omega, by omega⟩)) rfl ?_
          refine W.q (Ev.ldb1 1 (c := Url.nilA) (.t rfl) rfl ag61 (by show (Url.rowF (Url.Fz 3 z) _)[c.toNat]? = _; rw [Url.rowF_get _ _ _ (by omega), Url.Fz_gone, hg]; rfl)) rfl ?_
          refine W.q (Ev.nenl (ad := none) (n := 0) (c := 0) (.t rfl) Tryz.underlying61) rfl ?_
          refine W.nil ?_
          refine W.then ?_
          refine W.is (t := 101) (g := true) (av' := .lit (.bool false)) rfl (congrArg (fun b => AV.lit (.bool b)) (by rfl)) ?_
          refine W.condF (.t rfl) ?_
          refine W.seq ?_
          refine W.region ?_
          refine W.q (Ev.move (.t rfl)) rfl ?_
          refine W.q (Ev.move (.t rfl)) rfl ?_
          refine W.q (Ev.move (.t rfl)) rfl ?_
          refine W.q (Ev.ata 0 (.t rfl) rfl (.t rfl) Tryz.underlying61 ty5 (fun _ => by omega)) rfl ?_
          refine W.sta 0 (Url.rm (s.take i)).length 0 (e := AV.lit (.int .u8 0)) (e' := AV.u8 c) (.t rfl) (.t rfl) rfl (Url.bufV_at s i (by omega)) (by omega) ty5 rfl rfl rfl rfl rfl rfl rfl ?_
          refine W.nil ?_
          refine W.then ?_
          refine W.region ?_
          refine W.q (Ev.move (.t rfl)) rfl ?_
          first | refine W.q (Ev.add (.t rfl) .k (fun _ => by omega)) rfl ?_ | refine W.q (Ev.addw (.t rfl) .k) rfl ?_
          refine W.q (Ev.assign (.t rfl)) rfl ?_
          refine W.nil ?_
          refine W.blk_normal ?_
          refine W.then ?_
          refine W.region ?_
          refine W.q (Ev.move (.t rfl)) rfl ?_
          first | refine W.q (Ev.add (.t rfl) .k (fun _ => by omega)) rfl ?_ | refine W.q (Ev.addw (.t rfl) .k) rfl ?_
          refine W.q (Ev.assign (.t rfl)) rfl ?_
          refine W.nil ?_
          refine W.then ?_
          refine W.is (t := 13) (g := true) (av' := .int ((Url.rm (s.take (i + 1))).length : Int)) rfl (congrArg AV.int (by omega)) ?_
          refine W.reach (D := []) (i + 1) ⟨rfl, rfl, rfl, rfl, rfl, trivial⟩ (by rw [← Url.bufV_set s i c hrt]; exact .refl _) ⟨by show i + 1 ≤ _; omega, by show _ - (i + 1) < _; omega⟩
        · refine W.perm (M' := [.arr (.slice a12 (Url.rm s).length c12) 5 1 ((Url.rm s).map AV.u8), .box b 106 (Url.rowF (Url.Fz 3 z) (.sl 1 (Url.tlr.map AV.str)))]) (List.Perm.of_eq (by rw [hend, Url.bufV_end])) ?_
          refine W.seq ?_
          refine W.seq ?_
          refine W.region ?_
          refine W.q (Ev.move (.t rfl)) rfl ?_
          refine W.q (Ev.move (.t rfl)) rfl ?_
          refine W.q (Ev.lens (.t rfl) Tryz.underlying9) rfl ?_
          refine W.q (Ev.lti (.t rfl) (.t rfl)) rfl ?_
          refine W.nil ?_
          refine W.then ?_
          refine W.is (t := 89) (g := true) (av' := .lit (.bool false)) rfl (congrArg (fun b => AV.lit (.bool b)) (by exact decide_eq_false (by omega))) ?_
          refine W.condF (.t rfl) ?_
          refine W.exit ?_
          refine W.then_exit ?_
          refine W.then_exit ?_
          refine W.blk_hit ?_
          refine W.then ?_
          refine W.seq ?_
          refine W.region ?_
          refine W.q (Ev.move (.t rfl)) rfl ?_
          refine W.q (Ev.b2s 0 (l := Url.rm s) (.t rfl) rfl Tryz.underlying61 Tryz.underlying5 Tryz.underlying9) rfl ?_
          refine W.q (Ev.assign (.t rfl)) rfl ?_
          refine W.nil ?_
          refine W.then ?_
          refine W.ret ?_
          refine W.retn (M' := [.box b 106 (Url.rowF (Url.Fz 3 z) (.sl 1 (Url.tlr.map AV.str)))]) (D := _) (rs := [.tmp 4]) (avs := [_]) Tryz.results115 ⟨rfl, trivial⟩ rfl (by first | exact .refl _ | exact List.perm_append_comm (l₁ := [_])) ?_
          first | exact ⟨rfl, rfl⟩ | exact ⟨congrArg AV.str hsm.symm, rfl⟩

end WRepB

end Go.Proofs.YtgjndpgcpohnoaaGreatDoor
end

section
set_option linter.unusedVariables false
set_option linter.unusedSimpArgs false
namespace Go.Vl
open Go.RowKit (Below)
theorem MOk.below {w w' : World} {M : List ME} {F : List Nat} (h : MOk w M F) (hb : Below w.heap.size w w') (hF : ∀ b ∈ F, b < w.heap.size) : MOk w' M F := by
  refine ⟨h.nodup, h.apart, fun m hm => ME.holds_keep (w := w) (N := bl M ++ F) ?_ (fun b hb' => ?_) (h.holds m hm)⟩
  · intro b c T fr hn hc
    exact ⟨hn, (hb.block b (heap_lt hc)).trans hc⟩
  · exact hb.block b (bl_lt h b (List.mem_flatMap.2 ⟨m, hm, hb'⟩))
theorem Fr.below {w w' : World} {N : List Nat} (h : Below w.heap.size w w') : Fr w N w' N :=
  ⟨h.os, h.tape, h.output, h.size, fun k hk hn => ⟨h.block k hk, hn⟩⟩
/-- nothing that was turns; the result is known -/
theorem FnC.belowM {P : Program} {f : FuncId} {args : List AV} {M0 : List ME} {r : AV} (hc : CallOk P f)
    (h : ∀ (w : World) (F : List Nat) (vs : List Value), MOk w M0 F → RepT w (bl M0 ++ F) args vs → Calls P f vs.toArray w fun e w' => ∃ v, e = .returned v ∧ Rep w' (bl M0 ++ F) r v ∧ Below w.heap.size w w') : FnC P f args M0 (fun r' M => r' = r ∧ M = M0) :=
  ⟨hc, fun w F vs hF hm ha => (h w F vs hm ha).mono fun e w' ⟨v, he, hr, hb⟩ => ⟨v, r, M0, he, ⟨rfl, rfl⟩, hm.below hb hF, hr, Fr.below hb⟩⟩
end Go.Vl
end

section
namespace Go.Proofs
open Go.Shelf
def Tryz.lays160_ren : Go.Shelf.Ren := ⟨fun | 160 => 26 | 232 => 30 | 231 => 29 | 227 => 31 | 234 => 33 | 233 => 32 | 236 => 35 | 235 => 34 | 228 => 38 | 271 => 41 | 151 => 40 | 197 => 39 | 120 => 47 | 152 => 46 | 260 => 45 | 137 => 54 | 119 => 55 | 224 => 56 | 225 => 57 | 217 => 64 | 266 => 75 | n => n, fun | 9 => 9 | 4 => 4 | 3 => 3 | 5 => 5 | 117 => 65 | 116 => 64 | 0 => 0 | 124 => 68 | 21 => 21 | 105 => 86 | 46 => 108 | 119 => 101 | 139 => 111 | 138 => 110 | n => n, fun | 3 => 0 | 4 => 1 | n => n⟩
theorem Tryz.lays160 : Go.Proofs.Lays.n160 Tryz.prog Tryz.lays160_ren := {
  mixed := by kernel_rfl
  f119 := Tryz.func55.trans (congrArg some (by kernel_rfl))
  f120 := Tryz.func47.trans (congrArg some (by kernel_rfl))
  f137 := Tryz.func54.trans (congrArg some (by kernel_rfl))
  f151 := Tryz.func40.trans (congrArg some (by kernel_rfl))
  f152 := Tryz.func46.trans (congrArg some (by kernel_rfl))
  f160 := Tryz.func26.trans (congrArg some (by kernel_rfl))
  f197 := Tryz.func39.trans (congrArg some (by kernel_rfl))
  f217 := Tryz.func64.trans (congrArg some (by kernel_rfl))
  f224 := Tryz.func56.trans (congrArg some (by kernel_rfl))
  f225 := Tryz.func57.trans (congrArg some (by kernel_rfl))
  f227 := Tryz.func31.trans (congrArg some (by kernel_rfl))
  f228 := Tryz.func38.trans (congrArg some (by kernel_rfl))
  f231 := Tryz.func29.trans (congrArg some (by kernel_rfl))
  f232 := Tryz.func30.trans (congrArg some (by kernel_rfl))
  f233 := Tryz.func32.trans (congrArg some (by kernel_rfl))
  f234 := Tryz.func33.trans (congrArg some (by kernel_rfl))
  f235 := Tryz.func34.trans (congrArg some (by kernel_rfl))
  f236 := Tryz.func35.trans (congrArg some (by kernel_rfl))
  f260 := Tryz.func45.trans (congrArg some (by kernel_rfl))
  f266 := Tryz.func75.trans (congrArg some (by kernel_rfl))
  f271 := Tryz.func41.trans (congrArg some (by kernel_rfl))
  t0 := Tryz.underlying0
  a0 := Tryz.isAgg0
  z0 := Tryz.sizeOf0
  v0 := Tryz.zeroValue0
  t3 := Tryz.underlying3
  a3 := Tryz.isAgg3
  z3 := Tryz.sizeOf3
  v3 := Tryz.zeroValue3
  t4 := Tryz.underlying4
  a4 := Tryz.isAgg4
  z4 := Tryz.sizeOf4
  v4 := Tryz.zeroValue4
  t5 := Tryz.underlying5
  a5 := Tryz.isAgg5
  z5 := Tryz.sizeOf5
  v5 := Tryz.zeroValue5
  t9 := Tryz.underlying9
  a9 := Tryz.isAgg9
  z9 := Tryz.sizeOf9
  v9 := Tryz.zeroValue9
  t21 := Tryz.underlying21
  a21 := Tryz.isAgg21
  z21 := Tryz.sizeOf21
  v21 := Tryz.zeroValue21
  t46 := Tryz.underlying108
  a46 := Tryz.isAgg108
  z46 := Tryz.sizeOf108
  v46 := Tryz.zeroValue108
  t105 := Tryz.underlying86
  a105 := Tryz.isAgg86
  z105 := Tryz.sizeOf86
  v105 := Tryz.zeroValue86
  t116 := Tryz.underlying64
  a116 := Tryz.isAgg64
  z116 := Tryz.sizeOf64
  t117 := Tryz.underlying65
  a117 := Tryz.isAgg65
  z117 := Tryz.sizeOf65
  v117 := Tryz.zeroValue65
  t119 := Tryz.underlying101
  a119 := Tryz.isAgg101
  z119 := Tryz.sizeOf101
  t124 := Tryz.underlying68
  a124 := Tryz.isAgg68
  z124 := Tryz.sizeOf68
  v124 := Tryz.zeroValue68
  t138 := Tryz.underlying110
  a138 := Tryz.isAgg110
  z138 := Tryz.sizeOf110
  v138 := Tryz.zeroValue110
  t139 := Tryz.underlying111
  a139 := Tryz.isAgg111
  z139 := Tryz.sizeOf111
  v139 := Tryz.zeroValue111
  g3 := by kernel_rfl
  g4 := by kernel_rfl }
end Go.Proofs
end

section
set_option linter.unusedVariables false
set_option linter.unusedSimpArgs false
set_option maxRecDepth 100000
namespace Go.Proofs.YtgjndpgcpohnoaaGreatDoor
open Go.Vl

namespace WStrip
theorem ty9 : Ty Tryz.prog 9 1 16 (.string ⟨#[]⟩) := Ty.of (by kernel_rfl)
theorem ty80 : Ty Tryz.prog 80 3 12 (.agg #[.int .u32 0, .int .i32 0, .int .u32 0]) := Ty.of (by kernel_rfl)
theorem ty82 : Ty Tryz.prog 82 1 16 (.nilIface) := Ty.of (by kernel_rfl)
theorem ag80 : IsAgg Tryz.prog 80 true := ⟨_, Tryz.underlying80, rfl⟩
theorem ag82 : IsAgg Tryz.prog 82 false := ⟨_, Tryz.underlying82, rfl⟩
theorem fa84_0 : FieldAt Tryz.prog 84 0 0 3 true := ⟨_, _, Tryz.underlying84, rfl, rfl, ty80.size, ag80, by decide⟩
theorem fa84_1 : FieldAt Tryz.prog 84 1 3 1 false := ⟨_, _, Tryz.underlying84, rfl, rfl, ty82.size, ag82, by decide⟩
theorem meth (b : Nat) (args : Array Value) (w : World) : (callMethod (.iface 107 (.pointer (some ⟨b, 0, none⟩))) "Replace" args).run Tryz.prog w = .ok (.enter 115 (#[.pointer (some ⟨b, 0, none⟩)] ++ args)) w := by kernel_rfl
theorem rep2 {w : World} {N : List Nat} {s p : List UInt8} {vs : List Value} (h : RepT w N [.str s, .str p] vs) : vs = [.string ⟨s.toArray⟩, .string ⟨p.toArray⟩] := by
  simp only [RepT] at h
  obtain ⟨v0, _, rfl, h0, v1, _, rfl, h1, rfl⟩ := h
  rw [show v0 = _ from Rep.lit_iff.1 (show Rep w N (.str s) v0 from h0), show v1 = _ from Rep.lit_iff.1 (show Rep w N (.str p) v1 from h1)]
theorem c_Trim (s : List UInt8) (hs : s.length ≤ 1099511627776) : FnP Tryz.prog 26 [.str s, .str Url.ctl] (.str (Url.trim s)) := by
  refine FnC.belowM (CallOk.of Tryz.func26 (by kernel_rfl) (by kernel_rfl)) fun w F vs hm ha => ?_
  rw [rep2 ha]
  refine (Any.strings_Trim_laid Tryz.lays160 (by kernel_rfl) ⟨s.toArray⟩ ⟨Url.ctl.toArray⟩ w (by simp [ByteArray.size]; omega) (by decide) (ascii_of_all (by decide))).mono ?_
  rintro e w' ⟨he, hb⟩
  exact ⟨_, he, Rep.lit _, hb⟩

theorem c_Replacer (s : List UInt8) (hs : s.length ≤ 1099511627776) (b : Nat) : FnC Tryz.prog 28 [.lit (.pointer (some ⟨b, 0, none⟩)), .str s] [.box b 84 [.lit (.int .u32 0), .lit (.int .i32 0), .lit (.int .u32 0), .lit .nilIface, .sl 1 (Url.six.map AV.str)]] (fun r M => r = .str (Url.rm s) ∧ M = []) :=  by
  refine FnC.mk Tryz.func28 (by kernel_rfl) rfl Tryz.ntmps28 rfl (fun w0 F => ?_)
  refine W.seq ?_
  refine W.region ?_
  refine W.q (Ev.assign .k) rfl ?_
  refine W.nil ?_
  refine W.then ?_
  refine W.seq ?_
  refine W.region ?_
  refine W.q (Ev.move (.t rfl)) rfl ?_
  refine W.q (Ev.nilc (.t rfl)) rfl ?_
  first | refine W.q (Ev.fae (.t rfl) fa84_0 rfl) rfl ?_ | refine W.q (Ev.fab (.t rfl) fa84_0) rfl ?_ | refine W.q (Ev.faa (.t rfl) fa84_0) rfl ?_
  refine W.q (Ev.move (.t rfl)) rfl ?_
  refine W.q (Ev.mkfn1 (.t rfl)) rfl ?_
  refine W.call (WDo.c_Do (ι := Nat × (Nat → Nat × Nat)) b [.lit .nilIface, .sl 1 (Url.six.map AV.str)] (fun z => [.lit (.iface 107 (.pointer (some ⟨z.1, 0, none⟩))), .lit (.slice none 0 0)]) (fun z => [.box z.1 106 (Url.rowF (Url.Fz 3 z.2) (.sl 1 (Url.tlr.map AV.str)))]) (WRepl.c_buildOnce b)) ⟨(.t rfl), (.t rfl), trivial⟩ (.refl _) rfl ?_
  rintro _ _ ⟨rfl, z, rfl⟩
  refine W.nil ?_
  refine W.then ?_
  refine W.seq ?_
  refine W.region ?_
  refine W.q (Ev.move (.t rfl)) rfl ?_
  refine W.q (Ev.nilc (.t rfl)) rfl ?_
  first | refine W.q (Ev.fae (.t rfl) fa84_1 rfl) rfl ?_ | refine W.q (Ev.fab (.t rfl) fa84_1) rfl ?_ | refine W.q (Ev.faa (.t rfl) fa84_1) rfl ?_
  first | refine W.q (Ev.lde1 (.t rfl) ag82) rfl ?_ | refine W.q (Ev.ldb1 0 (.t rfl) rfl ag82 rfl) rfl ?_ | refine W.q (Ev.ldb1 1 (.t rfl) rfl ag82 rfl) rfl ?_
  refine W.q (Ev.move (.t rfl)) rfl ?_
  refine W.ivk (Min := [.box z.1 106 (Url.rowF (Url.Fz 3 z.2) (.sl 1 (Url.tlr.map AV.str)))]) (Mr := [_]) (WRepB.c_Replace s hs z.1 z.2) (meth z.1) (.t rfl) ⟨(.t rfl), trivial⟩ (List.Perm.swap _ _ []) rfl ?_
  rintro _ _ ⟨rfl, rfl⟩
  refine W.q (Ev.assign (.t rfl)) rfl ?_
  refine W.nil ?_
  refine W.then ?_
  refine W.ret ?_
  refine W.retn (M' := []) (D := _) (rs := [.tmp 4]) (avs := [_]) Tryz.results28 ⟨rfl, trivial⟩ rfl (.refl _) ?_
  exact ⟨rfl, rfl⟩

theorem c_Strip (s : List UInt8) (hs : s.length ≤ 1099511627776) : FnP Tryz.prog 21 [.str s] (.str (Url.strip s)) :=  by
  refine FnC.mk Tryz.func21 (by kernel_rfl) rfl Tryz.ntmps21 rfl (fun w0 F => ?_)
  have htl := Url.trim_len s
  refine W.seq ?_
  refine W.region ?_
  refine W.q (Ev.assign .k) rfl ?_
  refine W.nil ?_
  refine W.then ?_
  refine W.seq ?_
  refine W.region ?_
  refine W.q (Ev.move (.t rfl)) rfl ?_
  refine W.callp (c_Trim s hs) ⟨(.t rfl), .k, trivial⟩ rfl ?_
  refine W.q (Ev.assign (.t rfl)) rfl ?_
  refine W.nil ?_
  refine W.then ?_
  refine W.seq ?_
  refine W.region ?_
  refine W.bs (es := [_, _, _, _, _, _]) Tryz.underlying23 ty9 ⟨rfl, .k, rfl, rfl, rfl, .k, rfl, rfl, rfl, .k, rfl, rfl, rfl, .k, rfl, rfl, rfl, .k, rfl, rfl, rfl, .k, rfl, rfl, trivial⟩ rfl (by decide) rfl rfl ?_
  refine W.call (WRepl.c_NewReplacer) ⟨(.t rfl), trivial⟩ (.refl _) rfl ?_
  rintro _ _ ⟨b7, rfl, rfl⟩
  refine W.q (Ev.move (.t rfl)) rfl ?_
  refine W.call (c_Replacer (Url.trim s) (by omega) b7) ⟨(.t rfl), (.t rfl), trivial⟩ (.refl _) rfl ?_
  rintro _ _ ⟨rfl, rfl⟩
  refine W.q (Ev.assign (.t rfl)) rfl ?_
  refine W.nil ?_
  refine W.then ?_
  refine W.ret ?_
  refine W.retn (M' := []) (rs := [.tmp 2]) (avs := [_]) Tryz.results21 ⟨rfl, trivial⟩ rfl (.refl _) ?_
  exact ⟨rfl, rfl⟩

end WStrip

end Go.Proofs.YtgjndpgcpohnoaaGreatDoor
end

section
set_option linter.unusedVariables false
set_option linter.unusedSimpArgs false
set_option maxRecDepth 100000
namespace Go.Proofs.YtgjndpgcpohnoaaGreatDoor
open Go.Vl

namespace WSmall
theorem ty5 : Ty Tryz.prog 5 1 1 (.int .u8 0) := Ty.of (by kernel_rfl)
theorem ag5 : IsAgg Tryz.prog 5 false := ⟨_, Tryz.underlying5, rfl⟩
theorem c_Small (s : List UInt8) (hs : s.length ≤ 4194304) : FnP Tryz.prog 23 [.str s] (.str (Sty.small s)) :=  by
  refine FnC.mk Tryz.func23 (by kernel_rfl) rfl Tryz.ntmps23 rfl (fun w0 F => ?_)
  refine W.seq ?_
  refine W.region ?_
  refine W.q (Ev.assign .k) rfl ?_
  refine W.nil ?_
  refine W.then ?_
  refine W.seq ?_
  refine W.region ?_
  refine W.q (Ev.move (.t rfl)) rfl ?_
  refine W.s2b (.t rfl) Tryz.underlying9 Tryz.underlying61 Tryz.underlying5 (by omega) rfl ?_
  intro v7
  refine W.arr_inv 0 rfl (fun a7 n7 c7 h7 => ?_)
  subst h7
  obtain ⟨v, hv⟩ : ∃ v, Value.slice a7 n7 c7 = v := ⟨_, rfl⟩
  rw [hv]
  refine W.q (Ev.assign (.t rfl)) rfl ?_
  refine W.nil ?_
  refine W.then ?_
  refine W.seq ?_
  refine W.seq ?_
  refine W.region ?_
  refine W.q (Ev.move (.t rfl)) rfl ?_
  first | refine W.q (Ev.lensl (.t rfl) Tryz.underlying61) rfl ?_ | refine W.q (Ev.lenar (i := 0) (.t rfl) rfl Tryz.underlying61) rfl ?_ | refine W.q (Ev.lenar (i := 1) (.t rfl) rfl Tryz.underlying61) rfl ?_ | refine W.q (Ev.lenar (i := 2) (.t rfl) rfl Tryz.underlying61) rfl ?_ | refine W.q (Ev.lenar (i := 3) (.t rfl) rfl Tryz.underlying61) rfl ?_
  refine W.q (Ev.move .k) rfl ?_
  refine W.nil ?_
  refine W.then ?_
  refine W.block ?_
  refine W.loop (D := []) (ι := Nat) (fun i => [(10, true, .int (i : Int)), (9, true, .int ((s.map AV.u8).length : Int)), (8, true, .lit v), (3, true, .lit v)]) (fun i => [.arr v 5 1 ((Sty.smallT s i).map AV.u8)]) (fun i => i ≤ s.length) (fun i => s.length - i) 0 ⟨rfl, rfl, rfl, rfl, trivial⟩ (.refl _) (Nat.zero_le _) ?_
  intro i hi
  dsimp only at hi ⊢
  have hml : (s.map AV.u8).length = s.length := List.length_map ..
  rcases (show i < s.length ∨ i = s.length from by omega) with hlt | hend
  · obtain ⟨c0, hc0⟩ : ∃ c, s.getD i 0 = c := ⟨_, rfl⟩
    have hga := Sty.smallT_get s i hlt
    rw [hc0] at hga
    have hsn := Sty.smallT_set s i hlt
    rw [hc0] at hsn
    refine W.seq ?_
    refine W.region ?_
    refine W.q (Ev.lti (.t rfl) (.t rfl)) rfl ?_
    refine W.nil ?_
    refine W.then ?_
    refine W.seq ?_
    refine W.is (t := 11) (g := true) (av' := .lit (.bool true)) rfl (congrArg (fun b => AV.lit (.bool b)) (by exact decide_eq_true (by omega))) ?_
    refine W.condT (.t rfl) ?_
    refine W.skip ?_
    refine W.then ?_
    refine W.seq ?_
    refine W.block ?_
    refine W.seq ?_
    refine W.region ?_
    refine W.q (Ev.move (.t rfl)) rfl ?_
    refine W.q (Ev.ata 0 (.t rfl) rfl (.t rfl) Tryz.underlying61 ty5 (fun _ => by rw [List.length_map, Sty.smallT_len]; omega)) rfl ?_
    refine W.q (Ev.lda1 0 i 0 (.t rfl) rfl hga (by omega) rfl rfl rfl ag5) rfl ?_
    refine W.q (Ev.assign (.t rfl)) rfl ?_
    refine W.q (Ev.assign (.t rfl)) rfl ?_
    refine W.nil ?_
    refine W.then ?_
    refine W.seq ?_
    refine W.region ?_
    refine W.q (Ev.move (.t rfl)) rfl ?_
    refine W.q (Ev.gei (.t rfl) .k) rfl ?_
    refine W.q (Ev.move (.t rfl)) rfl ?_
    refine W.qgT rfl rfl (Ev.move (.t rfl)) rfl ?_
    refine W.qgT rfl rfl (Ev.lei (.c rfl) .k) rfl ?_
    refine W.q (Ev.and (.t rfl) ⟨_, _, rfl, rfl, by first | (simp; done) | (intro hg_ hp_; simp [hp_]; done) | (simp <;> omega; done) | (simp_all; done) | grind⟩) rfl ?_
    refine W.nil ?_
    refine W.then ?_
    refine W.cond (.t rfl) (fun hc_t20 => ?_) (fun hc_t20 => ?_)
    · have hsm : Sty.small1 c0 = c0 + 32 := if_pos (by have h := hc_t20; simp only [Bool.and_eq_true, decide_eq_true_eq] at h; omega)
      refine W.region ?_
      refine W.q (Ev.move (.t rfl)) rfl ?_
      refine W.q (Ev.move (.t rfl)) rfl ?_
      refine W.q (Ev.move (.t rfl)) rfl ?_
      refine W.q (Ev.addw (.t rfl) .k) rfl ?_
      refine W.q (Ev.subw (.t rfl) .k) rfl ?_
      refine W.is (t := 25) (g := true) (av' := AV.u8 (Sty.small1 c0)) rfl (congrArg (fun z => AV.lit (.int .u8 z)) (by rw [wrap8, wrap8, hsm, UInt8.toNat_add]; simp; omega)) ?_
      refine W.q (Ev.ata 0 (.t rfl) rfl (.t rfl) Tryz.underlying61 ty5 (fun _ => by rw [List.length_map, Sty.smallT_len]; omega)) rfl ?_
      refine W.sta 0 i 0 (e := AV.u8 c0) (e' := AV.u8 (Sty.small1 c0)) (.t rfl) (.t rfl) rfl hga (by omega) ty5 rfl rfl rfl rfl rfl rfl rfl ?_
      refine W.nil ?_
      refine W.blk_normal ?_
      refine W.then ?_
      refine W.region ?_
      first | refine W.q (Ev.add (.t rfl) .k (fun _ => by omega)) rfl ?_ | refine W.q (Ev.addw (.t rfl) .k) rfl ?_
      refine W.q (Ev.move (.t rfl)) rfl ?_
      refine W.nil ?_
      refine W.then ?_
      refine W.reach (D := []) (i + 1) ⟨rfl, rfl, rfl, rfl, trivial⟩ (by rw [List.append_nil]; (try dsimp only); rw [hsn]; exact .refl _) ⟨hlt, by show s.length - (i + 1) < s.length - i; omega⟩
    · have hsm : Sty.small1 c0 = c0 := if_neg (by intro h; have h2 := Bool.eq_false_iff.1 hc_t20; apply h2; simp only [Bool.and_eq_true, decide_eq_true_eq]; omega)
      rw [hsm, set_same hga] at hsn
      refine W.skip ?_
      refine W.blk_normal ?_
      refine W.then ?_
      refine W.region ?_
      first | refine W.q (Ev.add (.t rfl) .k (fun _ => by omega)) rfl ?_ | refine W.q (Ev.addw (.t rfl) .k) rfl ?_
      refine W.q (Ev.move (.t rfl)) rfl ?_
      refine W.nil ?_
      refine W.then ?_
      refine W.reach (D := []) (i + 1) ⟨rfl, rfl, rfl, rfl, trivial⟩ (by (try rw [List.append_nil]); (try dsimp only); rw [← hsn]) ⟨hlt, by show s.length - (i + 1) < s.length - i; omega⟩
  · subst hend
    rw [Sty.smallT_all]
    refine W.seq ?_
    refine W.region ?_
    refine W.q (Ev.lti (.t rfl) (.t rfl)) rfl ?_
    refine W.nil ?_
    refine W.then ?_
    refine W.seq ?_
    refine W.is (t := 11) (g := true) (av' := .lit (.bool false)) rfl (congrArg (fun b => AV.lit (.bool b)) (by exact decide_eq_false (by omega))) ?_
    refine W.condF (.t rfl) ?_
    refine W.exit ?_
    refine W.then_exit ?_
    refine W.then_exit ?_
    refine W.blk_hit ?_
    refine W.then ?_
    refine W.seq ?_
    refine W.region ?_
    refine W.q (Ev.move (.t rfl)) rfl ?_
    first | refine W.q (Ev.b2s 0 (.t rfl) rfl Tryz.underlying61 Tryz.underlying5 Tryz.underlying9) rfl ?_ | refine W.q (Ev.b2s 1 (.t rfl) rfl Tryz.underlying61 Tryz.underlying5 Tryz.underlying9) rfl ?_ | refine W.q (Ev.b2s 2 (.t rfl) rfl Tryz.underlying61 Tryz.underlying5 Tryz.underlying9) rfl ?_ | refine W.q (Ev.b2s 3 (.t rfl) rfl Tryz.underlying61 Tryz.underlying5 Tryz.underlying9) rfl ?_
    refine W.q (Ev.assign (.t rfl)) rfl ?_
    refine W.nil ?_
    refine W.then ?_
    refine W.ret ?_
    refine W.retn (M' := []) (D := _) (rs := [.tmp 2]) (avs := [_]) Tryz.results23 ⟨rfl, trivial⟩ rfl (.refl _) ?_
    exact ⟨rfl, rfl⟩

end WSmall

end Go.Proofs.YtgjndpgcpohnoaaGreatDoor
end

section
set_option linter.unusedVariables false
set_option linter.unusedSimpArgs false
set_option maxRecDepth 100000
namespace Go.Proofs.YtgjndpgcpohnoaaGreatDoor
open Go.Vl

namespace WScheme

theorem c_letter (c : UInt8) : FnP Tryz.prog 22 [AV.u8 c] (.bool (Url.letter c)) :=  by
  refine FnC.mk Tryz.func22 (by kernel_rfl) rfl Tryz.ntmps22 rfl (fun w0 F => ?_)
  refine W.seq ?_
  refine W.region ?_
  refine W.q (Ev.assign .k) rfl ?_
  refine W.nil ?_
  refine W.then ?_
  refine W.seq ?_
  refine W.region ?_
  refine W.q (Ev.move (.t rfl)) rfl ?_
  refine W.q (Ev.gei (.t rfl) .k) rfl ?_
  refine W.q (Ev.move (.t rfl)) rfl ?_
  refine W.qgT rfl rfl (Ev.move (.t rfl)) rfl ?_
  refine W.qgT rfl rfl (Ev.lei (.c rfl) .k) rfl ?_
  refine W.q (Ev.and (.t rfl) ⟨_, _, rfl, rfl, by first | (simp; done) | (intro hg_ hp_; simp [hp_]; done) | (simp <;> omega; done) | (simp_all; done) | grind⟩) rfl ?_
  refine W.q (Ev.move (.t rfl)) rfl ?_
  refine W.qgF rfl rfl (Ev.move (.t rfl)) rfl ?_
  refine W.qgF rfl rfl (Ev.gei (.c rfl) .k) rfl ?_
  refine W.qgF rfl rfl (Ev.move (.c rfl)) rfl ?_
  refine W.qgT' rfl rfl (Ev.move (.t rfl)) rfl ?_
  refine W.qgT' rfl rfl (Ev.lei (.c rfl) .k) rfl ?_
  refine W.qgF rfl rfl (Ev.and (.c rfl) ⟨_, _, rfl, rfl, by first | (simp; done) | (intro hg_ hp_; simp [hp_]; done) | (simp <;> omega; done) | (simp_all; done) | grind⟩) rfl ?_
  refine W.q (Ev.or (.t rfl) ⟨_, _, rfl, rfl, by first | (simp; done) | (intro hg_ hp_; simp [hp_]; done) | (simp <;> omega; done) | (simp_all; done) | grind⟩) rfl ?_
  refine W.q (Ev.assign (.t rfl)) rfl ?_
  refine W.nil ?_
  refine W.then ?_
  refine W.ret ?_
  refine W.retn (M' := []) (rs := [.tmp 2]) (avs := [_]) Tryz.results22 ⟨rfl, trivial⟩ rfl (.refl _) ?_
  exact ⟨congrArg AV.bool (Url.letter_prog c), rfl⟩

theorem c_Scheme (s : List UInt8) (hs : s.length ≤ 4194304) : FnP Tryz.prog 15 [.str s] (.tup [.str (Url.scheme s).1, .bool (Url.scheme s).2]) :=  by
  refine FnC.mk Tryz.func15 (by kernel_rfl) rfl Tryz.ntmps15 rfl (fun w0 F => ?_)
  obtain ⟨u, hu⟩ : ∃ u, Url.strip s = u := ⟨_, rfl⟩
  have hul := Url.strip_len s
  have cS := WStrip.c_Strip s (by omega)
  rw [hu] at hul cS
  have hsc : Url.scheme s = Url.schF [] u := by unfold Url.scheme; rw [hu]
  refine W.seq ?_
  refine W.region ?_
  refine W.q (Ev.assign .k) rfl ?_
  refine W.q (Ev.assign .k) rfl ?_
  refine W.nil ?_
  refine W.then ?_
  refine W.seq ?_
  refine W.region ?_
  refine W.q (Ev.move (.t rfl)) rfl ?_
  refine W.callp (cS) ⟨(.t rfl), trivial⟩ rfl ?_
  refine W.q (Ev.assign (.t rfl)) rfl ?_
  refine W.nil ?_
  refine W.then ?_
  refine W.seq ?_
  refine W.seq ?_
  refine W.region ?_
  refine W.q (Ev.move (.t rfl)) rfl ?_
  refine W.q (Ev.lens (.t rfl) Tryz.underlying9) rfl ?_
  refine W.q (Ev.move .k) rfl ?_
  refine W.nil ?_
  refine W.then ?_
  refine W.block ?_
  refine W.loop (D := []) (ι := Nat) (fun i => [(10, true, .int (i : Int)), (9, true, .int (u.length : Int)), (0, true, .str u)]) (fun _ => []) (fun i => i ≤ u.length ∧ Url.schF [] u = Url.schF (u.take i) (u.drop i)) (fun i => u.length - i) 0 ⟨rfl, rfl, rfl, trivial⟩ (.refl _) ⟨Nat.zero_le _, by simp⟩ ?_
  rintro i ⟨hi, hi2⟩
  dsimp only at hi hi2 ⊢
  rcases (show i < u.length ∨ i = u.length from by omega) with hlt | hend
  · have hat := Url.schF_at u i hlt
    obtain ⟨c, hc⟩ : ∃ c, u.getD i 0 = c := ⟨_, rfl⟩
    rw [hc] at hat
    refine W.seq ?_
    refine W.region ?_
    refine W.q (Ev.lti (.t rfl) (.t rfl)) rfl ?_
    refine W.nil ?_
    refine W.then ?_
    refine W.seq ?_
    refine W.is (t := 11) (g := true) (av' := .lit (.bool true)) rfl (congrArg (fun b => AV.lit (.bool b)) (by exact decide_eq_true (by omega))) ?_
    refine W.condT (.t rfl) ?_
    refine W.skip ?_
    refine W.then ?_
    refine W.seq ?_
    refine W.block ?_
    refine W.seq ?_
    refine W.region ?_
    refine W.q (Ev.move (.t rfl)) rfl ?_
    refine W.q (Ev.assign (.t rfl)) rfl ?_
    refine W.nil ?_
    refine W.then ?_
    refine W.seq ?_
    refine W.region ?_
    refine W.q (Ev.move (.t rfl)) rfl ?_
    refine W.q (Ev.move (.t rfl)) rfl ?_
    refine W.q (Ev.ats' (.t rfl) (.t rfl) Tryz.underlying9 (fun hg => by omega)) rfl ?_
    refine W.is (t := 15) (g := true) (av' := AV.u8 c) rfl (by rw [show ((i : Int)).toNat = i from rfl, hc]) ?_
    refine W.q (Ev.assign (.t rfl)) rfl ?_
    refine W.nil ?_
    refine W.then ?_
    refine W.block ?_
    refine W.seq ?_
    refine W.seq ?_
    refine W.region ?_
    refine W.q (Ev.move (.t rfl)) rfl ?_
    refine W.callp (c_letter c) ⟨(.t rfl), trivial⟩ rfl ?_
    refine W.q (Ev.assign (.t rfl)) rfl ?_
    refine W.nil ?_
    refine W.then ?_
    refine W.cond (.t rfl) (fun hc_t16 => ?_) (fun hc_t16 => ?_)
    · have hcl : Url.letter c = true := hc_t16
      refine W.skip ?_
      refine W.then ?_
      refine W.is (t := 16) (g := true) (av' := .lit (.bool true)) rfl (congrArg (fun b => AV.lit (.bool b)) (by exact hcl)) ?_
      refine W.condT (.t rfl) ?_
      refine W.skip ?_
      refine W.blk_normal ?_
      refine W.blk_normal ?_
      refine W.then ?_
      refine W.region ?_
      first | refine W.q (Ev.add (.t rfl) .k (fun _ => by omega)) rfl ?_ | refine W.q (Ev.addw (.t rfl) .k) rfl ?_
      refine W.q (Ev.move (.t rfl)) rfl ?_
      refine W.nil ?_
      refine W.then ?_
      refine W.reach (D := []) (i + 1) ⟨rfl, rfl, rfl, trivial⟩ (.refl _) ⟨⟨by show i + 1 ≤ _; omega, by rw [hi2, hat, if_pos (by rw [hcl]; rfl)]⟩, by show _ - (i + 1) < _; omega⟩
    · have hcl : Url.letter c = false := hc_t16
      refine W.region ?_
      refine W.q (Ev.move (.t rfl)) rfl ?_
      refine W.q (Ev.gti (.t rfl) .k) rfl ?_
      refine W.q (Ev.move (.t rfl)) rfl ?_
      refine W.qgT rfl rfl (Ev.move (.t rfl)) rfl ?_
      refine W.qgT rfl rfl (Ev.gei (.c rfl) .k) rfl ?_
      refine W.qgT rfl rfl (Ev.move (.c rfl)) rfl ?_
      refine W.qgT' rfl rfl (Ev.move (.t rfl)) rfl ?_
      refine W.qgT' rfl rfl (Ev.lei (.c rfl) .k) rfl ?_
      refine W.qgT rfl rfl (Ev.and (.c rfl) ⟨_, _, rfl, rfl, by first | (simp; done) | (intro hg_ hp_; simp [hp_]; done) | (simp <;> omega; done) | (simp_all; done) | grind⟩) rfl ?_
      refine W.qgT rfl rfl (Ev.move (.c rfl)) rfl ?_
      refine W.qgF' rfl rfl (Ev.move (.t rfl)) rfl ?_
      refine W.qgF' rfl rfl (Ev.eqi (.c rfl) .k) rfl ?_
      refine W.qgT rfl rfl (Ev.or (.c rfl) ⟨_, _, rfl, rfl, by first | (simp; done) | (intro hg_ hp_; simp [hp_]; done) | (simp <;> omega; done) | (simp_all; done) | grind⟩) rfl ?_
      refine W.qgT rfl rfl (Ev.move (.c rfl)) rfl ?_
      refine W.qgF' rfl rfl (Ev.move (.t rfl)) rfl ?_
      refine W.qgF' rfl rfl (Ev.eqi (.c rfl) .k) rfl ?_
      refine W.qgT rfl rfl (Ev.or (.c rfl) ⟨_, _, rfl, rfl, by first | (simp; done) | (intro hg_ hp_; simp [hp_]; done) | (simp <;> omega; done) | (simp_all; done) | grind⟩) rfl ?_
      refine W.qgT rfl rfl (Ev.move (.c rfl)) rfl ?_
      refine W.qgF' rfl rfl (Ev.move (.t rfl)) rfl ?_
      refine W.qgF' rfl rfl (Ev.eqi (.c rfl) .k) rfl ?_
      refine W.qgT rfl rfl (Ev.or (.c rfl) ⟨_, _, rfl, rfl, by first | (simp; done) | (intro hg_ hp_; simp [hp_]; done) | (simp <;> omega; done) | (simp_all; done) | grind⟩) rfl ?_
      refine W.q (Ev.and (.t rfl) ⟨_, _, rfl, rfl, by first | (simp; done) | (intro hg_ hp_; simp [hp_]; done) | (simp <;> omega; done) | (simp_all; done) | grind⟩) rfl ?_
      refine W.is (t := 40) (g := true) (av' := .bool (decide (0 < i) && Url.more c)) rfl (congrArg AV.bool (Url.more_prog i c)) ?_
      refine W.q (Ev.assign (.t rfl)) rfl ?_
      refine W.nil ?_
      refine W.then ?_
      refine W.cond (.t rfl) (fun hc_t16 => ?_) (fun hc_t16 => ?_)
      · have hcm : (decide (0 < i) && Url.more c) = true := hc_t16
        refine W.skip ?_
        refine W.blk_normal ?_
        refine W.blk_normal ?_
        refine W.then ?_
        refine W.region ?_
        first | refine W.q (Ev.add (.t rfl) .k (fun _ => by omega)) rfl ?_ | refine W.q (Ev.addw (.t rfl) .k) rfl ?_
        refine W.q (Ev.move (.t rfl)) rfl ?_
        refine W.nil ?_
        refine W.then ?_
        refine W.reach (D := []) (i + 1) ⟨rfl, rfl, rfl, trivial⟩ (.refl _) ⟨⟨by show i + 1 ≤ _; omega, by rw [hi2, hat, if_pos (by rw [hcm]; simp)]⟩, by show _ - (i + 1) < _; omega⟩
      · have hcm : (decide (0 < i) && Url.more c) = false := hc_t16
        rw [if_neg (by rw [hcl, hcm]; simp)] at hat
        refine W.seq ?_
        refine W.region ?_
        refine W.q (Ev.move (.t rfl)) rfl ?_
        refine W.q (Ev.eqi (.t rfl) .k) rfl ?_
        refine W.q (Ev.move (.t rfl)) rfl ?_
        refine W.qgT rfl rfl (Ev.move (.t rfl)) rfl ?_
        refine W.qgT rfl rfl (Ev.gti (.c rfl) .k) rfl ?_
        refine W.q (Ev.and (.t rfl) ⟨_, _, rfl, rfl, by first | (simp; done) | (intro hg_ hp_; simp [hp_]; done) | (simp <;> omega; done) | (simp_all; done) | grind⟩) rfl ?_
        refine W.is (t := 47) (g := true) (av' := .bool (c == 58 && decide (0 < i))) rfl (congrArg AV.bool (Url.colon_prog i c)) ?_
        refine W.q (Ev.assign (.t rfl)) rfl ?_
        refine W.nil ?_
        refine W.then ?_
        refine W.cond (.t rfl) (fun hc_t41 => ?_) (fun hc_t41 => ?_)
        · have hr : Url.schF [] u = (Sty.small (u.take i), true) := by rw [hi2, hat, if_pos hc_t41]
          refine W.seq ?_
          refine W.region ?_
          refine W.q (Ev.move (.t rfl)) rfl ?_
          refine W.q (Ev.move (.t rfl)) rfl ?_
          refine W.q (Ev.subTake (n := i) (.t rfl) Tryz.underlying9 (.t rfl) (fun _ => by omega)) rfl ?_
          refine W.callp (WSmall.c_Small (u.take i) (by rw [List.length_take]; omega)) ⟨(.t rfl), trivial⟩ rfl ?_
          refine W.q (Ev.assign (.t rfl)) rfl ?_
          refine W.q (Ev.assign .k) rfl ?_
          refine W.nil ?_
          refine W.then ?_
          refine W.ret ?_
          refine W.blk_ret ?_
          refine W.blk_ret ?_
          refine W.then_ret ?_
          refine W.then_ret ?_
          refine W.blk_ret ?_
          refine W.then_ret ?_
          refine W.retn (M' := []) (rs := [.tmp 2, .tmp 3]) (avs := [_, _]) Tryz.results15 ⟨rfl, rfl, trivial⟩ rfl (.refl _) ?_
          exact ⟨by rw [hsc, hr]; rfl, rfl⟩
        · have hr : Url.schF [] u = ([], false) := by rw [hi2, hat, if_neg (by rw [hc_t41]; simp)]
          refine W.seq ?_
          refine W.region ?_
          refine W.q (Ev.assign .k) rfl ?_
          refine W.q (Ev.assign .k) rfl ?_
          refine W.nil ?_
          refine W.then ?_
          refine W.ret ?_
          refine W.blk_ret ?_
          refine W.blk_ret ?_
          refine W.then_ret ?_
          refine W.then_ret ?_
          refine W.blk_ret ?_
          refine W.then_ret ?_
          refine W.retn (M' := []) (rs := [.tmp 2, .tmp 3]) (avs := [_, _]) Tryz.results15 ⟨rfl, rfl, trivial⟩ rfl (.refl _) ?_
          exact ⟨by rw [hsc, hr]; rfl, rfl⟩
  · have hr : Url.schF [] u = ([], false) := by rw [hi2, List.drop_of_length_le (by omega)]; rfl
    refine W.seq ?_
    refine W.region ?_
    refine W.q (Ev.lti (.t rfl) (.t rfl)) rfl ?_
    refine W.nil ?_
    refine W.then ?_
    refine W.seq ?_
    refine W.is (t := 11) (g := true) (av' := .lit (.bool false)) rfl (congrArg (fun b => AV.lit (.bool b)) (by exact decide_eq_false (by omega))) ?_
    refine W.condF (.t rfl) ?_
    refine W.exit ?_
    refine W.then_exit ?_
    refine W.then_exit ?_
    refine W.blk_hit ?_
    refine W.then ?_
    refine W.seq ?_
    refine W.region ?_
    refine W.q (Ev.assign .k) rfl ?_
    refine W.q (Ev.assign .k) rfl ?_
    refine W.nil ?_
    refine W.then ?_
    refine W.ret ?_
    refine W.retn (M' := []) (rs := [.tmp 2, .tmp 3]) (avs := [_, _]) Tryz.results15 ⟨rfl, rfl, trivial⟩ rfl (.refl _) ?_
    exact ⟨by rw [hsc, hr]; rfl, rfl⟩

end WScheme

end Go.Proofs.YtgjndpgcpohnoaaGreatDoor
end

section
set_option linter.unusedVariables false
set_option linter.unusedSimpArgs false
set_option maxRecDepth 100000
namespace Go.Proofs.YtgjndpgcpohnoaaGreatDoor
open Go.Vl

namespace WLib
theorem ty9 : Ty Tryz.prog 9 1 16 (.string ⟨#[]⟩) := Ty.of (by kernel_rfl)
theorem ag9 : IsAgg Tryz.prog 9 false := ⟨_, Tryz.underlying9, rfl⟩
theorem c_Index (ns : List (List UInt8)) (v : List UInt8) (hn : ns.length ≤ 1099511627776) : FnC Tryz.prog 25 [.sl 1 (ns.map AV.str), .str v] [] (fun r M => M = [] ∧ ∃ k : Int, r = .int k ∧ decide (0 ≤ k) = ns.any fun s => v == s) :=  by
  refine FnC.mk Tryz.func25 (by kernel_rfl) rfl Tryz.ntmps25 rfl (fun w0 F => ?_)
  have hnl : (ns.map AV.str).length = ns.length := List.length_map ..
  refine W.seq ?_
  refine W.region ?_
  refine W.q (Ev.assign .k) rfl ?_
  refine W.nil ?_
  refine W.then ?_
  refine W.seq ?_
  refine W.seq ?_
  refine W.region ?_
  refine W.q (Ev.move (.t rfl)) rfl ?_
  first | refine W.q (Ev.lensl (.t rfl) Tryz.underlying23) rfl ?_ | refine W.q (Ev.lenar (i := 0) (.t rfl) rfl Tryz.underlying23) rfl ?_ | refine W.q (Ev.lenar (i := 1) (.t rfl) rfl Tryz.underlying23) rfl ?_ | refine W.q (Ev.lenar (i := 2) (.t rfl) rfl Tryz.underlying23) rfl ?_ | refine W.q (Ev.lenar (i := 3) (.t rfl) rfl Tryz.underlying23) rfl ?_
  refine W.q (Ev.move .k) rfl ?_
  refine W.nil ?_
  refine W.then ?_
  refine W.block ?_
  refine W.loop (D := []) (ι := Nat) (fun i => [(8, true, .int (i : Int)), (7, true, .int ((ns.map AV.str).length : Int)), (0, true, .sl 1 (ns.map AV.str)), (1, true, .str v)]) (fun _ => []) (fun i => i ≤ ns.length ∧ ∀ d ∈ ns.take i, (v == d) = false) (fun i => ns.length - i) 0 ⟨rfl, rfl, rfl, rfl, trivial⟩ (.refl _) ⟨Nat.zero_le _, by simp⟩ ?_
  rintro i ⟨hi1, hi2⟩
  dsimp only at hi1 hi2 ⊢
  rcases (show i < ns.length ∨ i = ns.length from by omega) with hlt | hend
  · have hga := getD_mapG AV.str [] ns i hlt
    refine W.seq ?_
    refine W.region ?_
    refine W.q (Ev.lti (.t rfl) (.t rfl)) rfl ?_
    refine W.nil ?_
    refine W.then ?_
    refine W.seq ?_
    refine W.is (t := 9) (g := true) (av' := .lit (.bool true)) rfl (congrArg (fun b => AV.lit (.bool b)) (by simp; omega)) ?_
    refine W.condT (.t rfl) ?_
    refine W.skip ?_
    refine W.then ?_
    refine W.seq ?_
    refine W.block ?_
    refine W.seq ?_
    refine W.region ?_
    refine W.q (Ev.move (.t rfl)) rfl ?_
    refine W.q (Ev.assign (.t rfl)) rfl ?_
    refine W.nil ?_
    refine W.then ?_
    refine W.seq ?_
    refine W.region ?_
    refine W.q (Ev.move (.t rfl)) rfl ?_
    refine W.q (Ev.move (.t rfl)) rfl ?_
    refine W.q (Ev.move (.t rfl)) rfl ?_
    refine W.q (Ev.at (E := 9) (.t rfl) (.t rfl) Tryz.underlying23 ty9 (fun _ => ⟨by omega, hga⟩) rfl rfl) rfl ?_
    first | refine W.q (Ev.lde1 (.t rfl) ag9) rfl ?_ | refine W.q (Ev.ldb1 0 (.t rfl) rfl ag9 rfl) rfl ?_ | refine W.q (Ev.ldb1 1 (.t rfl) rfl ag9 rfl) rfl ?_ | refine W.q (Ev.ldb1 2 (.t rfl) rfl ag9 rfl) rfl ?_ | refine W.q (Ev.ldb1 3 (.t rfl) rfl ag9 rfl) rfl ?_
    refine W.q (Ev.eqs (.t rfl) (.t rfl)) rfl ?_
    refine W.nil ?_
    refine W.then ?_
    refine W.cond (.t rfl) (fun hc_t16 => ?_) (fun hc_t16 => ?_)
    · have hq : (ns.any fun s => v == s) = true := by rw [List.any_eq_true]; exact ⟨_, getD_memG [] ns i hlt, hc_t16⟩
      refine W.seq ?_
      refine W.region ?_
      refine W.q (Ev.move (.t rfl)) rfl ?_
      refine W.q (Ev.assign (.t rfl)) rfl ?_
      refine W.nil ?_
      refine W.then ?_
      refine W.ret ?_
      refine W.blk_ret ?_
      refine W.then_ret ?_
      refine W.then_ret ?_
      refine W.blk_ret ?_
      refine W.then_ret ?_
      refine W.retn (M' := []) (rs := [.tmp 4]) (avs := [_]) Tryz.results25 ⟨rfl, trivial⟩ rfl (.refl _) ?_
      refine ⟨rfl, _, rfl, ?_⟩
      rw [hq]
      first | rfl | (simp; done) | (simp; omega)
    · have hq : (v == ns.getD i []) = false := hc_t16
      refine W.skip ?_
      refine W.blk_normal ?_
      refine W.then ?_
      refine W.region ?_
      first | refine W.q (Ev.add (.t rfl) .k (fun _ => by omega)) rfl ?_ | refine W.q (Ev.addw (.t rfl) .k) rfl ?_
      refine W.q (Ev.move (.t rfl)) rfl ?_
      refine W.nil ?_
      refine W.then ?_
      refine W.reach (D := []) (i + 1) ⟨rfl, rfl, rfl, rfl, trivial⟩ (.refl _) ⟨⟨by omega, ?_⟩, by omega⟩
      rw [take_getDG [] ns i hlt]
      intro d hd
      cases List.mem_append.1 hd with
      | inl h => exact hi2 d h
      | inr h => rw [List.mem_singleton.1 h]; exact hq
  · rw [List.take_of_length_le (by omega)] at hi2
    have hq := any_take_false (fun d => v == d) ns hi2
    refine W.seq ?_
    refine W.region ?_
    refine W.q (Ev.lti (.t rfl) (.t rfl)) rfl ?_
    refine W.nil ?_
    refine W.then ?_
    refine W.seq ?_
    refine W.is (t := 9) (g := true) (av' := .lit (.bool false)) rfl (congrArg (fun b => AV.lit (.bool b)) (by simp; omega)) ?_
    refine W.condF (.t rfl) ?_
    refine W.exit ?_
    refine W.then_exit ?_
    refine W.then_exit ?_
    refine W.blk_hit ?_
    refine W.then ?_
    refine W.seq ?_
    refine W.region ?_
    refine W.q (Ev.assign .k) rfl ?_
    refine W.nil ?_
    refine W.then ?_
    refine W.ret ?_
    refine W.retn (M' := []) (rs := [.tmp 4]) (avs := [_]) Tryz.results25 ⟨rfl, trivial⟩ rfl (.refl _) ?_
    refine ⟨rfl, _, rfl, ?_⟩
    rw [hq]
    first | rfl | (simp; done) | (simp; omega)

theorem c_Contains (ns : List (List UInt8)) (v : List UInt8) (hn : ns.length ≤ 1099511627776) : FnP Tryz.prog 19 [.sl 1 (ns.map AV.str), .str v] (.bool (ns.any fun s => v == s)) :=  by
  refine FnC.mk Tryz.func19 (by kernel_rfl) rfl Tryz.ntmps19 rfl (fun w0 F => ?_)
  refine W.seq ?_
  refine W.region ?_
  refine W.q (Ev.assign .k) rfl ?_
  refine W.nil ?_
  refine W.then ?_
  refine W.seq ?_
  refine W.region ?_
  refine W.q (Ev.move (.t rfl)) rfl ?_
  refine W.q (Ev.move (.t rfl)) rfl ?_
  refine W.call (c_Index ns v hn) ⟨(.t rfl), (.t rfl), trivial⟩ (.refl _) rfl ?_
  rintro _ _ ⟨rfl, k, rfl, hk⟩
  refine W.q (Ev.gei (.t rfl) .k) rfl ?_
  refine W.q (Ev.assign (.t rfl)) rfl ?_
  refine W.nil ?_
  refine W.then ?_
  refine W.ret ?_
  refine W.retn (M' := []) (rs := [.tmp 4]) (avs := [_]) Tryz.results19 ⟨rfl, trivial⟩ rfl (.refl _) ?_
  exact ⟨congrArg AV.bool hk, rfl⟩

end WLib

end Go.Proofs.YtgjndpgcpohnoaaGreatDoor
end

section
set_option linter.unusedVariables false
set_option linter.unusedSimpArgs false
set_option maxRecDepth 100000
namespace Go.Proofs.YtgjndpgcpohnoaaGreatDoor
open Go.Vl

namespace WSafe
theorem ty9 : Ty Tryz.prog 9 1 16 (.string ⟨#[]⟩) := Ty.of (by kernel_rfl)
theorem ag9 : IsAgg Tryz.prog 9 false := ⟨_, Tryz.underlying9, rfl⟩
theorem c_Of (s : List UInt8) (hs : s.length ≤ 4194304) (l : List (List UInt8)) (hl : l.length ≤ 1000) : FnP Tryz.prog 20 [.str s, .sl 1 (l.map AV.str)] (.bool (Url.of s l)) :=  by
  refine FnC.mk Tryz.func20 (by kernel_rfl) rfl Tryz.ntmps20 rfl (fun w0 F => ?_)
  refine W.seq ?_
  refine W.region ?_
  refine W.q (Ev.assign .k) rfl ?_
  refine W.nil ?_
  refine W.then ?_
  refine W.seq ?_
  refine W.region ?_
  refine W.q (Ev.move (.t rfl)) rfl ?_
  refine W.callp (WScheme.c_Scheme s hs) ⟨(.t rfl), trivial⟩ rfl ?_
  refine W.q (Ev.move (.t rfl)) rfl ?_
  refine W.q (Ev.extract (.t rfl) rfl) rfl ?_
  refine W.q (Ev.extract (.t rfl) rfl) rfl ?_
  refine W.q (Ev.assign (.t rfl)) rfl ?_
  refine W.q (Ev.assign (.t rfl)) rfl ?_
  refine W.nil ?_
  refine W.then ?_
  refine W.seq ?_
  refine W.region ?_
  refine W.q (Ev.move (.t rfl)) rfl ?_
  refine W.q (Ev.not (.t rfl)) rfl ?_
  refine W.q (Ev.move (.t rfl)) rfl ?_
  refine W.qgF rfl rfl (Ev.move (.t rfl)) rfl ?_
  refine W.qgF rfl rfl (Ev.move (.t rfl)) rfl ?_
  refine W.callgF (Min := []) (caps := []) (avs := [_, _]) rfl rfl (fun hg => WLib.c_Contains l (Url.scheme s).1 (by omega)) (fun hg => .f) (fun hg => ⟨(.i rfl (fun _ => hg)), (.i rfl (fun _ => hg)), trivial⟩) rfl (.refl _) rfl ?_
  refine W.q (Ev.or (.t rfl) ⟨_, _, rfl, rfl, by first | (simp; done) | (intro hg_ hp_; simp [hp_]; done) | (simp <;> omega; done) | (simp_all; done) | grind⟩) rfl ?_
  refine W.q (Ev.assign (.t rfl)) rfl ?_
  refine W.nil ?_
  refine W.then ?_
  refine W.ret ?_
  refine W.retn (M' := []) (rs := [.tmp 4]) (avs := [_]) Tryz.results20 ⟨rfl, trivial⟩ rfl (.refl _) ?_
  exact ⟨rfl, rfl⟩

theorem c_Schemes (l : List (List UInt8)) (hl : l.length ≤ 40) (hx : ∀ x ∈ l, x.length ≤ 1000 ∧ Url.scheme (x ++ [58]) = (x, true)) : FnP Tryz.prog 12 [.sl 1 (l.map AV.str)] (.int 0) :=  by
  refine FnC.mk Tryz.func12 (by kernel_rfl) rfl Tryz.ntmps12 rfl (fun w0 F => ?_)
  have hll : (l.map AV.str).length = l.length := List.length_map ..
  refine W.seq ?_
  refine W.region ?_
  refine W.q (Ev.assign .k) rfl ?_
  refine W.nil ?_
  refine W.then ?_
  refine W.seq ?_
  refine W.seq ?_
  refine W.region ?_
  refine W.q (Ev.move (.t rfl)) rfl ?_
  first | refine W.q (Ev.lensl (.t rfl) Tryz.underlying23) rfl ?_ | refine W.q (Ev.lenar (i := 0) (.t rfl) rfl Tryz.underlying23) rfl ?_ | refine W.q (Ev.lenar (i := 1) (.t rfl) rfl Tryz.underlying23) rfl ?_ | refine W.q (Ev.lenar (i := 2) (.t rfl) rfl Tryz.underlying23) rfl ?_ | refine W.q (Ev.lenar (i := 3) (.t rfl) rfl Tryz.underlying23) rfl ?_
  refine W.q (Ev.gti (.t rfl) .k) rfl ?_
  refine W.nil ?_
  refine W.then ?_
  refine W.is (t := 9) (g := true) (av' := .lit (.bool false)) rfl (congrArg (fun b => AV.lit (.bool b)) (by exact decide_eq_false (by omega))) ?_
  refine W.condF (.t rfl) ?_
  refine W.skip ?_
  refine W.then ?_
  refine W.seq ?_
  refine W.seq ?_
  refine W.region ?_
  refine W.q (Ev.move (.t rfl)) rfl ?_
  first | refine W.q (Ev.lensl (.t rfl) Tryz.underlying23) rfl ?_ | refine W.q (Ev.lenar (i := 0) (.t rfl) rfl Tryz.underlying23) rfl ?_ | refine W.q (Ev.lenar (i := 1) (.t rfl) rfl Tryz.underlying23) rfl ?_ | refine W.q (Ev.lenar (i := 2) (.t rfl) rfl Tryz.underlying23) rfl ?_ | refine W.q (Ev.lenar (i := 3) (.t rfl) rfl Tryz.underlying23) rfl ?_
  refine W.q (Ev.move .k) rfl ?_
  refine W.nil ?_
  refine W.then ?_
  refine W.block ?_
  refine W.loop (D := []) (ι := Nat) (fun i => [(12, true, .int (i : Int)), (11, true, .int ((l.map AV.str).length : Int)), (10, true, .sl 1 (l.map AV.str))]) (fun _ => []) (fun i => i ≤ l.length) (fun i => l.length - i) 0 ⟨rfl, rfl, rfl, trivial⟩ (.refl _) (Nat.zero_le _) ?_
  intro i hi
  dsimp only at hi ⊢
  rcases (show i < l.length ∨ i = l.length from by omega) with hlt | hend
  · have hga := getD_mapG AV.str [] l i hlt
    have hxi := hx _ (getD_memG [] l i hlt)
    generalize l.getD i [] = x at hga hxi
    obtain ⟨hx1, hx2⟩ := hxi
    have cS := WScheme.c_Scheme (x ++ [58]) (by rw [List.length_append, List.length_singleton]; omega)
    rw [hx2] at cS
    refine W.seq ?_
    refine W.region ?_
    refine W.q (Ev.lti (.t rfl) (.t rfl)) rfl ?_
    refine W.nil ?_
    refine W.then ?_
    refine W.seq ?_
    refine W.is (t := 13) (g := true) (av' := .lit (.bool true)) rfl (congrArg (fun b => AV.lit (.bool b)) (by exact decide_eq_true (by omega))) ?_
    refine W.condT (.t rfl) ?_
    refine W.skip ?_
    refine W.then ?_
    refine W.seq ?_
    refine W.block ?_
    refine W.seq ?_
    refine W.region ?_
    refine W.q (Ev.at (E := 9) (.t rfl) (.t rfl) Tryz.underlying23 ty9 (fun _ => ⟨by omega, hga⟩) rfl rfl) rfl ?_
    first | refine W.q (Ev.lde1 (.t rfl) ag9) rfl ?_ | refine W.q (Ev.ldb1 0 (.t rfl) rfl ag9 rfl) rfl ?_ | refine W.q (Ev.ldb1 1 (.t rfl) rfl ag9 rfl) rfl ?_ | refine W.q (Ev.ldb1 2 (.t rfl) rfl ag9 rfl) rfl ?_ | refine W.q (Ev.ldb1 3 (.t rfl) rfl ag9 rfl) rfl ?_
    refine W.q (Ev.assign (.t rfl)) rfl ?_
    refine W.nil ?_
    refine W.then ?_
    refine W.seq ?_
    refine W.region ?_
    refine W.q (Ev.move (.t rfl)) rfl ?_
    refine W.q (Ev.cat (.t rfl) .k (fun _ => by first | omega | (simp only [List.length_append]; omega) | (simp [-List.length_flatMap]; omega) | (simp; omega))) rfl ?_
    refine W.callp (cS) ⟨(.t rfl), trivial⟩ rfl ?_
    refine W.q (Ev.move (.t rfl)) rfl ?_
    refine W.q (Ev.extract (.t rfl) rfl) rfl ?_
    refine W.q (Ev.extract (.t rfl) rfl) rfl ?_
    refine W.q (Ev.assign (.t rfl)) rfl ?_
    refine W.q (Ev.assign (.t rfl)) rfl ?_
    refine W.nil ?_
    refine W.then ?_
    refine W.seq ?_
    refine W.region ?_
    refine W.q (Ev.move (.t rfl)) rfl ?_
    refine W.q (Ev.not (.t rfl)) rfl ?_
    refine W.q (Ev.move (.t rfl)) rfl ?_
    refine W.qgF rfl rfl (Ev.move (.t rfl)) rfl ?_
    refine W.qgF rfl rfl (Ev.move (.t rfl)) rfl ?_
    refine W.qgF rfl rfl (Ev.nes (.c rfl) (.c rfl)) rfl ?_
    refine W.q (Ev.or (.t rfl) ⟨_, _, rfl, rfl, by first | (simp; done) | (intro hg_ hp_; simp [hp_]; done) | (simp <;> omega; done) | (simp_all; done) | grind⟩) rfl ?_
    refine W.nil ?_
    refine W.then ?_
    refine W.is (t := 28) (g := true) (av' := .lit (.bool false)) rfl (congrArg (fun b => AV.lit (.bool b)) (by simp)) ?_
    refine W.condF (.t rfl) ?_
    refine W.skip ?_
    refine W.blk_normal ?_
    refine W.then ?_
    refine W.region ?_
    first | refine W.q (Ev.add (.t rfl) .k (fun _ => by omega)) rfl ?_ | refine W.q (Ev.addw (.t rfl) .k) rfl ?_
    refine W.q (Ev.move (.t rfl)) rfl ?_
    refine W.nil ?_
    refine W.then ?_
    refine W.reach (D := []) (i + 1) ⟨rfl, rfl, rfl, trivial⟩ (.refl _) ⟨by show i + 1 ≤ _; omega, by show _ - (i + 1) < _; omega⟩
  · skip
    refine W.seq ?_
    refine W.region ?_
    refine W.q (Ev.lti (.t rfl) (.t rfl)) rfl ?_
    refine W.nil ?_
    refine W.then ?_
    refine W.seq ?_
    refine W.is (t := 13) (g := true) (av' := .lit (.bool false)) rfl (congrArg (fun b => AV.lit (.bool b)) (by exact decide_eq_false (by omega))) ?_
    refine W.condF (.t rfl) ?_
    refine W.exit ?_
    refine W.then_exit ?_
    refine W.then_exit ?_
    refine W.blk_hit ?_
    refine W.then ?_
    refine W.seq ?_
    refine W.region ?_
    refine W.q (Ev.assign .k) rfl ?_
    refine W.nil ?_
    refine W.then ?_
    refine W.ret ?_
    refine W.retn (M' := []) (rs := [.tmp 2]) (avs := [_]) Tryz.results12 ⟨rfl, trivial⟩ rfl (.refl _) ?_
    exact ⟨rfl, rfl⟩

theorem c_Safe (s : List UInt8) (hs : s.length ≤ 4194304) (l : List (List UInt8)) (hl : l.length ≤ 40) (hx : ∀ x ∈ l, x.length ≤ 1000 ∧ Url.scheme (x ++ [58]) = (x, true)) : FnP Tryz.prog 14 [.str s, .sl 1 (l.map AV.str)] (.tup [.bool (Url.of s l), .int 0]) :=  by
  refine FnC.mk Tryz.func14 (by kernel_rfl) rfl Tryz.ntmps14 rfl (fun w0 F => ?_)
  refine W.seq ?_
  refine W.region ?_
  refine W.q (Ev.assign .k) rfl ?_
  refine W.q (Ev.assign .k) rfl ?_
  refine W.nil ?_
  refine W.then ?_
  refine W.seq ?_
  refine W.seq ?_
  refine W.region ?_
  refine W.q (Ev.move (.t rfl)) rfl ?_
  refine W.callp (c_Schemes l hl hx) ⟨(.t rfl), trivial⟩ rfl ?_
  refine W.q (Ev.assign (.t rfl)) rfl ?_
  refine W.nil ?_
  refine W.then ?_
  refine W.seq ?_
  refine W.region ?_
  refine W.q (Ev.move (.t rfl)) rfl ?_
  refine W.q (Ev.nei (.t rfl) .k) rfl ?_
  refine W.nil ?_
  refine W.then ?_
  refine W.is (t := 10) (g := true) (av' := .lit (.bool false)) rfl (congrArg (fun b => AV.lit (.bool b)) (by rfl)) ?_
  refine W.condF (.t rfl) ?_
  refine W.skip ?_
  refine W.then ?_
  refine W.seq ?_
  refine W.region ?_
  refine W.q (Ev.move (.t rfl)) rfl ?_
  refine W.q (Ev.move (.t rfl)) rfl ?_
  refine W.callp (c_Of s hs l (by omega)) ⟨(.t rfl), (.t rfl), trivial⟩ rfl ?_
  refine W.q (Ev.assign (.t rfl)) rfl ?_
  refine W.q (Ev.assign .k) rfl ?_
  refine W.nil ?_
  refine W.then ?_
  refine W.ret ?_
  refine W.retn (M' := []) (rs := [.tmp 4, .tmp 5]) (avs := [_, _]) Tryz.results14 ⟨rfl, rfl, trivial⟩ rfl (.refl _) ?_
  exact ⟨rfl, rfl⟩

end WSafe

end Go.Proofs.YtgjndpgcpohnoaaGreatDoor
end

section
set_option linter.unusedVariables false
set_option linter.unusedSimpArgs false
set_option maxRecDepth 100000
namespace Go.Proofs.YtgjndpgcpohnoaaGreatDoor
open Go.Vl

namespace WLinked
theorem ty9 : Ty Tryz.prog 9 1 16 (.string ⟨#[]⟩) := Ty.of (by kernel_rfl)
theorem ty24 : Ty Tryz.prog 24 1 24 (.slice none 0 0) := Ty.of (by kernel_rfl)
theorem ty35 : Ty Tryz.prog 35 1 24 (.slice none 0 0) := Ty.of (by kernel_rfl)
theorem ty37 : Ty Tryz.prog 37 4 80 (.agg #[.string ⟨#[]⟩, .slice none 0 0, .string ⟨#[]⟩, .slice none 0 0]) := Ty.of (by kernel_rfl)
theorem ag9 : IsAgg Tryz.prog 9 false := ⟨_, Tryz.underlying9, rfl⟩
theorem ag23 : IsAgg Tryz.prog 23 false := ⟨_, Tryz.underlying23, rfl⟩
theorem ag24 : IsAgg Tryz.prog 24 false := ⟨_, Tryz.underlying24, rfl⟩
theorem ag35 : IsAgg Tryz.prog 35 false := ⟨_, Tryz.underlying35, rfl⟩
theorem ag37 : IsAgg Tryz.prog 37 true := ⟨_, Tryz.underlying37, rfl⟩
theorem fa34_0 : FieldAt Tryz.prog 34 0 0 1 false := ⟨_, _, Tryz.underlying34, rfl, rfl, ty9.size, ag9, by decide⟩
theorem fa34_1 : FieldAt Tryz.prog 34 1 1 1 false := ⟨_, _, Tryz.underlying34, rfl, rfl, ty9.size, ag9, by decide⟩
theorem fa37_1 : FieldAt Tryz.prog 37 1 1 1 false := ⟨_, _, Tryz.underlying37, rfl, rfl, ty35.size, ag35, by decide⟩
theorem fa37_3 : FieldAt Tryz.prog 37 3 3 1 false := ⟨_, _, Tryz.underlying37, rfl, rfl, ty24.size, ag24, by decide⟩
theorem ni24 : NotInt Tryz.prog 24 := .inl ⟨_, Tryz.underlying24⟩
theorem c_Linked1 (ns sc : List (List UInt8)) (hns : ns.length ≤ 1000) (hsc : sc.length ≤ 1000) (a : Dc) (ha : a.2.length ≤ 4194304) (b3 b4 : Nat) : FnC Tryz.prog 18 [dav a, .lit (.pointer (some ⟨b3, 0, none⟩)), .lit (.pointer (some ⟨b4, 0, none⟩))] [.box b3 23 [.sl 1 (ns.map AV.str)], .box b4 23 [.sl 1 (sc.map AV.str)]] (fun r M => r = .bool (Lk.bad ns sc a) ∧ M = [.box b3 23 [.sl 1 (ns.map AV.str)], .box b4 23 [.sl 1 (sc.map AV.str)]]) :=  by
  refine FnC.mk Tryz.func18 (by kernel_rfl) rfl Tryz.ntmps18 rfl (fun w0 F => ?_)
  refine W.seq ?_
  refine W.region ?_
  refine W.box (.t rfl) rfl rfl ?_
  intro b3
  refine W.q (Ev.assign .k) rfl ?_
  refine W.nil ?_
  refine W.then ?_
  refine W.seq ?_
  refine W.region ?_
  first | refine W.q (Ev.lde1 (.t rfl) ag23) rfl ?_ | refine W.q (Ev.ldb1 0 (.t rfl) rfl ag23 rfl) rfl ?_ | refine W.q (Ev.ldb1 1 (.t rfl) rfl ag23 rfl) rfl ?_ | refine W.q (Ev.ldb1 2 (.t rfl) rfl ag23 rfl) rfl ?_
  first | refine W.q (Ev.fae (.t rfl) fa34_0 rfl) rfl ?_ | refine W.q (Ev.fab (.t rfl) fa34_0) rfl ?_ | refine W.q (Ev.faa (.t rfl) fa34_0) rfl ?_
  first | refine W.q (Ev.lde1 (.t rfl) ag9) rfl ?_ | refine W.q (Ev.ldb1 0 (.t rfl) rfl ag9 rfl) rfl ?_ | refine W.q (Ev.ldb1 1 (.t rfl) rfl ag9 rfl) rfl ?_ | refine W.q (Ev.ldb1 2 (.t rfl) rfl ag9 rfl) rfl ?_
  refine W.callp (WLib.c_Contains ns a.1 (by omega)) ⟨(.t rfl), (.t rfl), trivial⟩ rfl ?_
  refine W.q (Ev.move (.t rfl)) rfl ?_
  first | refine W.qgT rfl rfl (Ev.fae (.t rfl) fa34_1 rfl) rfl ?_ | refine W.qgT rfl rfl (Ev.fab (.t rfl) fa34_1) rfl ?_ | refine W.qgT rfl rfl (Ev.faa (.t rfl) fa34_1) rfl ?_
  first | refine W.qgT rfl rfl (Ev.lde1 (.c rfl) ag9) rfl ?_ | refine W.qgT rfl rfl (Ev.ldb1 0 (.c rfl) rfl ag9 rfl) rfl ?_ | refine W.qgT rfl rfl (Ev.ldb1 1 (.c rfl) rfl ag9 rfl) rfl ?_ | refine W.qgT rfl rfl (Ev.ldb1 2 (.c rfl) rfl ag9 rfl) rfl ?_
  first | refine W.qgT rfl rfl (Ev.lde1 (.t rfl) ag23) rfl ?_ | refine W.qgT rfl rfl (Ev.ldb1 0 (.t rfl) rfl ag23 rfl) rfl ?_ | refine W.qgT rfl rfl (Ev.ldb1 1 (.t rfl) rfl ag23 rfl) rfl ?_ | refine W.qgT rfl rfl (Ev.ldb1 2 (.t rfl) rfl ag23 rfl) rfl ?_
  refine W.callgT (Min := []) (caps := []) (avs := [_, _]) rfl rfl (fun hg => WSafe.c_Of a.2 ha sc hsc) (fun hg => .f) (fun hg => ⟨(.i rfl (fun _ => hg)), (.i rfl (fun _ => hg)), trivial⟩) rfl (.refl _) rfl ?_
  refine W.qgT rfl rfl (Ev.not (.c rfl)) rfl ?_
  refine W.q (Ev.and (.t rfl) ⟨_, _, rfl, rfl, by first | (simp; done) | (intro hg_ hp_; simp [hp_]; done) | (simp <;> omega; done) | (simp_all; done) | grind⟩) rfl ?_
  refine W.q (Ev.assign (.t rfl)) rfl ?_
  refine W.nil ?_
  refine W.then ?_
  refine W.ret ?_
  refine W.retn (M' := [_, _]) (D := [_]) (rs := [.tmp 4]) (avs := [_]) Tryz.results18 ⟨rfl, trivial⟩ rfl (List.perm_append_comm (l₁ := [_])) ?_
  exact ⟨rfl, rfl⟩

theorem c_Linked_step (ns sc : List (List UInt8)) (hns : ns.length ≤ 1000) (hsc : sc.length ≤ 1000) (n : Nat) (hn : n ≤ 16777216) (ih : ∀ l, Nd.szs l < n → Lk.voks 4194304 l → FnP Tryz.prog 13 [.sl 1 (ns.map AV.str), .sl 1 (sc.map AV.str), .sl 4 (l.map Nd.av)] (.sl 4 ((Lk.lks ns sc l).map Nd.av))) (l : List Nd) (hl : Nd.szs l = n) (hv : Lk.voks 4194304 l) : FnP Tryz.prog 13 [.sl 1 (ns.map AV.str), .sl 1 (sc.map AV.str), .sl 4 (l.map Nd.av)] (.sl 4 ((Lk.lks ns sc l).map Nd.av)) :=  by
  refine FnC.mk Tryz.func13 (by kernel_rfl) rfl Tryz.ntmps13 rfl (fun w0 F => ?_)
  have hll : (l.map Nd.av).length = l.length := List.length_map ..
  have hsl := Nd.szs_len l
  refine W.seq ?_
  refine W.region ?_
  refine W.box (.t rfl) rfl rfl ?_
  intro b3
  refine W.box (.t rfl) rfl rfl ?_
  intro b4
  refine W.q (Ev.assign .k) rfl ?_
  refine W.nil ?_
  refine W.then ?_
  refine W.seq ?_
  refine W.region ?_
  refine W.q (Ev.assign .k) rfl ?_
  refine W.nil ?_
  refine W.then ?_
  refine W.seq ?_
  refine W.seq ?_
  refine W.region ?_
  refine W.q (Ev.move (.t rfl)) rfl ?_
  first | refine W.q (Ev.lensl (.t rfl) Tryz.underlying24) rfl ?_ | refine W.q (Ev.lenar (i := 0) (.t rfl) rfl Tryz.underlying24) rfl ?_ | refine W.q (Ev.lenar (i := 1) (.t rfl) rfl Tryz.underlying24) rfl ?_ | refine W.q (Ev.lenar (i := 2) (.t rfl) rfl Tryz.underlying24) rfl ?_ | refine W.q (Ev.lenar (i := 3) (.t rfl) rfl Tryz.underlying24) rfl ?_ | refine W.q (Ev.lenar (i := 4) (.t rfl) rfl Tryz.underlying24) rfl ?_
  refine W.q (Ev.move .k) rfl ?_
  refine W.nil ?_
  refine W.then ?_
  refine W.block ?_
  refine W.own_nil 37 4 ?_
  refine W.loop (D := []) (ι := Nat × Value) (fun z => [(12, true, .int (z.1 : Int)), (11, true, .int ((l.map Nd.av).length : Int)), (10, true, .sl 4 (l.map Nd.av)), (3, true, .lit (.pointer (some ⟨b3, 0, none⟩))), (4, true, .lit (.pointer (some ⟨b4, 0, none⟩))), (7, true, .lit z.2)]) (fun z => [.arr z.2 37 4 ((Lk.lks ns sc (l.take z.1)).map Nd.av), .box b4 23 [.sl 1 (sc.map AV.str)], .box b3 23 [.sl 1 (ns.map AV.str)]]) (fun z => z.1 ≤ l.length) (fun z => l.length - z.1) (0, .slice none 0 0) ⟨rfl, rfl, rfl, rfl, rfl, rfl, trivial⟩ (List.Perm.of_eq (List.append_nil _).symm) (Nat.zero_le _) ?_
  rintro ⟨i, v⟩ hi
  dsimp only at hi ⊢
  rcases (show i < l.length ∨ i = l.length from by omega) with hlt | hend
  · have hga := Nd.at_av l i hlt
    have hsz := Nd.at_sz l i hlt
    generalize hd : l.getD i Nd.dflt = d at hga hsz
    have hse := Nd.sz_eq d
    have hsp := Nd.szs_len d.parts
    have hat : (d.attrs.map dav).length = d.attrs.length := List.length_map ..
    have hsn := Lk.lks_snoc ns sc l i hlt
    rw [hd, Lk.lk_eq] at hsn
    have hvd := (Lk.vok_eq _ d).1 (Lk.voks_mem _ hv d (by rw [← hd]; exact getD_memG Nd.dflt l i hlt))
    refine W.seq ?_
    refine W.region ?_
    refine W.q (Ev.lti (.t rfl) (.t rfl)) rfl ?_
    refine W.nil ?_
    refine W.then ?_
    refine W.seq ?_
    refine W.is (t := 13) (g := true) (av' := .lit (.bool true)) rfl (congrArg (fun b => AV.lit (.bool b)) (by exact decide_eq_true (by omega))) ?_
    refine W.condT (.t rfl) ?_
    refine W.skip ?_
    refine W.then ?_
    refine W.seq ?_
    refine W.block ?_
    refine W.seq ?_
    refine W.region ?_
    refine W.q (Ev.at (E := 37) (.t rfl) (.t rfl) Tryz.underlying24 ty37 (fun _ => ⟨by omega, hga⟩) rfl rfl) rfl ?_
    first | refine W.q (Ev.lden (.t rfl) ag37 ty37 rfl rfl) rfl ?_ | refine W.q (Ev.ldbn 0 (.t rfl) rfl ag37 ty37 rfl) rfl ?_ | refine W.q (Ev.ldbn 1 (.t rfl) rfl ag37 ty37 rfl) rfl ?_ | refine W.q (Ev.ldbn 2 (.t rfl) rfl ag37 ty37 rfl) rfl ?_ | refine W.q (Ev.ldbn 3 (.t rfl) rfl ag37 ty37 rfl) rfl ?_ | refine W.q (Ev.ldbn 4 (.t rfl) rfl ag37 ty37 rfl) rfl ?_
    refine W.alloc ty37 rfl rfl ?_
    intro b9
    first | refine W.stb 0 (.t rfl) (.t rfl) rfl ty37 rfl rfl rfl ?_ | refine W.stb 1 (.t rfl) (.t rfl) rfl ty37 rfl rfl rfl ?_ | refine W.stb 2 (.t rfl) (.t rfl) rfl ty37 rfl rfl rfl ?_ | refine W.stb 3 (.t rfl) (.t rfl) rfl ty37 rfl rfl rfl ?_ | refine W.stb 4 (.t rfl) (.t rfl) rfl ty37 rfl rfl rfl ?_
    refine W.nil ?_
    refine W.then ?_
    refine W.seq ?_
    refine W.region ?_
    first | refine W.q (Ev.fae (.t rfl) fa37_1 rfl) rfl ?_ | refine W.q (Ev.fab (.t rfl) fa37_1) rfl ?_ | refine W.q (Ev.faa (.t rfl) fa37_1) rfl ?_
    first | refine W.q (Ev.lde1 (.t rfl) ag35) rfl ?_ | refine W.q (Ev.ldb1 0 (.t rfl) rfl ag35 rfl) rfl ?_ | refine W.q (Ev.ldb1 1 (.t rfl) rfl ag35 rfl) rfl ?_ | refine W.q (Ev.ldb1 2 (.t rfl) rfl ag35 rfl) rfl ?_ | refine W.q (Ev.ldb1 3 (.t rfl) rfl ag35 rfl) rfl ?_ | refine W.q (Ev.ldb1 4 (.t rfl) rfl ag35 rfl) rfl ?_
    refine W.call (WCloneA.c_CloneAttr (d.attrs.map dav) (okc_davs _) (by omega)) ⟨(.t rfl), trivial⟩ (.refl _) rfl ?_
    rintro _ _ ⟨v18, rfl, rfl⟩
    refine W.q (Ev.mkfn (caps := [.tmp 3, .tmp 4]) (vs := [_, _]) ⟨(.t rfl), (.t rfl), trivial⟩) rfl ?_
    refine W.call (WDelA.c_DeleteFunc d.attrs v18 18 [.pointer (some ⟨b3, 0, none⟩), .pointer (some ⟨b4, 0, none⟩)] [.box b3 23 [.sl 1 (ns.map AV.str)], .box b4 23 [.sl 1 (sc.map AV.str)]] (Lk.bad ns sc) (fun a ha => c_Linked1 ns sc hns hsc a (hvd.1 a ha) b3 b4) (by omega)) ⟨(.t rfl), (.t rfl), trivial⟩ ((List.Perm.cons _ <| (List.perm_middle (l₁ := [_, _, _])).trans <| List.Perm.cons _ <| (List.perm_middle (l₁ := [_, _])).trans <| List.Perm.cons _ <| List.Perm.cons _ <| List.Perm.cons _ <| .refl _)) rfl ?_
    rintro _ _ ⟨v20, rfl, rfl⟩
    refine W.perm (M' := [.arr v20 34 2 ((Lk.lkA ns sc d.attrs).map dav), .box b9 37 [.str d.name, .sl 2 (d.attrs.map dav), .str d.text, .sl 4 (d.parts.map Nd.av)], .arr v 37 4 ((Lk.lks ns sc (l.take i)).map Nd.av), .box b4 23 [.sl 1 (sc.map AV.str)], .box b3 23 [.sl 1 (ns.map AV.str)]]) (List.Perm.cons _ <| (List.perm_middle (l₁ := [_, _])).trans <| List.Perm.cons _ <| (List.perm_middle (l₁ := [_, _])).trans <| List.Perm.cons _ <| (List.perm_middle (l₁ := [_])).trans <| List.Perm.cons _ <| List.Perm.cons _ <| .refl _) ?_
    refine W.arr_inv 0 rfl (fun a20 n20 c20 h20 => ?_)
    subst h20
    first | refine W.q (Ev.fae (.t rfl) fa37_1 rfl) rfl ?_ | refine W.q (Ev.fab (.t rfl) fa37_1) rfl ?_ | refine W.q (Ev.faa (.t rfl) fa37_1) rfl ?_
    first | refine W.stb 0 (.t rfl) (.t rfl) rfl ty35 rfl rfl rfl ?_ | refine W.stb 1 (.t rfl) (.t rfl) rfl ty35 rfl rfl rfl ?_ | refine W.stb 2 (.t rfl) (.t rfl) rfl ty35 rfl rfl rfl ?_ | refine W.stb 3 (.t rfl) (.t rfl) rfl ty35 rfl rfl rfl ?_ | refine W.stb 4 (.t rfl) (.t rfl) rfl ty35 rfl rfl rfl ?_
    refine W.nil ?_
    refine W.then ?_
    refine W.seq ?_
    refine W.region ?_
    first | refine W.q (Ev.lde1 (.t rfl) ag23) rfl ?_ | refine W.q (Ev.ldb1 0 (.t rfl) rfl ag23 rfl) rfl ?_ | refine W.q (Ev.ldb1 1 (.t rfl) rfl ag23 rfl) rfl ?_ | refine W.q (Ev.ldb1 2 (.t rfl) rfl ag23 rfl) rfl ?_ | refine W.q (Ev.ldb1 3 (.t rfl) rfl ag23 rfl) rfl ?_ | refine W.q (Ev.ldb1 4 (.t rfl) rfl ag23 rfl) rfl ?_
    first | refine W.q (Ev.lde1 (.t rfl) ag23) rfl ?_ | refine W.q (Ev.ldb1 0 (.t rfl) rfl ag23 rfl) rfl ?_ | refine W.q (Ev.ldb1 1 (.t rfl) rfl ag23 rfl) rfl ?_ | refine W.q (Ev.ldb1 2 (.t rfl) rfl ag23 rfl) rfl ?_ | refine W.q (Ev.ldb1 3 (.t rfl) rfl ag23 rfl) rfl ?_ | refine W.q (Ev.ldb1 4 (.t rfl) rfl ag23 rfl) rfl ?_
    first | refine W.q (Ev.fae (.t rfl) fa37_3 rfl) rfl ?_ | refine W.q (Ev.fab (.t rfl) fa37_3) rfl ?_ | refine W.q (Ev.faa (.t rfl) fa37_3) rfl ?_
    first | refine W.q (Ev.lde1 (.t rfl) ag24) rfl ?_ | refine W.q (Ev.ldb1 0 (.t rfl) rfl ag24 rfl) rfl ?_ | refine W.q (Ev.ldb1 1 (.t rfl) rfl ag24 rfl) rfl ?_ | refine W.q (Ev.ldb1 2 (.t rfl) rfl ag24 rfl) rfl ?_ | refine W.q (Ev.ldb1 3 (.t rfl) rfl ag24 rfl) rfl ?_ | refine W.q (Ev.ldb1 4 (.t rfl) rfl ag24 rfl) rfl ?_
    refine W.callp (ih d.parts (by omega) hvd.2) ⟨(.t rfl), (.t rfl), (.t rfl), trivial⟩ rfl ?_
    first | refine W.q (Ev.fae (.t rfl) fa37_3 rfl) rfl ?_ | refine W.q (Ev.fab (.t rfl) fa37_3) rfl ?_ | refine W.q (Ev.faa (.t rfl) fa37_3) rfl ?_
    first | refine W.stb 0 (.t rfl) (.t rfl) rfl ty24 rfl rfl rfl ?_ | refine W.stb 1 (.t rfl) (.t rfl) rfl ty24 rfl rfl rfl ?_ | refine W.stb 2 (.t rfl) (.t rfl) rfl ty24 rfl rfl rfl ?_ | refine W.stb 3 (.t rfl) (.t rfl) rfl ty24 rfl rfl rfl ?_ | refine W.stb 4 (.t rfl) (.t rfl) rfl ty24 rfl rfl rfl ?_
    refine W.nil ?_
    refine W.then ?_
    refine W.region ?_
    refine W.freezeA (M1 := [.box b9 37 [.str d.name, .lit (.slice a20 n20 c20), .str d.text, .sl 4 ((Lk.lks ns sc d.parts).map Nd.av)], .arr v 37 4 ((Lk.lks ns sc (l.take i)).map Nd.av), .box b4 23 [.sl 1 (sc.map AV.str)], .box b3 23 [.sl 1 (ns.map AV.str)]]) (M2 := [.box b9 37 [.str d.name, .sl 2 ((Lk.lkA ns sc d.attrs).map dav), .str d.text, .sl 4 ((Lk.lks ns sc d.parts).map Nd.av)], .arr v 37 4 ((Lk.lks ns sc (l.take i)).map Nd.av), .box b4 23 [.sl 1 (sc.map AV.str)], .box b3 23 [.sl 1 (ns.map AV.str)]]) (D := []) (v := .slice a20 n20 c20) (L' := []) (.refl _) trivial ⟨.box ⟨.refl _, .hit, .refl _, .refl _, trivial⟩, .refl _, .refl _, .refl _, trivial⟩ ?_
    refine W.q (Ev.move (.t rfl)) rfl ?_
    first | refine W.q (Ev.lden (.t rfl) ag37 ty37 rfl rfl) rfl ?_ | refine W.q (Ev.ldbn 0 (.t rfl) rfl ag37 ty37 rfl) rfl ?_ | refine W.q (Ev.ldbn 1 (.t rfl) rfl ag37 ty37 rfl) rfl ?_ | refine W.q (Ev.ldbn 2 (.t rfl) rfl ag37 ty37 rfl) rfl ?_ | refine W.q (Ev.ldbn 3 (.t rfl) rfl ag37 ty37 rfl) rfl ?_ | refine W.q (Ev.ldbn 4 (.t rfl) rfl ag37 ty37 rfl) rfl ?_
    refine W.bs (es := [_]) Tryz.underlying24 ty37 ⟨rfl, (.t rfl), rfl, rfl, trivial⟩ rfl (by decide) rfl rfl ?_
    first | refine W.app 0 (.t rfl) rfl (.sl (.t rfl) (by first | (simp [AV.okc, shV]; done) | (intro e he; rw [List.mem_singleton.1 he]; rfl))) Tryz.underlying24 ni24 ty37 rfl rfl (by rw [List.length_map, Lk.lks_len, List.length_take]; simp only [List.length_cons, List.length_nil]; omega) rfl ?_ | refine W.app 1 (.t rfl) rfl (.sl (.t rfl) (by first | (simp [AV.okc, shV]; done) | (intro e he; rw [List.mem_singleton.1 he]; rfl))) Tryz.underlying24 ni24 ty37 rfl rfl (by rw [List.length_map, Lk.lks_len, List.length_take]; simp only [List.length_cons, List.length_nil]; omega) rfl ?_ | refine W.app 2 (.t rfl) rfl (.sl (.t rfl) (by first | (simp [AV.okc, shV]; done) | (intro e he; rw [List.mem_singleton.1 he]; rfl))) Tryz.underlying24 ni24 ty37 rfl rfl (by rw [List.length_map, Lk.lks_len, List.length_take]; simp only [List.length_cons, List.length_nil]; omega) rfl ?_ | refine W.app 3 (.t rfl) rfl (.sl (.t rfl) (by first | (simp [AV.okc, shV]; done) | (intro e he; rw [List.mem_singleton.1 he]; rfl))) Tryz.underlying24 ni24 ty37 rfl rfl (by rw [List.length_map, Lk.lks_len, List.length_take]; simp only [List.length_cons, List.length_nil]; omega) rfl ?_ | refine W.app 4 (.t rfl) rfl (.sl (.t rfl) (by first | (simp [AV.okc, shV]; done) | (intro e he; rw [List.mem_singleton.1 he]; rfl))) Tryz.underlying24 ni24 ty37 rfl rfl (by rw [List.length_map, Lk.lks_len, List.length_take]; simp only [List.length_cons, List.length_nil]; omega) rfl ?_ | refine W.app 0 (.t rfl) rfl (.arr 0 (.t rfl) rfl (by first | (simp [AV.okc, shV]; done) | (intro e he; rw [List.mem_singleton.1 he]; rfl))) Tryz.underlying24 ni24 ty37 rfl rfl (by rw [List.length_map, Lk.lks_len, List.length_take]; simp only [List.length_cons, List.length_nil]; omega) rfl ?_ | refine W.app 0 (.t rfl) rfl (.arr 1 (.t rfl) rfl (by first | (simp [AV.okc, shV]; done) | (intro e he; rw [List.mem_singleton.1 he]; rfl))) Tryz.underlying24 ni24 ty37 rfl rfl (by rw [List.length_map, Lk.lks_len, List.length_take]; simp only [List.length_cons, List.length_nil]; omega) rfl ?_ | refine W.app 0 (.t rfl) rfl (.arr 2 (.t rfl) rfl (by first | (simp [AV.okc, shV]; done) | (intro e he; rw [List.mem_singleton.1 he]; rfl))) Tryz.underlying24 ni24 ty37 rfl rfl (by rw [List.length_map, Lk.lks_len, List.length_take]; simp only [List.length_cons, List.length_nil]; omega) rfl ?_ | refine W.app 0 (.t rfl) rfl (.arr 3 (.t rfl) rfl (by first | (simp [AV.okc, shV]; done) | (intro e he; rw [List.mem_singleton.1 he]; rfl))) Tryz.underlying24 ni24 ty37 rfl rfl (by rw [List.length_map, Lk.lks_len, List.length_take]; simp only [List.length_cons, List.length_nil]; omega) rfl ?_ | refine W.app 0 (.t rfl) rfl (.arr 4 (.t rfl) rfl (by first | (simp [AV.okc, shV]; done) | (intro e he; rw [List.mem_singleton.1 he]; rfl))) Tryz.underlying24 ni24 ty37 rfl rfl (by rw [List.length_map, Lk.lks_len, List.length_take]; simp only [List.length_cons, List.length_nil]; omega) rfl ?_ | refine W.app 1 (.t rfl) rfl (.arr 0 (.t rfl) rfl (by first | (simp [AV.okc, shV]; done) | (intro e he; rw [List.mem_singleton.1 he]; rfl))) Tryz.underlying24 ni24 ty37 rfl rfl (by rw [List.length_map, Lk.lks_len, List.length_take]; simp only [List.length_cons, List.length_nil]; omega) rfl ?_ | refine W.app 1 (.t rfl) rfl (.arr 1 (.t rfl) rfl (by first | (simp [AV.okc, shV]; done) | (intro e he; rw [List.mem_singleton.1 he]; rfl))) Tryz.underlying24 ni24 ty37 rfl rfl (by rw [List.length_map, Lk.lks_len, List.length_take]; simp only [List.length_cons, List.length_nil]; omega) rfl ?_ | refine W.app 1 (.t rfl) rfl (.arr 2 (.t rfl) rfl (by first | (simp [AV.okc, shV]; done) | (intro e he; rw [List.mem_singleton.1 he]; rfl))) Tryz.underlying24 ni24 ty37 rfl rfl (by rw [List.length_map, Lk.lks_len, List.length_take]; simp only [List.length_cons, List.length_nil]; omega) rfl ?_ | refine W.app 1 (.t rfl) rfl (.arr 3 (.t rfl) rfl (by first | (simp [AV.okc, shV]; done) | (intro e he; rw [List.mem_singleton.1 he]; rfl))) Tryz.underlying24 ni24 ty37 rfl rfl (by rw [List.length_map, Lk.lks_len, List.length_take]; simp only [List.length_cons, List.length_nil]; omega) rfl ?_ | refine W.app 1 (.t rfl) rfl (.arr 4 (.t rfl) rfl (by first | (simp [AV.okc, shV]; done) | (intro e he; rw [List.mem_singleton.1 he]; rfl))) Tryz.underlying24 ni24 ty37 rfl rfl (by rw [List.length_map, Lk.lks_len, List.length_take]; simp only [List.length_cons, List.length_nil]; omega) rfl ?_ | refine W.app 2 (.t rfl) rfl (.arr 0 (.t rfl) rfl (by first | (simp [AV.okc, shV]; done) | (intro e he; rw [List.mem_singleton.1 he]; rfl))) Tryz.underlying24 ni24 ty37 rfl rfl (by rw [List.length_map, Lk.lks_len, List.length_take]; simp only [List.length_cons, List.length_nil]; omega) rfl ?_ | refine W.app 2 (.t rfl) rfl (.arr 1 (.t rfl) rfl (by first | (simp [AV.okc, shV]; done) | (intro e he; rw [List.mem_singleton.1 he]; rfl))) Tryz.underlying24 ni24 ty37 rfl rfl (by rw [List.length_map, Lk.lks_len, List.length_take]; simp only [List.length_cons, List.length_nil]; omega) rfl ?_ | refine W.app 2 (.t rfl) rfl (.arr 2 (.t rfl) rfl (by first | (simp [AV.okc, shV]; done) | (intro e he; rw [List.mem_singleton.1 he]; rfl))) Tryz.underlying24 ni24 ty37 rfl rfl (by rw [List.length_map, Lk.lks_len, List.length_take]; simp only [List.length_cons, List.length_nil]; omega) rfl ?_ | refine W.app 2 (.t rfl) rfl (.arr 3 (.t rfl) rfl (by first | (simp [AV.okc, shV]; done) | (intro e he; rw [List.mem_singleton.1 he]; rfl))) Tryz.underlying24 ni24 ty37 rfl rfl (by rw [List.length_map, Lk.lks_len, List.length_take]; simp only [List.length_cons, List.length_nil]; omega) rfl ?_ | refine W.app 2 (.t rfl) rfl (.arr 4 (.t rfl) rfl (by first | (simp [AV.okc, shV]; done) | (intro e he; rw [List.mem_singleton.1 he]; rfl))) Tryz.underlying24 ni24 ty37 rfl rfl (by rw [List.length_map, Lk.lks_len, List.length_take]; simp only [List.length_cons, List.length_nil]; omega) rfl ?_ | refine W.app 3 (.t rfl) rfl (.arr 0 (.t rfl) rfl (by first | (simp [AV.okc, shV]; done) | (intro e he; rw [List.mem_singleton.1 he]; rfl))) Tryz.underlying24 ni24 ty37 rfl rfl (by rw [List.length_map, Lk.lks_len, List.length_take]; simp only [List.length_cons, List.length_nil]; omega) rfl ?_ | refine W.app 3 (.t rfl) rfl (.arr 1 (.t rfl) rfl (by first | (simp [AV.okc, shV]; done) | (intro e he; rw [List.mem_singleton.1 he]; rfl))) Tryz.underlying24 ni24 ty37 rfl rfl (by rw [List.length_map, Lk.lks_len, List.length_take]; simp only [List.length_cons, List.length_nil]; omega) rfl ?_ | refine W.app 3 (.t rfl) rfl (.arr 2 (.t rfl) rfl (by first | (simp [AV.okc, shV]; done) | (intro e he; rw [List.mem_singleton.1 he]; rfl))) Tryz.underlying24 ni24 ty37 rfl rfl (by rw [List.length_map, Lk.lks_len, List.length_take]; simp only [List.length_cons, List.length_nil]; omega) rfl ?_ | refine W.app 3 (.t rfl) rfl (.arr 3 (.t rfl) rfl (by first | (simp [AV.okc, shV]; done) | (intro e he; rw [List.mem_singleton.1 he]; rfl))) Tryz.underlying24 ni24 ty37 rfl rfl (by rw [List.length_map, Lk.lks_len, List.length_take]; simp only [List.length_cons, List.length_nil]; omega) rfl ?_ | refine W.app 3 (.t rfl) rfl (.arr 4 (.t rfl) rfl (by first | (simp [AV.okc, shV]; done) | (intro e he; rw [List.mem_singleton.1 he]; rfl))) Tryz.underlying24 ni24 ty37 rfl rfl (by rw [List.length_map, Lk.lks_len, List.length_take]; simp only [List.length_cons, List.length_nil]; omega) rfl ?_ | refine W.app 4 (.t rfl) rfl (.arr 0 (.t rfl) rfl (by first | (simp [AV.okc, shV]; done) | (intro e he; rw [List.mem_singleton.1 he]; rfl))) Tryz.underlying24 ni24 ty37 rfl rfl (by rw [List.length_map, Lk.lks_len, List.length_take]; simp only [List.length_cons, List.length_nil]; omega) rfl ?_ | refine W.app 4 (.t rfl) rfl (.arr 1 (.t rfl) rfl (by first | (simp [AV.okc, shV]; done) | (intro e he; rw [List.mem_singleton.1 he]; rfl))) Tryz.underlying24 ni24 ty37 rfl rfl (by rw [List.length_map, Lk.lks_len, List.length_take]; simp only [List.length_cons, List.length_nil]; omega) rfl ?_ | refine W.app 4 (.t rfl) rfl (.arr 2 (.t rfl) rfl (by first | (simp [AV.okc, shV]; done) | (intro e he; rw [List.mem_singleton.1 he]; rfl))) Tryz.underlying24 ni24 ty37 rfl rfl (by rw [List.length_map, Lk.lks_len, List.length_take]; simp only [List.length_cons, List.length_nil]; omega) rfl ?_ | refine W.app 4 (.t rfl) rfl (.arr 3 (.t rfl) rfl (by first | (simp [AV.okc, shV]; done) | (intro e he; rw [List.mem_singleton.1 he]; rfl))) Tryz.underlying24 ni24 ty37 rfl rfl (by rw [List.length_map, Lk.lks_len, List.length_take]; simp only [List.length_cons, List.length_nil]; omega) rfl ?_ | refine W.app 4 (.t rfl) rfl (.arr 4 (.t rfl) rfl (by first | (simp [AV.okc, shV]; done) | (intro e he; rw [List.mem_singleton.1 he]; rfl))) Tryz.underlying24 ni24 ty37 rfl rfl (by rw [List.length_map, Lk.lks_len, List.length_take]; simp only [List.length_cons, List.length_nil]; omega) rfl ?_
    intro v31
    refine W.q (Ev.assign (.t rfl)) rfl ?_
    refine W.nil ?_
    refine W.blk_normal ?_
    refine W.then ?_
    refine W.region ?_
    first | refine W.q (Ev.add (.t rfl) .k (fun _ => by omega)) rfl ?_ | refine W.q (Ev.addw (.t rfl) .k) rfl ?_
    refine W.q (Ev.move (.t rfl)) rfl ?_
    refine W.nil ?_
    refine W.then ?_
    refine W.reach (D := [_]) (i + 1, v31) ⟨rfl, rfl, rfl, rfl, rfl, rfl, trivial⟩ (by rw [hsn, Nd.map_snoc] <;> exact List.perm_append_comm (l₁ := [_])) ⟨by show i + 1 ≤ _; omega, by show _ - (i + 1) < _; omega⟩
  · have he : l.take i = l := List.take_of_length_le (by omega)
    rw [he]
    refine W.seq ?_
    refine W.region ?_
    refine W.q (Ev.lti (.t rfl) (.t rfl)) rfl ?_
    refine W.nil ?_
    refine W.then ?_
    refine W.seq ?_
    refine W.is (t := 13) (g := true) (av' := .lit (.bool false)) rfl (congrArg (fun b => AV.lit (.bool b)) (by exact decide_eq_false (by omega))) ?_
    refine W.condF (.t rfl) ?_
    refine W.exit ?_
    refine W.then_exit ?_
    refine W.then_exit ?_
    refine W.blk_hit ?_
    refine W.then ?_
    refine W.seq ?_
    refine W.region ?_
    refine W.q (Ev.move (.t rfl)) rfl ?_
    refine W.q (Ev.assign (.t rfl)) rfl ?_
    refine W.nil ?_
    refine W.then ?_
    refine W.ret ?_
    refine W.freezeA (M1 := [_, _]) (M2 := [_, _]) (D := []) (v := v) (L' := [(6, true, .sl 4 ((Lk.lks ns sc l).map Nd.av))]) (.refl _) ⟨⟨_, rfl, .one .hit⟩, trivial⟩ (FrzMs.refl _) ?_
    refine W.retn (M' := []) (D := [_, _]) (rs := [.tmp 6]) (avs := [_]) Tryz.results13 ⟨rfl, trivial⟩ rfl (.refl _) ?_
    exact ⟨rfl, rfl⟩

theorem c_Linked (ns sc : List (List UInt8)) (hns : ns.length ≤ 1000) (hsc : sc.length ≤ 1000) (l : List Nd) (hl : Nd.szs l ≤ 16777216) (hv : Lk.voks 4194304 l) : FnP Tryz.prog 13 [.sl 1 (ns.map AV.str), .sl 1 (sc.map AV.str), .sl 4 (l.map Nd.av)] (.sl 4 ((Lk.lks ns sc l).map Nd.av)) := by
  suffices H : ∀ n, n ≤ 16777216 → ∀ l, Nd.szs l = n → Lk.voks 4194304 l → FnP Tryz.prog 13 [.sl 1 (ns.map AV.str), .sl 1 (sc.map AV.str), .sl 4 (l.map Nd.av)] (.sl 4 ((Lk.lks ns sc l).map Nd.av)) from H _ hl l rfl hv
  intro n
  induction n using Nat.strongRecOn with
  | _ n ih => exact fun hn l hl hv => c_Linked_step ns sc hns hsc n hn (fun l' h' hv' => ih _ h' (by omega) l' rfl hv') l hl hv

theorem c_Links (ns sc : List (List UInt8)) (hns : ns.length ≤ 40) (hsc : sc.length ≤ 40) (hx : ∀ x ∈ sc, x.length ≤ 1000 ∧ Url.scheme (x ++ [58]) = (x, true)) (l : List Nd) (hl : Nd.szs l ≤ 16777216) (hv : Lk.voks 4194304 l) : FnP Tryz.prog 7 [.sl 1 (ns.map AV.str), .sl 1 (sc.map AV.str), .sl 4 (l.map Nd.av)] (.tup [.sl 4 ((Lk.lks ns sc l).map Nd.av), .int 0]) :=  by
  refine FnC.mk Tryz.func7 (by kernel_rfl) rfl Tryz.ntmps7 rfl (fun w0 F => ?_)
  have hnl : (ns.map AV.str).length = ns.length := List.length_map ..
  refine W.seq ?_
  refine W.region ?_
  refine W.q (Ev.assign .k) rfl ?_
  refine W.q (Ev.assign .k) rfl ?_
  refine W.nil ?_
  refine W.then ?_
  refine W.seq ?_
  refine W.seq ?_
  refine W.region ?_
  refine W.q (Ev.move (.t rfl)) rfl ?_
  first | refine W.q (Ev.lensl (.t rfl) Tryz.underlying23) rfl ?_ | refine W.q (Ev.lenar (i := 0) (.t rfl) rfl Tryz.underlying23) rfl ?_ | refine W.q (Ev.lenar (i := 1) (.t rfl) rfl Tryz.underlying23) rfl ?_ | refine W.q (Ev.lenar (i := 2) (.t rfl) rfl Tryz.underlying23) rfl ?_ | refine W.q (Ev.lenar (i := 3) (.t rfl) rfl Tryz.underlying23) rfl ?_
  refine W.q (Ev.gti (.t rfl) .k) rfl ?_
  refine W.nil ?_
  refine W.then ?_
  refine W.is (t := 11) (g := true) (av' := .lit (.bool false)) rfl (congrArg (fun b => AV.lit (.bool b)) (by exact decide_eq_false (by omega))) ?_
  refine W.condF (.t rfl) ?_
  refine W.skip ?_
  refine W.then ?_
  refine W.seq ?_
  refine W.seq ?_
  refine W.region ?_
  refine W.q (Ev.move (.t rfl)) rfl ?_
  refine W.callp (WSafe.c_Schemes sc hsc hx) ⟨(.t rfl), trivial⟩ rfl ?_
  refine W.q (Ev.assign (.t rfl)) rfl ?_
  refine W.nil ?_
  refine W.then ?_
  refine W.seq ?_
  refine W.region ?_
  refine W.q (Ev.move (.t rfl)) rfl ?_
  refine W.q (Ev.nei (.t rfl) .k) rfl ?_
  refine W.nil ?_
  refine W.then ?_
  refine W.is (t := 15) (g := true) (av' := .lit (.bool false)) rfl (congrArg (fun b => AV.lit (.bool b)) (by rfl)) ?_
  refine W.condF (.t rfl) ?_
  refine W.skip ?_
  refine W.then ?_
  refine W.seq ?_
  refine W.region ?_
  refine W.q (Ev.move (.t rfl)) rfl ?_
  refine W.q (Ev.move (.t rfl)) rfl ?_
  refine W.q (Ev.move (.t rfl)) rfl ?_
  refine W.callp (c_Linked ns sc (by omega) (by omega) l hl hv) ⟨(.t rfl), (.t rfl), (.t rfl), trivial⟩ rfl ?_
  refine W.q (Ev.assign (.t rfl)) rfl ?_
  refine W.q (Ev.assign .k) rfl ?_
  refine W.nil ?_
  refine W.then ?_
  refine W.ret ?_
  refine W.retn (M' := []) (rs := [.tmp 6, .tmp 7]) (avs := [_, _]) Tryz.results7 ⟨rfl, rfl, trivial⟩ rfl (.refl _) ?_
  exact ⟨rfl, rfl⟩

end WLinked

end Go.Proofs.YtgjndpgcpohnoaaGreatDoor
end

section
set_option linter.unusedVariables false
set_option linter.unusedSimpArgs false
set_option maxRecDepth 100000
namespace Go.Proofs.YtgjndpgcpohnoaaGreatDoor
open Go.Vl

namespace WLSafe
theorem ty9 : Ty Tryz.prog 9 1 16 (.string ⟨#[]⟩) := Ty.of (by kernel_rfl)
theorem ty24 : Ty Tryz.prog 24 1 24 (.slice none 0 0) := Ty.of (by kernel_rfl)
theorem ty34 : Ty Tryz.prog 34 2 32 (.agg #[.string ⟨#[]⟩, .string ⟨#[]⟩]) := Ty.of (by kernel_rfl)
theorem ty35 : Ty Tryz.prog 35 1 24 (.slice none 0 0) := Ty.of (by kernel_rfl)
theorem ty37 : Ty Tryz.prog 37 4 80 (.agg #[.string ⟨#[]⟩, .slice none 0 0, .string ⟨#[]⟩, .slice none 0 0]) := Ty.of (by kernel_rfl)
theorem ag9 : IsAgg Tryz.prog 9 false := ⟨_, Tryz.underlying9, rfl⟩
theorem ag24 : IsAgg Tryz.prog 24 false := ⟨_, Tryz.underlying24, rfl⟩
theorem ag35 : IsAgg Tryz.prog 35 false := ⟨_, Tryz.underlying35, rfl⟩
theorem fa34_0 : FieldAt Tryz.prog 34 0 0 1 false := ⟨_, _, Tryz.underlying34, rfl, rfl, ty9.size, ag9, by decide⟩
theorem fa34_1 : FieldAt Tryz.prog 34 1 1 1 false := ⟨_, _, Tryz.underlying34, rfl, rfl, ty9.size, ag9, by decide⟩
theorem fa37_1 : FieldAt Tryz.prog 37 1 1 1 false := ⟨_, _, Tryz.underlying37, rfl, rfl, ty35.size, ag35, by decide⟩
theorem fa37_3 : FieldAt Tryz.prog 37 3 3 1 false := ⟨_, _, Tryz.underlying37, rfl, rfl, ty24.size, ag24, by decide⟩
theorem c_linksSafe_step (sc : List (List UInt8)) (hsc : sc.length ≤ 40) (hx : ∀ x ∈ sc, x.length ≤ 1000 ∧ Url.scheme (x ++ [58]) = (x, true)) (n : Nat) (hn : n ≤ 16777216) (ih : ∀ l, Nd.szs l < n → Lk.voks 4194304 l → Lk.sfs [[104, 114, 101, 102]] sc l → FnP Tryz.prog 10 [.sl 4 (l.map Nd.av), .sl 1 (sc.map AV.str)] (.bool true)) (l : List Nd) (hl : Nd.szs l = n) (hv : Lk.voks 4194304 l) (hs : Lk.sfs [[104, 114, 101, 102]] sc l) : FnP Tryz.prog 10 [.sl 4 (l.map Nd.av), .sl 1 (sc.map AV.str)] (.bool true) :=  by
  refine FnC.mk Tryz.func10 (by kernel_rfl) rfl Tryz.ntmps10 rfl (fun w0 F => ?_)
  have hll : (l.map Nd.av).length = l.length := List.length_map ..
  have hsl := Nd.szs_len l
  refine W.seq ?_
  refine W.region ?_
  refine W.q (Ev.assign .k) rfl ?_
  refine W.nil ?_
  refine W.then ?_
  refine W.seq ?_
  refine W.seq ?_
  refine W.region ?_
  refine W.q (Ev.assign .k) rfl ?_
  refine W.nil ?_
  refine W.then ?_
  refine W.block ?_
  refine W.loop (D := []) (ι := Nat) (fun i => [(5, true, .int (i : Int)), (0, true, .sl 4 (l.map Nd.av)), (1, true, .sl 1 (sc.map AV.str))]) (fun _ => []) (fun i => i ≤ l.length) (fun i => l.length - i) 0 ⟨rfl, rfl, rfl, trivial⟩ (.refl _) (Nat.zero_le _) ?_
  intro i hi
  dsimp only at hi ⊢
  rcases (show i < l.length ∨ i = l.length from by omega) with hlt | hend
  · have hga := Nd.at_av l i hlt
    have hsz := Nd.at_sz l i hlt
    generalize hd : l.getD i Nd.dflt = d at hga hsz
    have hse := Nd.sz_eq d
    have hsp := Nd.szs_len d.parts
    have hat : (d.attrs.map dav).length = d.attrs.length := List.length_map ..
    have hdm : d ∈ l := by rw [← hd]; exact getD_memG Nd.dflt l i hlt
    have hvd := (Lk.vok_eq _ d).1 (Lk.voks_mem _ hv d hdm)
    have hsd := (Lk.sf_eq _ _ d).1 (Lk.sfs_mem _ _ hs d hdm)
    refine W.seq ?_
    refine W.seq ?_
    refine W.region ?_
    refine W.q (Ev.move (.t rfl)) rfl ?_
    refine W.q (Ev.move (.t rfl)) rfl ?_
    first | refine W.q (Ev.lensl (.t rfl) Tryz.underlying24) rfl ?_ | refine W.q (Ev.lenar (i := 0) (.t rfl) rfl Tryz.underlying24) rfl ?_ | refine W.q (Ev.lenar (i := 1) (.t rfl) rfl Tryz.underlying24) rfl ?_ | refine W.q (Ev.lenar (i := 2) (.t rfl) rfl Tryz.underlying24) rfl ?_ | refine W.q (Ev.lenar (i := 3) (.t rfl) rfl Tryz.underlying24) rfl ?_
    refine W.q (Ev.lti (.t rfl) (.t rfl)) rfl ?_
    refine W.nil ?_
    refine W.then ?_
    refine W.is (t := 12) (g := true) (av' := .lit (.bool true)) rfl (congrArg (fun b => AV.lit (.bool b)) (by exact decide_eq_true (by omega))) ?_
    refine W.condT (.t rfl) ?_
    refine W.skip ?_
    refine W.then ?_
    refine W.seq ?_
    refine W.block ?_
    refine W.seq ?_
    refine W.seq ?_
    refine W.region ?_
    refine W.q (Ev.assign .k) rfl ?_
    refine W.nil ?_
    refine W.then ?_
    refine W.block ?_
    refine W.loop (D := []) (ι := Nat) (fun k => [(6, true, .int (k : Int)), (5, true, .int (i : Int)), (0, true, .sl 4 (l.map Nd.av)), (1, true, .sl 1 (sc.map AV.str))]) (fun _ => []) (fun k => k ≤ d.attrs.length) (fun k => d.attrs.length - k) 0 ⟨rfl, rfl, rfl, rfl, trivial⟩ (.refl _) (Nat.zero_le _) ?_
    intro k hk
    dsimp only at hk ⊢
    rcases (show k < d.attrs.length ∨ k = d.attrs.length from by omega) with hk1 | hk2
    · have hgk := getD_mapG dav ([], []) d.attrs k hk1
      have hak := getD_memG ([], []) d.attrs k hk1
      have hbk := hsd.1 _ hak
      refine W.seq ?_
      refine W.seq ?_
      refine W.region ?_
      refine W.q (Ev.move (.t rfl)) rfl ?_
      refine W.q (Ev.move (.t rfl)) rfl ?_
      refine W.q (Ev.move (.t rfl)) rfl ?_
      refine W.q (Ev.at (E := 37) (.t rfl) (.t rfl) Tryz.underlying24 ty37 (fun _ => ⟨by omega, hga⟩) rfl rfl) rfl ?_
      first | refine W.q (Ev.fae (.t rfl) fa37_1 rfl) rfl ?_ | refine W.q (Ev.fab (.t rfl) fa37_1) rfl ?_ | refine W.q (Ev.faa (.t rfl) fa37_1) rfl ?_
      first | refine W.q (Ev.lde1 (.t rfl) ag35) rfl ?_ | refine W.q (Ev.ldb1 0 (.t rfl) rfl ag35 rfl) rfl ?_ | refine W.q (Ev.ldb1 1 (.t rfl) rfl ag35 rfl) rfl ?_ | refine W.q (Ev.ldb1 2 (.t rfl) rfl ag35 rfl) rfl ?_ | refine W.q (Ev.ldb1 3 (.t rfl) rfl ag35 rfl) rfl ?_
      first | refine W.q (Ev.lensl (.t rfl) Tryz.underlying35) rfl ?_ | refine W.q (Ev.lenar (i := 0) (.t rfl) rfl Tryz.underlying35) rfl ?_ | refine W.q (Ev.lenar (i := 1) (.t rfl) rfl Tryz.underlying35) rfl ?_ | refine W.q (Ev.lenar (i := 2) (.t rfl) rfl Tryz.underlying35) rfl ?_ | refine W.q (Ev.lenar (i := 3) (.t rfl) rfl Tryz.underlying35) rfl ?_
      refine W.q (Ev.lti (.t rfl) (.t rfl)) rfl ?_
      refine W.nil ?_
      refine W.then ?_
      refine W.is (t := 22) (g := true) (av' := .lit (.bool true)) rfl (congrArg (fun b => AV.lit (.bool b)) (by exact decide_eq_true (by omega))) ?_
      refine W.condT (.t rfl) ?_
      refine W.skip ?_
      refine W.then ?_
      refine W.seq ?_
      refine W.block ?_
      refine W.seq ?_
      refine W.region ?_
      refine W.q (Ev.move (.t rfl)) rfl ?_
      refine W.q (Ev.move (.t rfl)) rfl ?_
      refine W.q (Ev.at (E := 37) (.t rfl) (.t rfl) Tryz.underlying24 ty37 (fun _ => ⟨by omega, hga⟩) rfl rfl) rfl ?_
      first | refine W.q (Ev.fae (.t rfl) fa37_1 rfl) rfl ?_ | refine W.q (Ev.fab (.t rfl) fa37_1) rfl ?_ | refine W.q (Ev.faa (.t rfl) fa37_1) rfl ?_
      first | refine W.q (Ev.lde1 (.t rfl) ag35) rfl ?_ | refine W.q (Ev.ldb1 0 (.t rfl) rfl ag35 rfl) rfl ?_ | refine W.q (Ev.ldb1 1 (.t rfl) rfl ag35 rfl) rfl ?_ | refine W.q (Ev.ldb1 2 (.t rfl) rfl ag35 rfl) rfl ?_ | refine W.q (Ev.ldb1 3 (.t rfl) rfl ag35 rfl) rfl ?_
      refine W.q (Ev.move (.t rfl)) rfl ?_
      refine W.q (Ev.at (E := 34) (.t rfl) (.t rfl) Tryz.underlying35 ty34 (fun _ => ⟨by omega, hgk⟩) rfl rfl) rfl ?_
      first | refine W.q (Ev.fae (.t rfl) fa34_1 rfl) rfl ?_ | refine W.q (Ev.fab (.t rfl) fa34_1) rfl ?_ | refine W.q (Ev.faa (.t rfl) fa34_1) rfl ?_
      first | refine W.q (Ev.lde1 (.t rfl) ag9) rfl ?_ | refine W.q (Ev.ldb1 0 (.t rfl) rfl ag9 rfl) rfl ?_ | refine W.q (Ev.ldb1 1 (.t rfl) rfl ag9 rfl) rfl ?_ | refine W.q (Ev.ldb1 2 (.t rfl) rfl ag9 rfl) rfl ?_ | refine W.q (Ev.ldb1 3 (.t rfl) rfl ag9 rfl) rfl ?_
      refine W.q (Ev.move (.t rfl)) rfl ?_
      refine W.callp (WSafe.c_Safe (d.attrs.getD k ([], [])).2 (hvd.1 _ hak) sc hsc hx) ⟨(.t rfl), (.t rfl), trivial⟩ rfl ?_
      refine W.q (Ev.move (.t rfl)) rfl ?_
      refine W.q (Ev.extract (.t rfl) rfl) rfl ?_
      refine W.q (Ev.extract (.t rfl) rfl) rfl ?_
      refine W.q (Ev.assign (.t rfl)) rfl ?_
      refine W.q (Ev.assign (.t rfl)) rfl ?_
      refine W.nil ?_
      refine W.then ?_
      refine W.seq ?_
      refine W.region ?_
      refine W.q (Ev.move (.t rfl)) rfl ?_
      refine W.q (Ev.nei (.t rfl) .k) rfl ?_
      refine W.q (Ev.move (.t rfl)) rfl ?_
      refine W.is (t := 41) (g := true) (av' := .bool false) rfl rfl ?_
      refine W.gyes rfl rfl ?_
      refine W.q (Ev.move (.t rfl)) rfl ?_
      refine W.gyes rfl rfl ?_
      refine W.q (Ev.move (.t rfl)) rfl ?_
      refine W.gyes rfl rfl ?_
      refine W.q (Ev.at (E := 37) (.t rfl) (.t rfl) Tryz.underlying24 ty37 (fun _ => ⟨by omega, hga⟩) rfl rfl) rfl ?_
      refine W.gyes rfl rfl ?_
      first | refine W.q (Ev.fae (.t rfl) fa37_1 rfl) rfl ?_ | refine W.q (Ev.fab (.t rfl) fa37_1) rfl ?_ | refine W.q (Ev.faa (.t rfl) fa37_1) rfl ?_
      refine W.gyes rfl rfl ?_
      first | refine W.q (Ev.lde1 (.t rfl) ag35) rfl ?_ | refine W.q (Ev.ldb1 0 (.t rfl) rfl ag35 rfl) rfl ?_ | refine W.q (Ev.ldb1 1 (.t rfl) rfl ag35 rfl) rfl ?_ | refine W.q (Ev.ldb1 2 (.t rfl) rfl ag35 rfl) rfl ?_ | refine W.q (Ev.ldb1 3 (.t rfl) rfl ag35 rfl) rfl ?_
      refine W.gyes rfl rfl ?_
      refine W.q (Ev.move (.t rfl)) rfl ?_
      refine W.gyes rfl rfl ?_
      refine W.q (Ev.at (E := 34) (.t rfl) (.t rfl) Tryz.underlying35 ty34 (fun _ => ⟨by omega, hgk⟩) rfl rfl) rfl ?_
      refine W.gyes rfl rfl ?_
      first | refine W.q (Ev.fae (.t rfl) fa34_0 rfl) rfl ?_ | refine W.q (Ev.fab (.t rfl) fa34_0) rfl ?_ | refine W.q (Ev.faa (.t rfl) fa34_0) rfl ?_
      refine W.gyes rfl rfl ?_
      first | refine W.q (Ev.lde1 (.t rfl) ag9) rfl ?_ | refine W.q (Ev.ldb1 0 (.t rfl) rfl ag9 rfl) rfl ?_ | refine W.q (Ev.ldb1 1 (.t rfl) rfl ag9 rfl) rfl ?_ | refine W.q (Ev.ldb1 2 (.t rfl) rfl ag9 rfl) rfl ?_ | refine W.q (Ev.ldb1 3 (.t rfl) rfl ag9 rfl) rfl ?_
      refine W.gyes rfl rfl ?_
      refine W.q (Ev.eqs (.t rfl) .k) rfl ?_
      refine W.gyes rfl rfl ?_
      refine W.q (Ev.move (.t rfl)) rfl ?_
      refine W.qgT rfl rfl (Ev.move (.t rfl)) rfl ?_
      refine W.qgT rfl rfl (Ev.not (.c rfl)) rfl ?_
      refine W.gyes rfl rfl ?_
      refine W.q (Ev.and (.t rfl) ⟨_, _, rfl, rfl, by first | (simp; done) | (intro hg_ hp_; simp [hp_]; done) | (simp <;> omega; done) | (simp_all; done) | grind⟩) rfl ?_
      refine W.q (Ev.or (.t rfl) ⟨_, _, rfl, rfl, by first | (simp; done) | (intro hg_ hp_; simp [hp_]; done) | (simp <;> omega; done) | (simp_all; done) | grind⟩) rfl ?_
      refine W.nil ?_
      refine W.then ?_
      refine W.is (t := 56) (g := true) (av' := .lit (.bool false)) rfl (congrArg (fun b => AV.lit (.bool b)) (by simpa [Lk.bad] using hbk)) ?_
      refine W.condF (.t rfl) ?_
      refine W.skip ?_
      refine W.blk_normal ?_
      refine W.then ?_
      refine W.region ?_
      refine W.q (Ev.move (.t rfl)) rfl ?_
      first | refine W.q (Ev.add (.t rfl) .k (fun _ => by omega)) rfl ?_ | refine W.q (Ev.addw (.t rfl) .k) rfl ?_
      refine W.q (Ev.assign (.t rfl)) rfl ?_
      refine W.nil ?_
      refine W.then ?_
      refine W.reach (D := []) (k + 1) ⟨rfl, rfl, rfl, rfl, trivial⟩ (.refl _) ⟨by omega, by omega⟩
    · skip
      refine W.seq ?_
      refine W.seq ?_
      refine W.region ?_
      refine W.q (Ev.move (.t rfl)) rfl ?_
      refine W.q (Ev.move (.t rfl)) rfl ?_
      refine W.q (Ev.move (.t rfl)) rfl ?_
      refine W.q (Ev.at (E := 37) (.t rfl) (.t rfl) Tryz.underlying24 ty37 (fun _ => ⟨by omega, hga⟩) rfl rfl) rfl ?_
      first | refine W.q (Ev.fae (.t rfl) fa37_1 rfl) rfl ?_ | refine W.q (Ev.fab (.t rfl) fa37_1) rfl ?_ | refine W.q (Ev.faa (.t rfl) fa37_1) rfl ?_
      first | refine W.q (Ev.lde1 (.t rfl) ag35) rfl ?_ | refine W.q (Ev.ldb1 0 (.t rfl) rfl ag35 rfl) rfl ?_ | refine W.q (Ev.ldb1 1 (.t rfl) rfl ag35 rfl) rfl ?_ | refine W.q (Ev.ldb1 2 (.t rfl) rfl ag35 rfl) rfl ?_ | refine W.q (Ev.ldb1 3 (.t rfl) rfl ag35 rfl) rfl ?_
      first | refine W.q (Ev.lensl (.t rfl) Tryz.underlying35) rfl ?_ | refine W.q (Ev.lenar (i := 0) (.t rfl) rfl Tryz.underlying35) rfl ?_ | refine W.q (Ev.lenar (i := 1) (.t rfl) rfl Tryz.underlying35) rfl ?_ | refine W.q (Ev.lenar (i := 2) (.t rfl) rfl Tryz.underlying35) rfl ?_ | refine W.q (Ev.lenar (i := 3) (.t rfl) rfl Tryz.underlying35) rfl ?_
      refine W.q (Ev.lti (.t rfl) (.t rfl)) rfl ?_
      refine W.nil ?_
      refine W.then ?_
      refine W.is (t := 22) (g := true) (av' := .lit (.bool false)) rfl (congrArg (fun b => AV.lit (.bool b)) (by exact decide_eq_false (by omega))) ?_
      refine W.condF (.t rfl) ?_
      refine W.exit ?_
      refine W.then_exit ?_
      refine W.then_exit ?_
      refine W.blk_hit ?_
      refine W.then ?_
      refine W.seq ?_
      refine W.region ?_
      refine W.q (Ev.move (.t rfl)) rfl ?_
      refine W.q (Ev.move (.t rfl)) rfl ?_
      refine W.q (Ev.at (E := 37) (.t rfl) (.t rfl) Tryz.underlying24 ty37 (fun _ => ⟨by omega, hga⟩) rfl rfl) rfl ?_
      first | refine W.q (Ev.fae (.t rfl) fa37_3 rfl) rfl ?_ | refine W.q (Ev.fab (.t rfl) fa37_3) rfl ?_ | refine W.q (Ev.faa (.t rfl) fa37_3) rfl ?_
      first | refine W.q (Ev.lde1 (.t rfl) ag24) rfl ?_ | refine W.q (Ev.ldb1 0 (.t rfl) rfl ag24 rfl) rfl ?_ | refine W.q (Ev.ldb1 1 (.t rfl) rfl ag24 rfl) rfl ?_ | refine W.q (Ev.ldb1 2 (.t rfl) rfl ag24 rfl) rfl ?_ | refine W.q (Ev.ldb1 3 (.t rfl) rfl ag24 rfl) rfl ?_
      refine W.q (Ev.move (.t rfl)) rfl ?_
      refine W.callp (ih d.parts (by omega) hvd.2 hsd.2) ⟨(.t rfl), (.t rfl), trivial⟩ rfl ?_
      refine W.q (Ev.not (.t rfl)) rfl ?_
      refine W.nil ?_
      refine W.then ?_
      refine W.is (t := 64) (g := true) (av' := .lit (.bool false)) rfl (congrArg (fun b => AV.lit (.bool b)) (by rfl)) ?_
      refine W.condF (.t rfl) ?_
      refine W.skip ?_
      refine W.blk_normal ?_
      refine W.then ?_
      refine W.region ?_
      refine W.q (Ev.move (.t rfl)) rfl ?_
      first | refine W.q (Ev.add (.t rfl) .k (fun _ => by omega)) rfl ?_ | refine W.q (Ev.addw (.t rfl) .k) rfl ?_
      refine W.q (Ev.assign (.t rfl)) rfl ?_
      refine W.nil ?_
      refine W.then ?_
      refine W.reach (D := []) (i + 1) ⟨rfl, rfl, rfl, trivial⟩ (.refl _) ⟨by omega, by omega⟩
  · skip
    refine W.seq ?_
    refine W.seq ?_
    refine W.region ?_
    refine W.q (Ev.move (.t rfl)) rfl ?_
    refine W.q (Ev.move (.t rfl)) rfl ?_
    first | refine W.q (Ev.lensl (.t rfl) Tryz.underlying24) rfl ?_ | refine W.q (Ev.lenar (i := 0) (.t rfl) rfl Tryz.underlying24) rfl ?_ | refine W.q (Ev.lenar (i := 1) (.t rfl) rfl Tryz.underlying24) rfl ?_ | refine W.q (Ev.lenar (i := 2) (.t rfl) rfl Tryz.underlying24) rfl ?_ | refine W.q (Ev.lenar (i := 3) (.t rfl) rfl Tryz.underlying24) rfl ?_
    refine W.q (Ev.lti (.t rfl) (.t rfl)) rfl ?_
    refine W.nil ?_
    refine W.then ?_
    refine W.is (t := 12) (g := true) (av' := .lit (.bool false)) rfl (congrArg (fun b => AV.lit (.bool b)) (by exact decide_eq_false (by omega))) ?_
    refine W.condF (.t rfl) ?_
    refine W.exit ?_
    refine W.then_exit ?_
    refine W.then_exit ?_
    refine W.blk_hit ?_
    refine W.then ?_
    refine W.seq ?_
    refine W.region ?_
    refine W.q (Ev.assign .k) rfl ?_
    refine W.nil ?_
    refine W.then ?_
    refine W.ret ?_
    refine W.retn (M' := []) (rs := [.tmp 4]) (avs := [_]) Tryz.results10 ⟨rfl, trivial⟩ rfl (.refl _) ?_
    exact ⟨rfl, rfl⟩

theorem c_linksSafe (sc : List (List UInt8)) (hsc : sc.length ≤ 40) (hx : ∀ x ∈ sc, x.length ≤ 1000 ∧ Url.scheme (x ++ [58]) = (x, true)) (l : List Nd) (hl : Nd.szs l ≤ 16777216) (hv : Lk.voks 4194304 l) (hs : Lk.sfs [[104, 114, 101, 102]] sc l) : FnP Tryz.prog 10 [.sl 4 (l.map Nd.av), .sl 1 (sc.map AV.str)] (.bool true) := by
  suffices H : ∀ n, n ≤ 16777216 → ∀ l, Nd.szs l = n → Lk.voks 4194304 l → Lk.sfs [[104, 114, 101, 102]] sc l → FnP Tryz.prog 10 [.sl 4 (l.map Nd.av), .sl 1 (sc.map AV.str)] (.bool true) from H _ hl l rfl hv hs
  intro n
  induction n using Nat.strongRecOn with
  | _ n ih => exact fun hn l hl hv hs => c_linksSafe_step sc hsc hx n hn (fun l' h' hv' hs' => ih _ h' (by omega) l' rfl hv' hs') l hl hv hs

end WLSafe

end Go.Proofs.YtgjndpgcpohnoaaGreatDoor
end
