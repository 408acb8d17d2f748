/-
  An expression is the same as itself.
-/
import Derived.Test.YthhkionhimbekaaExprP
import Derived.Test.YthhkionhimbekaaBase
set_option linter.unusedVariables false
set_option linter.unusedSimpArgs false
set_option maxRecDepth 100000
namespace Go.Proofs.Ythhkionhimbekaa
open Go.Vl

namespace WSameX
theorem ty3 : Ty Try.prog 3 1 8 (.int .i64 0) := Ty.of (by kernel_rfl)
theorem ty26 : Ty Try.prog 26 1 24 (.slice none 0 0) := Ty.of (by kernel_rfl)
theorem ty28 : Ty Try.prog 28 3 40 (.agg #[.int .i64 0, .int .i64 0, .slice none 0 0]) := Ty.of (by kernel_rfl)
theorem ag3 : IsAgg Try.prog 3 false := ⟨_, Try.underlying3, rfl⟩
theorem ag26 : IsAgg Try.prog 26 false := ⟨_, Try.underlying26, rfl⟩
theorem ag28 : IsAgg Try.prog 28 true := ⟨_, Try.underlying28, rfl⟩
theorem fa28_0 : FieldAt Try.prog 28 0 0 1 false := ⟨_, _, Try.underlying28, rfl, rfl, ty3.size, ag3, by decide⟩
theorem fa28_1 : FieldAt Try.prog 28 1 1 1 false := ⟨_, _, Try.underlying28, rfl, rfl, ty3.size, ag3, by decide⟩
theorem fa28_2 : FieldAt Try.prog 28 2 2 1 false := ⟨_, _, Try.underlying28, rfl, rfl, ty26.size, ag26, by decide⟩
theorem c_same_step (x : Ex) (hz : x.sz ≤ 16777216) (ih : ∀ d ∈ x.parts, FnP Try.prog 11 [Ex.avx d, Ex.avx d] (.bool true)) : FnP Try.prog 11 [Ex.avx x, Ex.avx x] (.bool true) :=  by
  refine FnC.mk Try.func11 (by kernel_rfl) rfl Try.ntmps11 rfl (fun w0 F => ?_)
  have hpl : (x.parts.map Ex.av).length = x.parts.length := List.length_map ..
  have hse := Ex.sz_eq x
  have hsl := Ex.szs_len x.parts
  refine W.seq ?_
  refine W.region ?_
  refine W.box (.t rfl) rfl rfl ?_
  intro b2
  refine W.box (.t rfl) rfl rfl ?_
  intro b3
  refine W.q (Ev.assign .k) rfl ?_
  refine W.nil ?_
  refine W.then ?_
  refine W.seq ?_
  refine W.seq ?_
  refine W.region ?_
  first | refine W.q (Ev.fae (.t rfl) fa28_0 rfl) rfl ?_ | refine W.q (Ev.fab (.t rfl) fa28_0) rfl ?_ | refine W.q (Ev.faa (.t rfl) fa28_0) rfl ?_
  first | refine W.q (Ev.lde1 (.t rfl) ag3) rfl ?_ | refine W.q (Ev.ldb1 0 (.t rfl) rfl ag3 rfl) rfl ?_ | refine W.q (Ev.ldb1 1 (.t rfl) rfl ag3 rfl) rfl ?_ | refine W.q (Ev.ldb1 2 (.t rfl) rfl ag3 rfl) rfl ?_ | refine W.q (Ev.ldb1 3 (.t rfl) rfl ag3 rfl) rfl ?_
  first | refine W.q (Ev.fae (.t rfl) fa28_0 rfl) rfl ?_ | refine W.q (Ev.fab (.t rfl) fa28_0) rfl ?_ | refine W.q (Ev.faa (.t rfl) fa28_0) rfl ?_
  first | refine W.q (Ev.lde1 (.t rfl) ag3) rfl ?_ | refine W.q (Ev.ldb1 0 (.t rfl) rfl ag3 rfl) rfl ?_ | refine W.q (Ev.ldb1 1 (.t rfl) rfl ag3 rfl) rfl ?_ | refine W.q (Ev.ldb1 2 (.t rfl) rfl ag3 rfl) rfl ?_ | refine W.q (Ev.ldb1 3 (.t rfl) rfl ag3 rfl) rfl ?_
  refine W.q (Ev.nei (.t rfl) (.t rfl)) rfl ?_
  refine W.q (Ev.move (.t rfl)) rfl ?_
  first | refine W.qgF rfl rfl (Ev.fae (.t rfl) fa28_1 rfl) rfl ?_ | refine W.qgF rfl rfl (Ev.fab (.t rfl) fa28_1) rfl ?_ | refine W.qgF rfl rfl (Ev.faa (.t rfl) fa28_1) rfl ?_
  first | refine W.qgF rfl rfl (Ev.lde1 (.c rfl) ag3) rfl ?_ | refine W.qgF rfl rfl (Ev.ldb1 0 (.c rfl) rfl ag3 rfl) rfl ?_ | refine W.qgF rfl rfl (Ev.ldb1 1 (.c rfl) rfl ag3 rfl) rfl ?_ | refine W.qgF rfl rfl (Ev.ldb1 2 (.c rfl) rfl ag3 rfl) rfl ?_ | refine W.qgF rfl rfl (Ev.ldb1 3 (.c rfl) rfl ag3 rfl) rfl ?_
  first | refine W.qgF rfl rfl (Ev.fae (.t rfl) fa28_1 rfl) rfl ?_ | refine W.qgF rfl rfl (Ev.fab (.t rfl) fa28_1) rfl ?_ | refine W.qgF rfl rfl (Ev.faa (.t rfl) fa28_1) rfl ?_
  first | refine W.qgF rfl rfl (Ev.lde1 (.c rfl) ag3) rfl ?_ | refine W.qgF rfl rfl (Ev.ldb1 0 (.c rfl) rfl ag3 rfl) rfl ?_ | refine W.qgF rfl rfl (Ev.ldb1 1 (.c rfl) rfl ag3 rfl) rfl ?_ | refine W.qgF rfl rfl (Ev.ldb1 2 (.c rfl) rfl ag3 rfl) rfl ?_ | refine W.qgF rfl rfl (Ev.ldb1 3 (.c rfl) rfl ag3 rfl) rfl ?_
  refine W.qgF rfl rfl (Ev.nei (.c rfl) (.c rfl)) rfl ?_
  refine W.q (Ev.or (.t rfl) ⟨_, _, rfl, rfl, by first | (simp; done) | (intro hg_ hp_; simp [hp_]; done) | (simp <;> omega; done) | (simp_all; done) | grind⟩) rfl ?_
  refine W.q (Ev.move (.t rfl)) rfl ?_
  first | refine W.qgF rfl rfl (Ev.fae (.t rfl) fa28_2 rfl) rfl ?_ | refine W.qgF rfl rfl (Ev.fab (.t rfl) fa28_2) rfl ?_ | refine W.qgF rfl rfl (Ev.faa (.t rfl) fa28_2) rfl ?_
  first | refine W.qgF rfl rfl (Ev.lde1 (.c rfl) ag26) rfl ?_ | refine W.qgF rfl rfl (Ev.ldb1 0 (.c rfl) rfl ag26 rfl) rfl ?_ | refine W.qgF rfl rfl (Ev.ldb1 1 (.c rfl) rfl ag26 rfl) rfl ?_ | refine W.qgF rfl rfl (Ev.ldb1 2 (.c rfl) rfl ag26 rfl) rfl ?_ | refine W.qgF rfl rfl (Ev.ldb1 3 (.c rfl) rfl ag26 rfl) rfl ?_
  first | refine W.qgF rfl rfl (Ev.lensl (.c rfl) Try.underlying26) rfl ?_ | refine W.qgF rfl rfl (Ev.lenar (i := 0) (.c rfl) rfl Try.underlying26) rfl ?_ | refine W.qgF rfl rfl (Ev.lenar (i := 1) (.c rfl) rfl Try.underlying26) rfl ?_ | refine W.qgF rfl rfl (Ev.lenar (i := 2) (.c rfl) rfl Try.underlying26) rfl ?_ | refine W.qgF rfl rfl (Ev.lenar (i := 3) (.c rfl) rfl Try.underlying26) rfl ?_
  first | refine W.qgF rfl rfl (Ev.fae (.t rfl) fa28_2 rfl) rfl ?_ | refine W.qgF rfl rfl (Ev.fab (.t rfl) fa28_2) rfl ?_ | refine W.qgF rfl rfl (Ev.faa (.t rfl) fa28_2) rfl ?_
  first | refine W.qgF rfl rfl (Ev.lde1 (.c rfl) ag26) rfl ?_ | refine W.qgF rfl rfl (Ev.ldb1 0 (.c rfl) rfl ag26 rfl) rfl ?_ | refine W.qgF rfl rfl (Ev.ldb1 1 (.c rfl) rfl ag26 rfl) rfl ?_ | refine W.qgF rfl rfl (Ev.ldb1 2 (.c rfl) rfl ag26 rfl) rfl ?_ | refine W.qgF rfl rfl (Ev.ldb1 3 (.c rfl) rfl ag26 rfl) rfl ?_
  first | refine W.qgF rfl rfl (Ev.lensl (.c rfl) Try.underlying26) rfl ?_ | refine W.qgF rfl rfl (Ev.lenar (i := 0) (.c rfl) rfl Try.underlying26) rfl ?_ | refine W.qgF rfl rfl (Ev.lenar (i := 1) (.c rfl) rfl Try.underlying26) rfl ?_ | refine W.qgF rfl rfl (Ev.lenar (i := 2) (.c rfl) rfl Try.underlying26) rfl ?_ | refine W.qgF rfl rfl (Ev.lenar (i := 3) (.c rfl) rfl Try.underlying26) rfl ?_
  refine W.qgF rfl rfl (Ev.nei (.c rfl) (.c rfl)) rfl ?_
  refine W.q (Ev.or (.t rfl) ⟨_, _, rfl, rfl, by first | (simp; done) | (intro hg_ hp_; simp [hp_]; done) | (simp <;> omega; done) | (simp_all; done) | grind⟩) rfl ?_
  refine W.nil ?_
  refine W.then ?_
  refine W.is (t := 26) (g := true) (av' := .lit (.bool false)) rfl (congrArg (fun b => AV.lit (.bool b)) (by simp)) ?_
  refine W.condF (.t rfl) ?_
  refine W.skip ?_
  refine W.then ?_
  refine W.seq ?_
  refine W.seq ?_
  refine W.region ?_
  refine W.q (Ev.assign .k) rfl ?_
  refine W.nil ?_
  refine W.then ?_
  refine W.block ?_
  refine W.loop (D := []) (ι := Nat) (fun i => [(5, true, .int (i : Int)), (2, true, .lit (.pointer (some ⟨b2, 0, none⟩))), (3, true, .lit (.pointer (some ⟨b3, 0, none⟩)))]) (fun i => [.box b3 28 x.avx.cells, .box b2 28 x.avx.cells]) (fun i => i ≤ x.parts.length) (fun i => x.parts.length - i) 0 ⟨rfl, rfl, rfl, trivial⟩ (.refl _) (Nat.zero_le _) ?_
  intro i hi
  dsimp only at hi ⊢
  rcases (show i < x.parts.length ∨ i = x.parts.length from by omega) with hlt | hend
  · have hga := Ex.at_av x.parts i hlt
    have hdm := getD_memG Ex.dflt x.parts i hlt
    generalize x.parts.getD i Ex.dflt = d at hga hdm
    refine W.seq ?_
    refine W.seq ?_
    refine W.region ?_
    refine W.q (Ev.move (.t rfl)) rfl ?_
    first | refine W.q (Ev.fae (.t rfl) fa28_2 rfl) rfl ?_ | refine W.q (Ev.fab (.t rfl) fa28_2) rfl ?_ | refine W.q (Ev.faa (.t rfl) fa28_2) rfl ?_
    first | refine W.q (Ev.lde1 (.t rfl) ag26) rfl ?_ | refine W.q (Ev.ldb1 0 (.t rfl) rfl ag26 rfl) rfl ?_ | refine W.q (Ev.ldb1 1 (.t rfl) rfl ag26 rfl) rfl ?_ | refine W.q (Ev.ldb1 2 (.t rfl) rfl ag26 rfl) rfl ?_ | refine W.q (Ev.ldb1 3 (.t rfl) rfl ag26 rfl) rfl ?_
    first | refine W.q (Ev.lensl (.t rfl) Try.underlying26) rfl ?_ | refine W.q (Ev.lenar (i := 0) (.t rfl) rfl Try.underlying26) rfl ?_ | refine W.q (Ev.lenar (i := 1) (.t rfl) rfl Try.underlying26) rfl ?_ | refine W.q (Ev.lenar (i := 2) (.t rfl) rfl Try.underlying26) rfl ?_ | refine W.q (Ev.lenar (i := 3) (.t rfl) rfl Try.underlying26) rfl ?_
    refine W.q (Ev.lti (.t rfl) (.t rfl)) rfl ?_
    refine W.nil ?_
    refine W.then ?_
    refine W.is (t := 31) (g := true) (av' := .lit (.bool true)) rfl (congrArg (fun b => AV.lit (.bool b)) (by exact decide_eq_true (by omega))) ?_
    refine W.condT (.t rfl) ?_
    refine W.skip ?_
    refine W.then ?_
    refine W.seq ?_
    refine W.block ?_
    refine W.seq ?_
    refine W.drawn (by kernel_rfl) (by kernel_rfl) ?_
    first | refine DP.q (Ev.fae (.t rfl) fa28_2 rfl) rfl ?_ | refine DP.q (Ev.fab (.t rfl) fa28_2) rfl ?_ | refine DP.q (Ev.faa (.t rfl) fa28_2) rfl ?_
    first | refine DP.q (Ev.lde1 (.t rfl) ag26) rfl ?_ | refine DP.q (Ev.ldb1 0 (.t rfl) rfl ag26 rfl) rfl ?_ | refine DP.q (Ev.ldb1 1 (.t rfl) rfl ag26 rfl) rfl ?_ | refine DP.q (Ev.ldb1 2 (.t rfl) rfl ag26 rfl) rfl ?_ | refine DP.q (Ev.ldb1 3 (.t rfl) rfl ag26 rfl) rfl ?_
    refine DP.q (Ev.move (.t rfl)) rfl ?_
    refine DP.q (Ev.at (E := 28) (.t rfl) (.t rfl) Try.underlying26 ty28 (fun _ => ⟨by omega, hga⟩) rfl rfl) rfl ?_
    first | refine DP.q (Ev.lden (.t rfl) ag28 ty28 rfl rfl) rfl ?_ | refine DP.q (Ev.ldbn 0 (.t rfl) rfl ag28 ty28 rfl) rfl ?_ | refine DP.q (Ev.ldbn 1 (.t rfl) rfl ag28 ty28 rfl) rfl ?_ | refine DP.q (Ev.ldbn 2 (.t rfl) rfl ag28 ty28 rfl) rfl ?_ | refine DP.q (Ev.ldbn 3 (.t rfl) rfl ag28 ty28 rfl) rfl ?_
    first | refine DP.q (Ev.fae (.t rfl) fa28_2 rfl) rfl ?_ | refine DP.q (Ev.fab (.t rfl) fa28_2) rfl ?_ | refine DP.q (Ev.faa (.t rfl) fa28_2) rfl ?_
    first | refine DP.q (Ev.lde1 (.t rfl) ag26) rfl ?_ | refine DP.q (Ev.ldb1 0 (.t rfl) rfl ag26 rfl) rfl ?_ | refine DP.q (Ev.ldb1 1 (.t rfl) rfl ag26 rfl) rfl ?_ | refine DP.q (Ev.ldb1 2 (.t rfl) rfl ag26 rfl) rfl ?_ | refine DP.q (Ev.ldb1 3 (.t rfl) rfl ag26 rfl) rfl ?_
    refine DP.q (Ev.move (.t rfl)) rfl ?_
    refine DP.q (Ev.at (E := 28) (.t rfl) (.t rfl) Try.underlying26 ty28 (fun _ => ⟨by omega, hga⟩) rfl rfl) rfl ?_
    first | refine DP.q (Ev.lden (.t rfl) ag28 ty28 rfl rfl) rfl ?_ | refine DP.q (Ev.ldbn 0 (.t rfl) rfl ag28 ty28 rfl) rfl ?_ | refine DP.q (Ev.ldbn 1 (.t rfl) rfl ag28 ty28 rfl) rfl ?_ | refine DP.q (Ev.ldbn 2 (.t rfl) rfl ag28 ty28 rfl) rfl ?_ | refine DP.q (Ev.ldbn 3 (.t rfl) rfl ag28 ty28 rfl) rfl ?_
    refine DP.callp (ih d hdm) ⟨(.t rfl), (.t rfl), trivial⟩ rfl ?_
    refine DP.q (Ev.not (.t rfl)) rfl ?_
    refine DP.nil ?_
    refine W.then ?_
    refine W.is (t := 45) (g := true) (av' := .lit (.bool false)) rfl (congrArg (fun b => AV.lit (.bool b)) (by rfl)) ?_
    refine W.condF (.t rfl) ?_
    refine W.skip ?_
    refine W.blk_normal ?_
    refine W.then ?_
    refine W.region ?_
    refine W.q (Ev.move (.t rfl)) rfl ?_
    first | refine W.q (Ev.add (.t rfl) .k (fun _ => by omega)) rfl ?_ | refine W.q (Ev.addw (.t rfl) .k) rfl ?_
    refine W.q (Ev.assign (.t rfl)) rfl ?_
    refine W.nil ?_
    refine W.then ?_
    refine W.reach (D := []) (i + 1) ⟨rfl, rfl, rfl, trivial⟩ (.refl _) ⟨by show i + 1 ≤ _; omega, by show _ - (i + 1) < _; omega⟩
  · skip
    refine W.seq ?_
    refine W.seq ?_
    refine W.region ?_
    refine W.q (Ev.move (.t rfl)) rfl ?_
    first | refine W.q (Ev.fae (.t rfl) fa28_2 rfl) rfl ?_ | refine W.q (Ev.fab (.t rfl) fa28_2) rfl ?_ | refine W.q (Ev.faa (.t rfl) fa28_2) rfl ?_
    first | refine W.q (Ev.lde1 (.t rfl) ag26) rfl ?_ | refine W.q (Ev.ldb1 0 (.t rfl) rfl ag26 rfl) rfl ?_ | refine W.q (Ev.ldb1 1 (.t rfl) rfl ag26 rfl) rfl ?_ | refine W.q (Ev.ldb1 2 (.t rfl) rfl ag26 rfl) rfl ?_ | refine W.q (Ev.ldb1 3 (.t rfl) rfl ag26 rfl) rfl ?_
    first | refine W.q (Ev.lensl (.t rfl) Try.underlying26) rfl ?_ | refine W.q (Ev.lenar (i := 0) (.t rfl) rfl Try.underlying26) rfl ?_ | refine W.q (Ev.lenar (i := 1) (.t rfl) rfl Try.underlying26) rfl ?_ | refine W.q (Ev.lenar (i := 2) (.t rfl) rfl Try.underlying26) rfl ?_ | refine W.q (Ev.lenar (i := 3) (.t rfl) rfl Try.underlying26) rfl ?_
    refine W.q (Ev.lti (.t rfl) (.t rfl)) rfl ?_
    refine W.nil ?_
    refine W.then ?_
    refine W.is (t := 31) (g := true) (av' := .lit (.bool false)) rfl (congrArg (fun b => AV.lit (.bool b)) (by exact decide_eq_false (by omega))) ?_
    refine W.condF (.t rfl) ?_
    refine W.exit ?_
    refine W.then_exit ?_
    refine W.then_exit ?_
    refine W.blk_hit ?_
    refine W.then ?_
    refine W.seq ?_
    refine W.region ?_
    refine W.q (Ev.assign .k) rfl ?_
    refine W.nil ?_
    refine W.then ?_
    refine W.ret ?_
    refine W.retn (M' := []) (D := _) (rs := [.tmp 4]) (avs := [_]) Try.results11 ⟨rfl, trivial⟩ rfl (.refl _) ?_
    exact ⟨rfl, rfl⟩

theorem c_same : ∀ x : Ex, x.sz ≤ 16777216 → FnP Try.prog 11 [Ex.avx x, Ex.avx x] (.bool true) := by
  refine Ex.rec' fun x ih hz => ?_
  exact c_same_step x hz fun d hd => ih d hd (by have := Ex.part_sz hd; omega)

end WSameX

end Go.Proofs.Ythhkionhimbekaa
