/-
  Expressions that may be.
-/
import Derived.Test.YthhkionhimbekaaExprP
import Derived.Test.YthhkionhimbekaaBase
set_option linter.unusedVariables false
set_option linter.unusedSimpArgs false
set_option maxRecDepth 100000
namespace Go.Proofs.Ythhkionhimbekaa
open Go.Vl

namespace WFault
theorem ty3 : Ty Try.prog 3 1 8 (.int .i64 0) := Ty.of (by kernel_rfl)
theorem ty26 : Ty Try.prog 26 1 24 (.slice none 0 0) := Ty.of (by kernel_rfl)
theorem ty28 : Ty Try.prog 28 3 40 (.agg #[.int .i64 0, .int .i64 0, .slice none 0 0]) := Ty.of (by kernel_rfl)
theorem ag3 : IsAgg Try.prog 3 false := ⟨_, Try.underlying3, rfl⟩
theorem ag26 : IsAgg Try.prog 26 false := ⟨_, Try.underlying26, rfl⟩
theorem ag28 : IsAgg Try.prog 28 true := ⟨_, Try.underlying28, rfl⟩
theorem fa28_0 : FieldAt Try.prog 28 0 0 1 false := ⟨_, _, Try.underlying28, rfl, rfl, ty3.size, ag3, by decide⟩
theorem fa28_1 : FieldAt Try.prog 28 1 1 1 false := ⟨_, _, Try.underlying28, rfl, rfl, ty3.size, ag3, by decide⟩
theorem fa28_2 : FieldAt Try.prog 28 2 2 1 false := ⟨_, _, Try.underlying28, rfl, rfl, ty26.size, ag26, by decide⟩
theorem c_IndexFuncX (l : List Ex) (g : Nat) (caps : List Value) (M0 : List ME) (p : Ex → Bool) (hg : ∀ d ∈ l, FnC Try.prog g ([Ex.avx d] ++ caps.map .lit) M0 (fun r M => r = .bool (p d) ∧ M = M0)) (hn : l.length ≤ 1099511627776) : FnC Try.prog 38 [.sl 3 (l.map Ex.av), .lit (.func (.func g) #[] caps.toArray)] M0 (fun r M => r = .int (idxI p l) ∧ M = M0) :=  by
  refine FnC.mk Try.func38 (by kernel_rfl) rfl Try.ntmps38 rfl (fun w0 F => ?_)
  have hnl : (l.map Ex.av).length = l.length := List.length_map ..
  refine W.seq ?_
  refine W.region ?_
  refine W.q (Ev.assign .k) rfl ?_
  refine W.nil ?_
  refine W.then ?_
  refine W.seq ?_
  refine W.seq ?_
  refine W.region ?_
  refine W.q (Ev.move (.t rfl)) rfl ?_
  first | refine W.q (Ev.lensl (.t rfl) Try.underlying26) rfl ?_ | refine W.q (Ev.lenar (i := 0) (.t rfl) rfl Try.underlying26) rfl ?_ | refine W.q (Ev.lenar (i := 1) (.t rfl) rfl Try.underlying26) rfl ?_ | refine W.q (Ev.lenar (i := 2) (.t rfl) rfl Try.underlying26) rfl ?_ | refine W.q (Ev.lenar (i := 3) (.t rfl) rfl Try.underlying26) rfl ?_
  refine W.q (Ev.move .k) rfl ?_
  refine W.nil ?_
  refine W.then ?_
  refine W.block ?_
  refine W.loop (D := []) (ι := Nat) (fun i => [(8, true, .int (i : Int)), (7, true, .int ((l.map Ex.av).length : Int)), (0, true, .sl 3 (l.map Ex.av)), (1, true, .lit (.func (.func g) #[] caps.toArray))]) (fun _ => M0) (fun i => i ≤ l.length ∧ ∀ d ∈ l.take i, p d = false) (fun i => l.length - i) 0 ⟨rfl, rfl, rfl, rfl, trivial⟩ (List.Perm.of_eq (List.append_nil _).symm) ⟨Nat.zero_le _, by simp⟩ ?_
  rintro i ⟨hi1, hi2⟩
  dsimp only at hi1 hi2 ⊢
  rcases (show i < l.length ∨ i = l.length from by omega) with hlt | hend
  · have hga := Ex.at_av l i hlt
    refine W.seq ?_
    refine W.region ?_
    refine W.q (Ev.lti (.t rfl) (.t rfl)) rfl ?_
    refine W.nil ?_
    refine W.then ?_
    refine W.seq ?_
    refine W.is (t := 9) (g := true) (av' := .lit (.bool true)) rfl (congrArg (fun b => AV.lit (.bool b)) (by simp; omega)) ?_
    refine W.condT (.t rfl) ?_
    refine W.skip ?_
    refine W.then ?_
    refine W.seq ?_
    refine W.block ?_
    refine W.seq ?_
    refine W.region ?_
    refine W.q (Ev.move (.t rfl)) rfl ?_
    refine W.q (Ev.assign (.t rfl)) rfl ?_
    refine W.nil ?_
    refine W.then ?_
    refine W.seq ?_
    refine W.region ?_
    refine W.q (Ev.move (.t rfl)) rfl ?_
    refine W.q (Ev.move (.t rfl)) rfl ?_
    refine W.q (Ev.move (.t rfl)) rfl ?_
    refine W.q (Ev.at (E := 28) (.t rfl) (.t rfl) Try.underlying26 ty28 (fun _ => ⟨by omega, hga⟩) rfl rfl) rfl ?_
    first | refine W.q (Ev.lden (.t rfl) ag28 ty28 rfl rfl) rfl ?_ | refine W.q (Ev.ldbn 0 (.t rfl) rfl ag28 ty28 rfl) rfl ?_ | refine W.q (Ev.ldbn 1 (.t rfl) rfl ag28 ty28 rfl) rfl ?_ | refine W.q (Ev.ldbn 2 (.t rfl) rfl ag28 ty28 rfl) rfl ?_ | refine W.q (Ev.ldbn 3 (.t rfl) rfl ag28 ty28 rfl) rfl ?_
    refine W.callv (caps := caps) (avs := [_]) (hg (l.getD i Ex.dflt) (getD_memG Ex.dflt l i hlt)) (.t rfl) ⟨(.t rfl), trivial⟩ rfl ((List.Perm.of_eq (List.append_nil _).symm)) rfl ?_
    rintro _ M' ⟨rfl, hM⟩
    rw [hM, List.append_nil]
    refine W.nil ?_
    refine W.then ?_
    refine W.cond (.t rfl) (fun hc_t16 => ?_) (fun hc_t16 => ?_)
    · have hq := idxI_hit p Ex.dflt l i hlt hi2 hc_t16
      refine W.seq ?_
      refine W.region ?_
      refine W.q (Ev.move (.t rfl)) rfl ?_
      refine W.q (Ev.assign (.t rfl)) rfl ?_
      refine W.nil ?_
      refine W.then ?_
      refine W.ret ?_
      refine W.blk_ret ?_
      refine W.then_ret ?_
      refine W.then_ret ?_
      refine W.blk_ret ?_
      refine W.then_ret ?_
      refine W.retn (M' := M0) (D := []) (rs := [.tmp 4]) (avs := [_]) Try.results38 ⟨rfl, trivial⟩ rfl (List.Perm.of_eq (List.append_nil _).symm) ?_
      exact ⟨congrArg AV.int (by rw [hq]), rfl⟩
    · have hq : p (l.getD i Ex.dflt) = false := hc_t16
      refine W.skip ?_
      refine W.blk_normal ?_
      refine W.then ?_
      refine W.region ?_
      first | refine W.q (Ev.add (.t rfl) .k (fun _ => by omega)) rfl ?_ | refine W.q (Ev.addw (.t rfl) .k) rfl ?_
      refine W.q (Ev.move (.t rfl)) rfl ?_
      refine W.nil ?_
      refine W.then ?_
      refine W.reach (D := []) (i + 1) ⟨rfl, rfl, rfl, rfl, trivial⟩ (List.Perm.of_eq (List.append_nil _).symm) ⟨⟨by omega, ?_⟩, by omega⟩
      rw [take_getDG Ex.dflt l i hlt]
      intro d hd
      cases List.mem_append.1 hd with
      | inl h => exact hi2 d h
      | inr h => rw [List.mem_singleton.1 h]; exact hq
  · rw [List.take_of_length_le (by omega)] at hi2
    have hq := idxI_miss p l hi2
    refine W.seq ?_
    refine W.region ?_
    refine W.q (Ev.lti (.t rfl) (.t rfl)) rfl ?_
    refine W.nil ?_
    refine W.then ?_
    refine W.seq ?_
    refine W.is (t := 9) (g := true) (av' := .lit (.bool false)) rfl (congrArg (fun b => AV.lit (.bool b)) (by simp; omega)) ?_
    refine W.condF (.t rfl) ?_
    refine W.exit ?_
    refine W.then_exit ?_
    refine W.then_exit ?_
    refine W.blk_hit ?_
    refine W.then ?_
    refine W.seq ?_
    refine W.region ?_
    refine W.q (Ev.assign .k) rfl ?_
    refine W.nil ?_
    refine W.then ?_
    refine W.ret ?_
    refine W.retn (M' := M0) (D := []) (rs := [.tmp 4]) (avs := [_]) Try.results38 ⟨rfl, trivial⟩ rfl (List.Perm.of_eq (List.append_nil _).symm) ?_
    exact ⟨congrArg AV.int (by rw [hq]), rfl⟩

theorem c_ContainsFuncX (l : List Ex) (g : Nat) (caps : List Value) (M0 : List ME) (p : Ex → Bool) (hg : ∀ d ∈ l, FnC Try.prog g ([Ex.avx d] ++ caps.map .lit) M0 (fun r M => r = .bool (p d) ∧ M = M0)) (hn : l.length ≤ 1099511627776) : FnC Try.prog 28 [.sl 3 (l.map Ex.av), .lit (.func (.func g) #[] caps.toArray)] M0 (fun r M => r = .bool (l.any p) ∧ M = M0) :=  by
  refine FnC.mk Try.func28 (by kernel_rfl) rfl Try.ntmps28 rfl (fun w0 F => ?_)
  refine W.seq ?_
  refine W.region ?_
  refine W.q (Ev.assign .k) rfl ?_
  refine W.nil ?_
  refine W.then ?_
  refine W.seq ?_
  refine W.region ?_
  refine W.q (Ev.move (.t rfl)) rfl ?_
  refine W.q (Ev.move (.t rfl)) rfl ?_
  refine W.call (c_IndexFuncX l g caps M0 p hg hn) ⟨(.t rfl), (.t rfl), trivial⟩ ((List.Perm.of_eq (List.append_nil _).symm)) rfl ?_
  rintro _ M' ⟨rfl, hM⟩
  rw [hM, List.append_nil]
  refine W.q (Ev.gei (.t rfl) .k) rfl ?_
  refine W.q (Ev.assign (.t rfl)) rfl ?_
  refine W.nil ?_
  refine W.then ?_
  refine W.ret ?_
  refine W.retn (M' := M0) (D := []) (rs := [.tmp 4]) (avs := [_]) Try.results28 ⟨rfl, trivial⟩ rfl (List.Perm.of_eq (List.append_nil _).symm) ?_
  exact ⟨congrArg AV.bool (idxI_any p l), rfl⟩

theorem c_fault1 (b : Nat) (x d : Ex) : FnC Try.prog 29 ([Ex.avx d] ++ [Value.pointer (some ⟨b, 0, none⟩)].map .lit) [.box b 28 x.avx.cells] (fun r M => r = .bool (d.kind == x.kind) ∧ M = [.box b 28 x.avx.cells]) :=  by
  refine FnC.mk Try.func29 (by kernel_rfl) rfl Try.ntmps29 rfl (fun w0 F => ?_)
  refine W.seq ?_
  refine W.region ?_
  refine W.box (.t rfl) rfl rfl ?_
  intro b2
  refine W.q (Ev.assign .k) rfl ?_
  refine W.nil ?_
  refine W.then ?_
  refine W.seq ?_
  refine W.region ?_
  first | refine W.q (Ev.fae (.t rfl) fa28_0 rfl) rfl ?_ | refine W.q (Ev.fab (.t rfl) fa28_0) rfl ?_ | refine W.q (Ev.faa (.t rfl) fa28_0) rfl ?_
  first | refine W.q (Ev.lde1 (.t rfl) ag3) rfl ?_ | refine W.q (Ev.ldb1 0 (.t rfl) rfl ag3 rfl) rfl ?_ | refine W.q (Ev.ldb1 1 (.t rfl) rfl ag3 rfl) rfl ?_ | refine W.q (Ev.ldb1 2 (.t rfl) rfl ag3 rfl) rfl ?_ | refine W.q (Ev.ldb1 3 (.t rfl) rfl ag3 rfl) rfl ?_
  first | refine W.q (Ev.fae (.t rfl) fa28_0 rfl) rfl ?_ | refine W.q (Ev.fab (.t rfl) fa28_0) rfl ?_ | refine W.q (Ev.faa (.t rfl) fa28_0) rfl ?_
  first | refine W.q (Ev.lde1 (.t rfl) ag3) rfl ?_ | refine W.q (Ev.ldb1 0 (.t rfl) rfl ag3 rfl) rfl ?_ | refine W.q (Ev.ldb1 1 (.t rfl) rfl ag3 rfl) rfl ?_ | refine W.q (Ev.ldb1 2 (.t rfl) rfl ag3 rfl) rfl ?_ | refine W.q (Ev.ldb1 3 (.t rfl) rfl ag3 rfl) rfl ?_
  refine W.q (Ev.eqi (.t rfl) (.t rfl)) rfl ?_
  refine W.q (Ev.assign (.t rfl)) rfl ?_
  refine W.nil ?_
  refine W.then ?_
  refine W.ret ?_
  refine W.retn (M' := [.box b 28 _]) (D := _) (rs := [.tmp 3]) (avs := [_]) Try.results29 ⟨rfl, trivial⟩ rfl (List.Perm.swap _ _ []) ?_
  exact ⟨rfl, rfl⟩

theorem c_fault_step (x : Ex) (h1 : Ex.ok1 x) (hz : x.sz ≤ 16777216) (ih : ∀ d ∈ x.parts, FnP Try.prog 20 [Ex.avx d] (.int 0)) : FnP Try.prog 20 [Ex.avx x] (.int 0) :=  by
  refine FnC.mk Try.func20 (by kernel_rfl) rfl Try.ntmps20 rfl (fun w0 F => ?_)
  have hpl : (x.parts.map Ex.av).length = x.parts.length := List.length_map ..
  have hse := Ex.sz_eq x
  have hsl := Ex.szs_len x.parts
  obtain ⟨k0, k1, k2, k3, k4, k5, k6, k7⟩ := Ex.ok1_facts h1
  refine W.seq ?_
  refine W.region ?_
  refine W.box (.t rfl) rfl rfl ?_
  intro b1
  refine W.q (Ev.assign .k) rfl ?_
  refine W.nil ?_
  refine W.then ?_
  refine W.seq ?_
  refine W.region ?_
  first | refine W.q (Ev.fae (.t rfl) fa28_2 rfl) rfl ?_ | refine W.q (Ev.fab (.t rfl) fa28_2) rfl ?_ | refine W.q (Ev.faa (.t rfl) fa28_2) rfl ?_
  first | refine W.q (Ev.lde1 (.t rfl) ag26) rfl ?_ | refine W.q (Ev.ldb1 0 (.t rfl) rfl ag26 rfl) rfl ?_ | refine W.q (Ev.ldb1 1 (.t rfl) rfl ag26 rfl) rfl ?_ | refine W.q (Ev.ldb1 2 (.t rfl) rfl ag26 rfl) rfl ?_ | refine W.q (Ev.ldb1 3 (.t rfl) rfl ag26 rfl) rfl ?_
  first | refine W.q (Ev.lensl (.t rfl) Try.underlying26) rfl ?_ | refine W.q (Ev.lenar (i := 0) (.t rfl) rfl Try.underlying26) rfl ?_ | refine W.q (Ev.lenar (i := 1) (.t rfl) rfl Try.underlying26) rfl ?_ | refine W.q (Ev.lenar (i := 2) (.t rfl) rfl Try.underlying26) rfl ?_ | refine W.q (Ev.lenar (i := 3) (.t rfl) rfl Try.underlying26) rfl ?_
  refine W.q (Ev.assign (.t rfl)) rfl ?_
  refine W.nil ?_
  refine W.then ?_
  refine W.seq ?_
  refine W.region ?_
  first | refine W.q (Ev.fae (.t rfl) fa28_0 rfl) rfl ?_ | refine W.q (Ev.fab (.t rfl) fa28_0) rfl ?_ | refine W.q (Ev.faa (.t rfl) fa28_0) rfl ?_
  first | refine W.q (Ev.lde1 (.t rfl) ag3) rfl ?_ | refine W.q (Ev.ldb1 0 (.t rfl) rfl ag3 rfl) rfl ?_ | refine W.q (Ev.ldb1 1 (.t rfl) rfl ag3 rfl) rfl ?_ | refine W.q (Ev.ldb1 2 (.t rfl) rfl ag3 rfl) rfl ?_ | refine W.q (Ev.ldb1 3 (.t rfl) rfl ag3 rfl) rfl ?_
  refine W.q (Ev.eqi (.t rfl) .k) rfl ?_
  refine W.q (Ev.move (.t rfl)) rfl ?_
  first | refine W.qgF rfl rfl (Ev.fae (.t rfl) fa28_0 rfl) rfl ?_ | refine W.qgF rfl rfl (Ev.fab (.t rfl) fa28_0) rfl ?_ | refine W.qgF rfl rfl (Ev.faa (.t rfl) fa28_0) rfl ?_
  first | refine W.qgF rfl rfl (Ev.lde1 (.c rfl) ag3) rfl ?_ | refine W.qgF rfl rfl (Ev.ldb1 0 (.c rfl) rfl ag3 rfl) rfl ?_ | refine W.qgF rfl rfl (Ev.ldb1 1 (.c rfl) rfl ag3 rfl) rfl ?_ | refine W.qgF rfl rfl (Ev.ldb1 2 (.c rfl) rfl ag3 rfl) rfl ?_ | refine W.qgF rfl rfl (Ev.ldb1 3 (.c rfl) rfl ag3 rfl) rfl ?_
  refine W.qgF rfl rfl (Ev.eqi (.c rfl) .k) rfl ?_
  refine W.q (Ev.or (.t rfl) ⟨_, _, rfl, rfl, by first | (simp; done) | (intro hg_ hp_; simp [hp_]; done) | (simp <;> omega; done) | (simp_all; done) | grind⟩) rfl ?_
  refine W.q (Ev.assign (.t rfl)) rfl ?_
  refine W.nil ?_
  refine W.then ?_
  refine W.seq ?_
  refine W.block ?_
  refine W.seq ?_
  refine W.region ?_
  first | refine W.q (Ev.fae (.t rfl) fa28_0 rfl) rfl ?_ | refine W.q (Ev.fab (.t rfl) fa28_0) rfl ?_ | refine W.q (Ev.faa (.t rfl) fa28_0) rfl ?_
  first | refine W.q (Ev.lde1 (.t rfl) ag3) rfl ?_ | refine W.q (Ev.ldb1 0 (.t rfl) rfl ag3 rfl) rfl ?_ | refine W.q (Ev.ldb1 1 (.t rfl) rfl ag3 rfl) rfl ?_ | refine W.q (Ev.ldb1 2 (.t rfl) rfl ag3 rfl) rfl ?_ | refine W.q (Ev.ldb1 3 (.t rfl) rfl ag3 rfl) rfl ?_
  refine W.q (Ev.lti (.t rfl) .k) rfl ?_
  refine W.q (Ev.move (.t rfl)) rfl ?_
  first | refine W.qgF rfl rfl (Ev.fae (.t rfl) fa28_0 rfl) rfl ?_ | refine W.qgF rfl rfl (Ev.fab (.t rfl) fa28_0) rfl ?_ | refine W.qgF rfl rfl (Ev.faa (.t rfl) fa28_0) rfl ?_
  first | refine W.qgF rfl rfl (Ev.lde1 (.c rfl) ag3) rfl ?_ | refine W.qgF rfl rfl (Ev.ldb1 0 (.c rfl) rfl ag3 rfl) rfl ?_ | refine W.qgF rfl rfl (Ev.ldb1 1 (.c rfl) rfl ag3 rfl) rfl ?_ | refine W.qgF rfl rfl (Ev.ldb1 2 (.c rfl) rfl ag3 rfl) rfl ?_ | refine W.qgF rfl rfl (Ev.ldb1 3 (.c rfl) rfl ag3 rfl) rfl ?_
  refine W.qgF rfl rfl (Ev.gti (.c rfl) .k) rfl ?_
  refine W.q (Ev.or (.t rfl) ⟨_, _, rfl, rfl, by first | (simp; done) | (intro hg_ hp_; simp [hp_]; done) | (simp <;> omega; done) | (simp_all; done) | grind⟩) rfl ?_
  refine W.q (Ev.assign (.t rfl)) rfl ?_
  refine W.nil ?_
  refine W.then ?_
  refine W.is (t := 19) (g := true) (av' := .lit (.bool false)) rfl (congrArg (fun b => AV.lit (.bool b)) (by exact Bool.eq_false_iff.2 (fun h => by simp at h; omega))) ?_
  refine W.condF (.t rfl) ?_
  refine W.seq ?_
  refine W.seq ?_
  refine W.region ?_
  first | refine W.q (Ev.fae (.t rfl) fa28_0 rfl) rfl ?_ | refine W.q (Ev.fab (.t rfl) fa28_0) rfl ?_ | refine W.q (Ev.faa (.t rfl) fa28_0) rfl ?_
  first | refine W.q (Ev.lde1 (.t rfl) ag3) rfl ?_ | refine W.q (Ev.ldb1 0 (.t rfl) rfl ag3 rfl) rfl ?_ | refine W.q (Ev.ldb1 1 (.t rfl) rfl ag3 rfl) rfl ?_ | refine W.q (Ev.ldb1 2 (.t rfl) rfl ag3 rfl) rfl ?_ | refine W.q (Ev.ldb1 3 (.t rfl) rfl ag3 rfl) rfl ?_
  refine W.q (Ev.eqi (.t rfl) .k) rfl ?_
  refine W.q (Ev.move (.t rfl)) rfl ?_
  refine W.qgT rfl rfl (Ev.move (.t rfl)) rfl ?_
  refine W.qgT rfl rfl (Ev.gti (.c rfl) .k) rfl ?_
  refine W.q (Ev.and (.t rfl) ⟨_, _, rfl, rfl, by first | (simp; done) | (intro hg_ hp_; simp [hp_]; done) | (simp <;> omega; done) | (simp_all; done) | grind⟩) rfl ?_
  refine W.q (Ev.assign (.t rfl)) rfl ?_
  refine W.nil ?_
  refine W.then ?_
  refine W.is (t := 28) (g := true) (av' := .lit (.bool false)) rfl (congrArg (fun b => AV.lit (.bool b)) (by exact Bool.eq_false_iff.2 (fun h => by simp only [Bool.and_eq_true, Bool.or_eq_true, beq_iff_eq, bne_iff_ne, decide_eq_true_eq, ne_eq] at h; omega))) ?_
  refine W.condF (.t rfl) ?_
  refine W.seq ?_
  refine W.region ?_
  first | refine W.q (Ev.fae (.t rfl) fa28_0 rfl) rfl ?_ | refine W.q (Ev.fab (.t rfl) fa28_0) rfl ?_ | refine W.q (Ev.faa (.t rfl) fa28_0) rfl ?_
  first | refine W.q (Ev.lde1 (.t rfl) ag3) rfl ?_ | refine W.q (Ev.ldb1 0 (.t rfl) rfl ag3 rfl) rfl ?_ | refine W.q (Ev.ldb1 1 (.t rfl) rfl ag3 rfl) rfl ?_ | refine W.q (Ev.ldb1 2 (.t rfl) rfl ag3 rfl) rfl ?_ | refine W.q (Ev.ldb1 3 (.t rfl) rfl ag3 rfl) rfl ?_
  refine W.q (Ev.nei (.t rfl) .k) rfl ?_
  refine W.q (Ev.move (.t rfl)) rfl ?_
  first | refine W.qgT rfl rfl (Ev.fae (.t rfl) fa28_1 rfl) rfl ?_ | refine W.qgT rfl rfl (Ev.fab (.t rfl) fa28_1) rfl ?_ | refine W.qgT rfl rfl (Ev.faa (.t rfl) fa28_1) rfl ?_
  first | refine W.qgT rfl rfl (Ev.lde1 (.c rfl) ag3) rfl ?_ | refine W.qgT rfl rfl (Ev.ldb1 0 (.c rfl) rfl ag3 rfl) rfl ?_ | refine W.qgT rfl rfl (Ev.ldb1 1 (.c rfl) rfl ag3 rfl) rfl ?_ | refine W.qgT rfl rfl (Ev.ldb1 2 (.c rfl) rfl ag3 rfl) rfl ?_ | refine W.qgT rfl rfl (Ev.ldb1 3 (.c rfl) rfl ag3 rfl) rfl ?_
  refine W.qgT rfl rfl (Ev.nei (.c rfl) .k) rfl ?_
  refine W.q (Ev.and (.t rfl) ⟨_, _, rfl, rfl, by first | (simp; done) | (intro hg_ hp_; simp [hp_]; done) | (simp <;> omega; done) | (simp_all; done) | grind⟩) rfl ?_
  refine W.q (Ev.assign (.t rfl)) rfl ?_
  refine W.nil ?_
  refine W.then ?_
  refine W.is (t := 28) (g := true) (av' := .lit (.bool false)) rfl (congrArg (fun b => AV.lit (.bool b)) (by exact Bool.eq_false_iff.2 (fun h => by simp only [Bool.and_eq_true, Bool.or_eq_true, beq_iff_eq, bne_iff_ne, decide_eq_true_eq, ne_eq] at h; omega))) ?_
  refine W.condF (.t rfl) ?_
  refine W.seq ?_
  refine W.region ?_
  refine W.q (Ev.move (.t rfl)) rfl ?_
  refine W.q (Ev.move (.t rfl)) rfl ?_
  refine W.qgT rfl rfl (Ev.move (.t rfl)) rfl ?_
  refine W.qgT rfl rfl (Ev.eqi (.c rfl) .k) rfl ?_
  refine W.q (Ev.and (.t rfl) ⟨_, _, rfl, rfl, by first | (simp; done) | (intro hg_ hp_; simp [hp_]; done) | (simp <;> omega; done) | (simp_all; done) | grind⟩) rfl ?_
  refine W.q (Ev.assign (.t rfl)) rfl ?_
  refine W.nil ?_
  refine W.then ?_
  refine W.is (t := 28) (g := true) (av' := .lit (.bool false)) rfl (congrArg (fun b => AV.lit (.bool b)) (by exact Bool.eq_false_iff.2 (fun h => by simp only [Bool.and_eq_true, Bool.or_eq_true, beq_iff_eq, bne_iff_ne, decide_eq_true_eq, ne_eq] at h; omega))) ?_
  refine W.condF (.t rfl) ?_
  refine W.seq ?_
  refine W.region ?_
  first | refine W.q (Ev.fae (.t rfl) fa28_0 rfl) rfl ?_ | refine W.q (Ev.fab (.t rfl) fa28_0) rfl ?_ | refine W.q (Ev.faa (.t rfl) fa28_0) rfl ?_
  first | refine W.q (Ev.lde1 (.t rfl) ag3) rfl ?_ | refine W.q (Ev.ldb1 0 (.t rfl) rfl ag3 rfl) rfl ?_ | refine W.q (Ev.ldb1 1 (.t rfl) rfl ag3 rfl) rfl ?_ | refine W.q (Ev.ldb1 2 (.t rfl) rfl ag3 rfl) rfl ?_ | refine W.q (Ev.ldb1 3 (.t rfl) rfl ag3 rfl) rfl ?_
  refine W.q (Ev.eqi (.t rfl) .k) rfl ?_
  refine W.q (Ev.move (.t rfl)) rfl ?_
  refine W.qgT rfl rfl (Ev.move (.t rfl)) rfl ?_
  refine W.qgT rfl rfl (Ev.eqi (.c rfl) .k) rfl ?_
  refine W.q (Ev.and (.t rfl) ⟨_, _, rfl, rfl, by first | (simp; done) | (intro hg_ hp_; simp [hp_]; done) | (simp <;> omega; done) | (simp_all; done) | grind⟩) rfl ?_
  refine W.q (Ev.assign (.t rfl)) rfl ?_
  refine W.nil ?_
  refine W.then ?_
  refine W.is (t := 28) (g := true) (av' := .lit (.bool false)) rfl (congrArg (fun b => AV.lit (.bool b)) (by exact Bool.eq_false_iff.2 (fun h => by simp only [Bool.and_eq_true, Bool.or_eq_true, beq_iff_eq, bne_iff_ne, decide_eq_true_eq, ne_eq] at h; omega))) ?_
  refine W.condF (.t rfl) ?_
  refine W.region ?_
  first | refine W.q (Ev.fae (.t rfl) fa28_0 rfl) rfl ?_ | refine W.q (Ev.fab (.t rfl) fa28_0) rfl ?_ | refine W.q (Ev.faa (.t rfl) fa28_0) rfl ?_
  first | refine W.q (Ev.lde1 (.t rfl) ag3) rfl ?_ | refine W.q (Ev.ldb1 0 (.t rfl) rfl ag3 rfl) rfl ?_ | refine W.q (Ev.ldb1 1 (.t rfl) rfl ag3 rfl) rfl ?_ | refine W.q (Ev.ldb1 2 (.t rfl) rfl ag3 rfl) rfl ?_ | refine W.q (Ev.ldb1 3 (.t rfl) rfl ag3 rfl) rfl ?_
  refine W.q (Ev.gei (.t rfl) .k) rfl ?_
  refine W.q (Ev.move (.t rfl)) rfl ?_
  refine W.qgT rfl rfl (Ev.move (.t rfl)) rfl ?_
  refine W.qgT rfl rfl (Ev.nei (.c rfl) .k) rfl ?_
  refine W.q (Ev.and (.t rfl) ⟨_, _, rfl, rfl, by first | (simp; done) | (intro hg_ hp_; simp [hp_]; done) | (simp <;> omega; done) | (simp_all; done) | grind⟩) rfl ?_
  refine W.q (Ev.assign (.t rfl)) rfl ?_
  refine W.nil ?_
  refine W.then ?_
  refine W.is (t := 28) (g := true) (av' := .lit (.bool false)) rfl (congrArg (fun b => AV.lit (.bool b)) (by exact Bool.eq_false_iff.2 (fun h => by simp only [Bool.and_eq_true, Bool.or_eq_true, beq_iff_eq, bne_iff_ne, decide_eq_true_eq, ne_eq] at h; omega))) ?_
  refine W.condF (.t rfl) ?_
  refine W.seq ?_
  refine W.region ?_
  refine W.q (Ev.move (.t rfl)) rfl ?_
  refine W.q (Ev.move (.t rfl)) rfl ?_
  first | refine W.qgT rfl rfl (Ev.fae (.t rfl) fa28_2 rfl) rfl ?_ | refine W.qgT rfl rfl (Ev.fab (.t rfl) fa28_2) rfl ?_ | refine W.qgT rfl rfl (Ev.faa (.t rfl) fa28_2) rfl ?_
  first | refine W.qgT rfl rfl (Ev.lde1 (.c rfl) ag26) rfl ?_ | refine W.qgT rfl rfl (Ev.ldb1 0 (.c rfl) rfl ag26 rfl) rfl ?_ | refine W.qgT rfl rfl (Ev.ldb1 1 (.c rfl) rfl ag26 rfl) rfl ?_ | refine W.qgT rfl rfl (Ev.ldb1 2 (.c rfl) rfl ag26 rfl) rfl ?_ | refine W.qgT rfl rfl (Ev.ldb1 3 (.c rfl) rfl ag26 rfl) rfl ?_
  refine W.qgT rfl rfl (Ev.mkfn (caps := [.tmp 1]) (vs := [_]) ⟨(.t rfl), trivial⟩) rfl ?_
  refine W.callgT (Min := _) (caps := []) (avs := [_, _]) rfl rfl (fun hg => c_ContainsFuncX x.parts 29 [.pointer (some ⟨b1, 0, none⟩)] [.box b1 28 x.avx.cells] (fun d => d.kind == x.kind) (fun d _ => c_fault1 b1 x d) (by omega)) (fun hg => .f) (fun hg => ⟨(.i rfl (fun _ => hg)), (.i rfl (fun _ => hg)), trivial⟩) rfl (.refl _) rfl ?_
  refine W.q (Ev.and (.t rfl) ⟨_, _, rfl, rfl, by first | (simp; done) | (intro hg_ hp_; simp [hp_]; done) | (simp <;> omega; done) | (simp_all; done) | grind⟩) rfl ?_
  refine W.q (Ev.assign (.t rfl)) rfl ?_
  refine W.nil ?_
  refine W.then ?_
  refine W.is (t := 63) (g := true) (av' := .lit (.bool false)) rfl (congrArg (fun b => AV.lit (.bool b)) (by exact Bool.eq_false_iff.2 (fun h => by have h1 := (Bool.and_eq_true _ _).mp h; rw [k7 h1.1] at h1; exact absurd h1.2 (by decide)))) ?_
  refine W.condF (.t rfl) ?_
  refine W.seq ?_
  refine W.region ?_
  first | refine W.q (Ev.fae (.t rfl) fa28_1 rfl) rfl ?_ | refine W.q (Ev.fab (.t rfl) fa28_1) rfl ?_ | refine W.q (Ev.faa (.t rfl) fa28_1) rfl ?_
  first | refine W.q (Ev.lde1 (.t rfl) ag3) rfl ?_ | refine W.q (Ev.ldb1 0 (.t rfl) rfl ag3 rfl) rfl ?_ | refine W.q (Ev.ldb1 1 (.t rfl) rfl ag3 rfl) rfl ?_ | refine W.q (Ev.ldb1 2 (.t rfl) rfl ag3 rfl) rfl ?_ | refine W.q (Ev.ldb1 3 (.t rfl) rfl ag3 rfl) rfl ?_
  refine W.q (Ev.lti (.t rfl) .k) rfl ?_
  refine W.q (Ev.move (.t rfl)) rfl ?_
  first | refine W.qgF rfl rfl (Ev.fae (.t rfl) fa28_1 rfl) rfl ?_ | refine W.qgF rfl rfl (Ev.fab (.t rfl) fa28_1) rfl ?_ | refine W.qgF rfl rfl (Ev.faa (.t rfl) fa28_1) rfl ?_
  first | refine W.qgF rfl rfl (Ev.lde1 (.c rfl) ag3) rfl ?_ | refine W.qgF rfl rfl (Ev.ldb1 0 (.c rfl) rfl ag3 rfl) rfl ?_ | refine W.qgF rfl rfl (Ev.ldb1 1 (.c rfl) rfl ag3 rfl) rfl ?_ | refine W.qgF rfl rfl (Ev.ldb1 2 (.c rfl) rfl ag3 rfl) rfl ?_ | refine W.qgF rfl rfl (Ev.ldb1 3 (.c rfl) rfl ag3 rfl) rfl ?_
  refine W.qgF rfl rfl (Ev.gei (.c rfl) .k) rfl ?_
  refine W.q (Ev.or (.t rfl) ⟨_, _, rfl, rfl, by first | (simp; done) | (intro hg_ hp_; simp [hp_]; done) | (simp <;> omega; done) | (simp_all; done) | grind⟩) rfl ?_
  refine W.q (Ev.assign (.t rfl)) rfl ?_
  refine W.nil ?_
  refine W.then ?_
  refine W.is (t := 71) (g := true) (av' := .lit (.bool false)) rfl (congrArg (fun b => AV.lit (.bool b)) (by exact Bool.eq_false_iff.2 (fun h => by simp at h; omega))) ?_
  refine W.condF (.t rfl) ?_
  refine W.skip ?_
  refine W.blk_normal ?_
  refine W.then ?_
  refine W.seq ?_
  refine W.seq ?_
  refine W.region ?_
  first | refine W.q (Ev.fae (.t rfl) fa28_2 rfl) rfl ?_ | refine W.q (Ev.fab (.t rfl) fa28_2) rfl ?_ | refine W.q (Ev.faa (.t rfl) fa28_2) rfl ?_
  first | refine W.q (Ev.lde1 (.t rfl) ag26) rfl ?_ | refine W.q (Ev.ldb1 0 (.t rfl) rfl ag26 rfl) rfl ?_ | refine W.q (Ev.ldb1 1 (.t rfl) rfl ag26 rfl) rfl ?_ | refine W.q (Ev.ldb1 2 (.t rfl) rfl ag26 rfl) rfl ?_ | refine W.q (Ev.ldb1 3 (.t rfl) rfl ag26 rfl) rfl ?_
  first | refine W.q (Ev.lensl (.t rfl) Try.underlying26) rfl ?_ | refine W.q (Ev.lenar (i := 0) (.t rfl) rfl Try.underlying26) rfl ?_ | refine W.q (Ev.lenar (i := 1) (.t rfl) rfl Try.underlying26) rfl ?_ | refine W.q (Ev.lenar (i := 2) (.t rfl) rfl Try.underlying26) rfl ?_ | refine W.q (Ev.lenar (i := 3) (.t rfl) rfl Try.underlying26) rfl ?_
  refine W.q (Ev.move .k) rfl ?_
  refine W.nil ?_
  refine W.then ?_
  refine W.block ?_
  refine W.loop (D := []) (ι := Nat) (fun i => [(83, true, .int (i : Int)), (82, true, .int ((x.parts.map Ex.av).length : Int)), (81, true, .sl 3 (x.parts.map Ex.av)), (1, true, .lit (.pointer (some ⟨b1, 0, none⟩)))]) (fun i => [.box b1 28 x.avx.cells]) (fun i => i ≤ x.parts.length) (fun i => x.parts.length - i) 0 ⟨rfl, rfl, rfl, rfl, trivial⟩ (.refl _) (Nat.zero_le _) ?_
  intro i hi
  dsimp only at hi ⊢
  rcases (show i < x.parts.length ∨ i = x.parts.length from by omega) with hlt | hend
  · have hga := Ex.at_av x.parts i hlt
    have hdm := getD_memG Ex.dflt x.parts i hlt
    generalize hd : x.parts.getD i Ex.dflt = d at hga hdm
    refine W.seq ?_
    refine W.region ?_
    refine W.q (Ev.lti (.t rfl) (.t rfl)) rfl ?_
    refine W.nil ?_
    refine W.then ?_
    refine W.seq ?_
    refine W.is (t := 84) (g := true) (av' := .lit (.bool true)) rfl (congrArg (fun b => AV.lit (.bool b)) (by exact decide_eq_true (by omega))) ?_
    refine W.condT (.t rfl) ?_
    refine W.skip ?_
    refine W.then ?_
    refine W.seq ?_
    refine W.block ?_
    refine W.seq ?_
    refine W.region ?_
    refine W.q (Ev.at (E := 28) (.t rfl) (.t rfl) Try.underlying26 ty28 (fun _ => ⟨by omega, hga⟩) rfl rfl) rfl ?_
    first | refine W.q (Ev.lden (.t rfl) ag28 ty28 rfl rfl) rfl ?_ | refine W.q (Ev.ldbn 0 (.t rfl) rfl ag28 ty28 rfl) rfl ?_ | refine W.q (Ev.ldbn 1 (.t rfl) rfl ag28 ty28 rfl) rfl ?_ | refine W.q (Ev.ldbn 2 (.t rfl) rfl ag28 ty28 rfl) rfl ?_ | refine W.q (Ev.ldbn 3 (.t rfl) rfl ag28 ty28 rfl) rfl ?_
    refine W.alloc ty28 rfl rfl ?_
    intro b6
    first | refine W.stb 0 (.t rfl) (.t rfl) rfl ty28 rfl rfl rfl ?_ | refine W.stb 1 (.t rfl) (.t rfl) rfl ty28 rfl rfl rfl ?_ | refine W.stb 2 (.t rfl) (.t rfl) rfl ty28 rfl rfl rfl ?_ | refine W.stb 3 (.t rfl) (.t rfl) rfl ty28 rfl rfl rfl ?_
    refine W.nil ?_
    refine W.then ?_
    refine W.seq ?_
    refine W.region ?_
    first | refine W.q (Ev.lden (.t rfl) ag28 ty28 rfl rfl) rfl ?_ | refine W.q (Ev.ldbn 0 (.t rfl) rfl ag28 ty28 rfl) rfl ?_ | refine W.q (Ev.ldbn 1 (.t rfl) rfl ag28 ty28 rfl) rfl ?_ | refine W.q (Ev.ldbn 2 (.t rfl) rfl ag28 ty28 rfl) rfl ?_ | refine W.q (Ev.ldbn 3 (.t rfl) rfl ag28 ty28 rfl) rfl ?_
    refine W.callp (ih d hdm) ⟨(.t rfl), trivial⟩ rfl ?_
    refine W.q (Ev.assign (.t rfl)) rfl ?_
    refine W.nil ?_
    refine W.then ?_
    refine W.seq ?_
    refine W.region ?_
    refine W.q (Ev.move (.t rfl)) rfl ?_
    refine W.q (Ev.nei (.t rfl) .k) rfl ?_
    refine W.nil ?_
    refine W.then ?_
    refine W.is (t := 90) (g := true) (av' := .lit (.bool false)) rfl (congrArg (fun b => AV.lit (.bool b)) (by rfl)) ?_
    refine W.condF (.t rfl) ?_
    refine W.skip ?_
    refine W.blk_normal ?_
    refine W.then ?_
    refine W.region ?_
    first | refine W.q (Ev.add (.t rfl) .k (fun _ => by omega)) rfl ?_ | refine W.q (Ev.addw (.t rfl) .k) rfl ?_
    refine W.q (Ev.move (.t rfl)) rfl ?_
    refine W.nil ?_
    refine W.then ?_
    refine W.reach (D := [_]) (i + 1) ⟨rfl, rfl, rfl, rfl, trivial⟩ (List.Perm.swap _ _ []) ⟨by show i + 1 ≤ _; omega, by show _ - (i + 1) < _; omega⟩
  · skip
    refine W.seq ?_
    refine W.region ?_
    refine W.q (Ev.lti (.t rfl) (.t rfl)) rfl ?_
    refine W.nil ?_
    refine W.then ?_
    refine W.seq ?_
    refine W.is (t := 84) (g := true) (av' := .lit (.bool false)) rfl (congrArg (fun b => AV.lit (.bool b)) (by exact decide_eq_false (by omega))) ?_
    refine W.condF (.t rfl) ?_
    refine W.exit ?_
    refine W.then_exit ?_
    refine W.then_exit ?_
    refine W.blk_hit ?_
    refine W.then ?_
    refine W.seq ?_
    refine W.region ?_
    refine W.q (Ev.assign .k) rfl ?_
    refine W.nil ?_
    refine W.then ?_
    refine W.ret ?_
    refine W.retn (M' := []) (D := _) (rs := [.tmp 2]) (avs := [_]) Try.results20 ⟨rfl, trivial⟩ rfl (.refl _) ?_
    exact ⟨rfl, rfl⟩

theorem c_fault : ∀ x : Ex, Ex.ok x → x.sz ≤ 16777216 → FnP Try.prog 20 [Ex.avx x] (.int 0) := by
  refine Ex.rec' fun x ih hx hz => ?_
  obtain ⟨h1, h2⟩ := (Ex.ok_iff x).1 hx
  exact c_fault_step x h1 hz fun d hd => ih d hd (h2 d hd) (by have := Ex.part_sz hd; omega)

end WFault

end Go.Proofs.Ythhkionhimbekaa
