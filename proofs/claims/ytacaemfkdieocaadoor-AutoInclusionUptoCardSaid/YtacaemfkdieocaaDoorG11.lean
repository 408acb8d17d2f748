/-
  Merged: WFault WText WParse3 Change WMatch2 WWords WMake WRun WLet WReads WDrawX.
-/
import Derived.Test.YtacaemfkdieocaaDoorG10

section
set_option linter.unusedVariables false
set_option linter.unusedSimpArgs false
set_option maxRecDepth 100000
namespace Go.Proofs.YtacaemfkdieocaaDoor
open Go.Vl

namespace WFault
theorem ty3 : Ty Tryd.prog 3 1 8 (.int .i64 0) := Ty.of (by kernel_rfl)
theorem ty47 : Ty Tryd.prog 47 1 24 (.slice none 0 0) := Ty.of (by kernel_rfl)
theorem ty49 : Ty Tryd.prog 49 3 40 (.agg #[.int .i64 0, .int .i64 0, .slice none 0 0]) := Ty.of (by kernel_rfl)
theorem ag3 : IsAgg Tryd.prog 3 false := ⟨_, Tryd.underlying3, rfl⟩
theorem ag47 : IsAgg Tryd.prog 47 false := ⟨_, Tryd.underlying47, rfl⟩
theorem ag49 : IsAgg Tryd.prog 49 true := ⟨_, Tryd.underlying49, rfl⟩
theorem fa49_0 : FieldAt Tryd.prog 49 0 0 1 false := ⟨_, _, Tryd.underlying49, rfl, rfl, ty3.size, ag3, by decide⟩
theorem fa49_1 : FieldAt Tryd.prog 49 1 1 1 false := ⟨_, _, Tryd.underlying49, rfl, rfl, ty3.size, ag3, by decide⟩
theorem fa49_2 : FieldAt Tryd.prog 49 2 2 1 false := ⟨_, _, Tryd.underlying49, rfl, rfl, ty47.size, ag47, by decide⟩
theorem c_IndexFuncX (l : List Ex) (g : Nat) (caps : List Value) (M0 : List ME) (p : Ex → Bool) (hg : ∀ d ∈ l, FnC Tryd.prog g ([Ex.avx d] ++ caps.map .lit) M0 (fun r M => r = .bool (p d) ∧ M = M0)) (hn : l.length ≤ 1099511627776) : FnC Tryd.prog 68 [.sl 3 (l.map Ex.av), .lit (.func (.func g) #[] caps.toArray)] M0 (fun r M => r = .int (idxI p l) ∧ M = M0) :=  by
  refine FnC.mk Tryd.func68 (by kernel_rfl) rfl Tryd.ntmps68 rfl (fun w0 F => ?_)
  have hnl : (l.map Ex.av).length = l.length := List.length_map ..
  refine W.seq ?_
  refine W.region ?_
  refine W.q (Ev.assign .k) rfl ?_
  refine W.nil ?_
  refine W.then ?_
  refine W.seq ?_
  refine W.seq ?_
  refine W.region ?_
  refine W.q (Ev.move (.t rfl)) rfl ?_
  (refine W.q (Ev.lensl (.t rfl) Tryd.underlying47) rfl ?_)
  refine W.q (Ev.move .k) rfl ?_
  refine W.nil ?_
  refine W.then ?_
  refine W.block ?_
  refine W.loop (D := []) (ι := Nat) (fun i => [(8, true, .int (i : Int)), (7, true, .int ((l.map Ex.av).length : Int)), (0, true, .sl 3 (l.map Ex.av)), (1, true, .lit (.func (.func g) #[] caps.toArray))]) (fun _ => M0) (fun i => i ≤ l.length ∧ ∀ d ∈ l.take i, p d = false) (fun i => l.length - i) 0 ⟨rfl, rfl, rfl, rfl, trivial⟩ (List.Perm.of_eq (List.append_nil _).symm) ⟨Nat.zero_le _, by simp⟩ ?_
  rintro i ⟨hi1, hi2⟩
  dsimp only at hi1 hi2 ⊢
  rcases (show i < l.length ∨ i = l.length from by omega) with hlt | hend
  · have hga := Ex.at_av l i hlt
    refine W.seq ?_
    refine W.region ?_
    refine W.q (Ev.lti (.t rfl) (.t rfl)) rfl ?_
    refine W.nil ?_
    refine W.then ?_
    refine W.seq ?_
    refine W.is (t := 9) (g := true) (av' := .lit (.bool true)) rfl (congrArg (fun b => AV.lit (.bool b)) (by simp; omega)) ?_
    refine W.condT (.t rfl) ?_
    refine W.skip ?_
    refine W.then ?_
    refine W.seq ?_
    refine W.block ?_
    refine W.seq ?_
    refine W.region ?_
    refine W.q (Ev.move (.t rfl)) rfl ?_
    refine W.q (Ev.assign (.t rfl)) rfl ?_
    refine W.nil ?_
    refine W.then ?_
    refine W.seq ?_
    refine W.region ?_
    refine W.q (Ev.move (.t rfl)) rfl ?_
    refine W.q (Ev.move (.t rfl)) rfl ?_
    refine W.q (Ev.move (.t rfl)) rfl ?_
    refine W.q (Ev.at (E := 49) (.t rfl) (.t rfl) Tryd.underlying47 ty49 (fun _ => ⟨by omega, hga⟩) rfl rfl) rfl ?_
    (refine W.q (Ev.lden (.t rfl) ag49 ty49 rfl rfl) rfl ?_)
    refine W.callv (caps := caps) (avs := [_]) (hg (l.getD i Ex.dflt) (getD_memG Ex.dflt l i hlt)) (.t rfl) ⟨(.t rfl), trivial⟩ rfl ((List.Perm.of_eq (List.append_nil _).symm)) rfl ?_
    rintro _ M' ⟨rfl, hM⟩
    rw [hM, List.append_nil]
    refine W.nil ?_
    refine W.then ?_
    refine W.cond (.t rfl) (fun hc_t16 => ?_) (fun hc_t16 => ?_)
    · have hq := idxI_hit p Ex.dflt l i hlt hi2 hc_t16
      refine W.seq ?_
      refine W.region ?_
      refine W.q (Ev.move (.t rfl)) rfl ?_
      refine W.q (Ev.assign (.t rfl)) rfl ?_
      refine W.nil ?_
      refine W.then ?_
      refine W.ret ?_
      refine W.blk_ret ?_
      refine W.then_ret ?_
      refine W.then_ret ?_
      refine W.blk_ret ?_
      refine W.then_ret ?_
      refine W.retn (M' := M0) (D := []) (rs := [.tmp 4]) (avs := [_]) Tryd.results68 ⟨rfl, trivial⟩ rfl (List.Perm.of_eq (List.append_nil _).symm) ?_
      exact ⟨congrArg AV.int (by rw [hq]), rfl⟩
    · have hq : p (l.getD i Ex.dflt) = false := hc_t16
      refine W.skip ?_
      refine W.blk_normal ?_
      refine W.then ?_
      refine W.region ?_
      (refine W.q (Ev.add (.t rfl) .k (fun _ => by omega)) rfl ?_)
      refine W.q (Ev.move (.t rfl)) rfl ?_
      refine W.nil ?_
      refine W.then ?_
      refine W.reach (D := []) (i + 1) ⟨rfl, rfl, rfl, rfl, trivial⟩ (List.Perm.of_eq (List.append_nil _).symm) ⟨⟨by omega, ?_⟩, by omega⟩
      rw [take_getDG Ex.dflt l i hlt]
      intro d hd
      cases List.mem_append.1 hd with
      | inl h => exact hi2 d h
      | inr h => rw [List.mem_singleton.1 h]; exact hq
  · rw [List.take_of_length_le (by omega)] at hi2
    have hq := idxI_miss p l hi2
    refine W.seq ?_
    refine W.region ?_
    refine W.q (Ev.lti (.t rfl) (.t rfl)) rfl ?_
    refine W.nil ?_
    refine W.then ?_
    refine W.seq ?_
    refine W.is (t := 9) (g := true) (av' := .lit (.bool false)) rfl (congrArg (fun b => AV.lit (.bool b)) (by simp; omega)) ?_
    refine W.condF (.t rfl) ?_
    refine W.exit ?_
    refine W.then_exit ?_
    refine W.then_exit ?_
    refine W.blk_hit ?_
    refine W.then ?_
    refine W.seq ?_
    refine W.region ?_
    refine W.q (Ev.assign .k) rfl ?_
    refine W.nil ?_
    refine W.then ?_
    refine W.ret ?_
    refine W.retn (M' := M0) (D := []) (rs := [.tmp 4]) (avs := [_]) Tryd.results68 ⟨rfl, trivial⟩ rfl (List.Perm.of_eq (List.append_nil _).symm) ?_
    exact ⟨congrArg AV.int (by rw [hq]), rfl⟩

theorem c_ContainsFuncX (l : List Ex) (g : Nat) (caps : List Value) (M0 : List ME) (p : Ex → Bool) (hg : ∀ d ∈ l, FnC Tryd.prog g ([Ex.avx d] ++ caps.map .lit) M0 (fun r M => r = .bool (p d) ∧ M = M0)) (hn : l.length ≤ 1099511627776) : FnC Tryd.prog 53 [.sl 3 (l.map Ex.av), .lit (.func (.func g) #[] caps.toArray)] M0 (fun r M => r = .bool (l.any p) ∧ M = M0) :=  by
  refine FnC.mk Tryd.func53 (by kernel_rfl) rfl Tryd.ntmps53 rfl (fun w0 F => ?_)
  refine W.seq ?_
  refine W.region ?_
  refine W.q (Ev.assign .k) rfl ?_
  refine W.nil ?_
  refine W.then ?_
  refine W.seq ?_
  refine W.region ?_
  refine W.q (Ev.move (.t rfl)) rfl ?_
  refine W.q (Ev.move (.t rfl)) rfl ?_
  refine W.call (c_IndexFuncX l g caps M0 p hg hn) ⟨(.t rfl), (.t rfl), trivial⟩ ((List.Perm.of_eq (List.append_nil _).symm)) rfl ?_
  rintro _ M' ⟨rfl, hM⟩
  rw [hM, List.append_nil]
  refine W.q (Ev.gei (.t rfl) .k) rfl ?_
  refine W.q (Ev.assign (.t rfl)) rfl ?_
  refine W.nil ?_
  refine W.then ?_
  refine W.ret ?_
  refine W.retn (M' := M0) (D := []) (rs := [.tmp 4]) (avs := [_]) Tryd.results53 ⟨rfl, trivial⟩ rfl (List.Perm.of_eq (List.append_nil _).symm) ?_
  exact ⟨congrArg AV.bool (idxI_any p l), rfl⟩

theorem c_fault1 (b : Nat) (x d : Ex) : FnC Tryd.prog 54 ([Ex.avx d] ++ [Value.pointer (some ⟨b, 0, none⟩)].map .lit) [.box b 49 x.avx.cells] (fun r M => r = .bool (d.kind == x.kind) ∧ M = [.box b 49 x.avx.cells]) :=  by
  refine FnC.mk Tryd.func54 (by kernel_rfl) rfl Tryd.ntmps54 rfl (fun w0 F => ?_)
  refine W.seq ?_
  refine W.region ?_
  refine W.box (.t rfl) rfl rfl ?_
  intro b2
  refine W.q (Ev.assign .k) rfl ?_
  refine W.nil ?_
  refine W.then ?_
  refine W.seq ?_
  refine W.region ?_
  (refine W.q (Ev.fab (.t rfl) fa49_0) rfl ?_)
  (refine W.q (Ev.ldb1 0 (.t rfl) rfl ag3 rfl) rfl ?_)
  (refine W.q (Ev.fab (.t rfl) fa49_0) rfl ?_)
  (refine W.q (Ev.ldb1 1 (.t rfl) rfl ag3 rfl) rfl ?_)
  refine W.q (Ev.eqi (.t rfl) (.t rfl)) rfl ?_
  refine W.q (Ev.assign (.t rfl)) rfl ?_
  refine W.nil ?_
  refine W.then ?_
  refine W.ret ?_
  refine W.retn (M' := [.box b 49 _]) (D := _) (rs := [.tmp 3]) (avs := [_]) Tryd.results54 ⟨rfl, trivial⟩ rfl (List.Perm.swap _ _ []) ?_
  exact ⟨rfl, rfl⟩

theorem c_fault_step (x : Ex) (h1 : Ex.ok1 x) (hz : x.sz ≤ 16777216) (ih : ∀ d ∈ x.parts, FnP Tryd.prog 37 [Ex.avx d] (.int 0)) : FnP Tryd.prog 37 [Ex.avx x] (.int 0) :=  by
  refine FnC.mk Tryd.func37 (by kernel_rfl) rfl Tryd.ntmps37 rfl (fun w0 F => ?_)
  have hpl : (x.parts.map Ex.av).length = x.parts.length := List.length_map ..
  have hse := Ex.sz_eq x
  have hsl := Ex.szs_len x.parts
  obtain ⟨k0, k1, k2, k3, k4, k5, k6, k7⟩ := Ex.ok1_facts h1
  refine W.seq ?_
  refine W.region ?_
  refine W.box (.t rfl) rfl rfl ?_
  intro b1
  refine W.q (Ev.assign .k) rfl ?_
  refine W.nil ?_
  refine W.then ?_
  refine W.seq ?_
  refine W.region ?_
  (refine W.q (Ev.fab (.t rfl) fa49_2) rfl ?_)
  (refine W.q (Ev.ldb1 0 (.t rfl) rfl ag47 rfl) rfl ?_)
  (refine W.q (Ev.lensl (.t rfl) Tryd.underlying47) rfl ?_)
  refine W.q (Ev.assign (.t rfl)) rfl ?_
  refine W.nil ?_
  refine W.then ?_
  refine W.seq ?_
  refine W.region ?_
  (refine W.q (Ev.fab (.t rfl) fa49_0) rfl ?_)
  (refine W.q (Ev.ldb1 0 (.t rfl) rfl ag3 rfl) rfl ?_)
  refine W.q (Ev.eqi (.t rfl) .k) rfl ?_
  refine W.q (Ev.move (.t rfl)) rfl ?_
  (refine W.qgF rfl rfl (Ev.fab (.t rfl) fa49_0) rfl ?_)
  (refine W.qgF rfl rfl (Ev.ldb1 0 (.c rfl) rfl ag3 rfl) rfl ?_)
  refine W.qgF rfl rfl (Ev.eqi (.c rfl) .k) rfl ?_
  refine W.q (Ev.or (.t rfl) ⟨_, _, rfl, rfl, by ((simp; done))⟩) rfl ?_
  refine W.q (Ev.assign (.t rfl)) rfl ?_
  refine W.nil ?_
  refine W.then ?_
  refine W.seq ?_
  refine W.block ?_
  refine W.seq ?_
  refine W.region ?_
  (refine W.q (Ev.fab (.t rfl) fa49_0) rfl ?_)
  (refine W.q (Ev.ldb1 0 (.t rfl) rfl ag3 rfl) rfl ?_)
  refine W.q (Ev.lti (.t rfl) .k) rfl ?_
  refine W.q (Ev.move (.t rfl)) rfl ?_
  (refine W.qgF rfl rfl (Ev.fab (.t rfl) fa49_0) rfl ?_)
  (refine W.qgF rfl rfl (Ev.ldb1 0 (.c rfl) rfl ag3 rfl) rfl ?_)
  refine W.qgF rfl rfl (Ev.gti (.c rfl) .k) rfl ?_
  refine W.q (Ev.or (.t rfl) ⟨_, _, rfl, rfl, by ((simp; done))⟩) rfl ?_
  refine W.q (Ev.assign (.t rfl)) rfl ?_
  refine W.nil ?_
  refine W.then ?_
  refine W.is (t := 19) (g := true) (av' := .lit (.bool false)) rfl (congrArg (fun b => AV.lit (.bool b)) (by exact Bool.eq_false_iff.2 (fun h => by simp at h; omega))) ?_
  refine W.condF (.t rfl) ?_
  refine W.seq ?_
  refine W.seq ?_
  refine W.region ?_
  (refine W.q (Ev.fab (.t rfl) fa49_0) rfl ?_)
  (refine W.q (Ev.ldb1 0 (.t rfl) rfl ag3 rfl) rfl ?_)
  refine W.q (Ev.eqi (.t rfl) .k) rfl ?_
  refine W.q (Ev.move (.t rfl)) rfl ?_
  refine W.qgT rfl rfl (Ev.move (.t rfl)) rfl ?_
  refine W.qgT rfl rfl (Ev.gti (.c rfl) .k) rfl ?_
  refine W.q (Ev.and (.t rfl) ⟨_, _, rfl, rfl, by ((simp; done))⟩) rfl ?_
  refine W.q (Ev.assign (.t rfl)) rfl ?_
  refine W.nil ?_
  refine W.then ?_
  refine W.is (t := 28) (g := true) (av' := .lit (.bool false)) rfl (congrArg (fun b => AV.lit (.bool b)) (by exact Bool.eq_false_iff.2 (fun h => by simp only [Bool.and_eq_true, Bool.or_eq_true, beq_iff_eq, bne_iff_ne, decide_eq_true_eq, ne_eq] at h; omega))) ?_
  refine W.condF (.t rfl) ?_
  refine W.seq ?_
  refine W.region ?_
  (refine W.q (Ev.fab (.t rfl) fa49_0) rfl ?_)
  (refine W.q (Ev.ldb1 0 (.t rfl) rfl ag3 rfl) rfl ?_)
  refine W.q (Ev.nei (.t rfl) .k) rfl ?_
  refine W.q (Ev.move (.t rfl)) rfl ?_
  (refine W.qgT rfl rfl (Ev.fab (.t rfl) fa49_1) rfl ?_)
  (refine W.qgT rfl rfl (Ev.ldb1 0 (.c rfl) rfl ag3 rfl) rfl ?_)
  refine W.qgT rfl rfl (Ev.nei (.c rfl) .k) rfl ?_
  refine W.q (Ev.and (.t rfl) ⟨_, _, rfl, rfl, by ((simp; done))⟩) rfl ?_
  refine W.q (Ev.assign (.t rfl)) rfl ?_
  refine W.nil ?_
  refine W.then ?_
  refine W.is (t := 28) (g := true) (av' := .lit (.bool false)) rfl (congrArg (fun b => AV.lit (.bool b)) (by exact Bool.eq_false_iff.2 (fun h => by simp only [Bool.and_eq_true, Bool.or_eq_true, beq_iff_eq, bne_iff_ne, decide_eq_true_eq, ne_eq] at h; omega))) ?_
  refine W.condF (.t rfl) ?_
  refine W.seq ?_
  refine W.region ?_
  refine W.q (Ev.move (.t rfl)) rfl ?_
  refine W.q (Ev.move (.t rfl)) rfl ?_
  refine W.qgT rfl rfl (Ev.move (.t rfl)) rfl ?_
  refine W.qgT rfl rfl (Ev.eqi (.c rfl) .k) rfl ?_
  refine W.q (Ev.and (.t rfl) ⟨_, _, rfl, rfl, by ((simp; done))⟩) rfl ?_
  refine W.q (Ev.assign (.t rfl)) rfl ?_
  refine W.nil ?_
  refine W.then ?_
  refine W.is (t := 28) (g := true) (av' := .lit (.bool false)) rfl (congrArg (fun b => AV.lit (.bool b)) (by exact Bool.eq_false_iff.2 (fun h => by simp only [Bool.and_eq_true, Bool.or_eq_true, beq_iff_eq, bne_iff_ne, decide_eq_true_eq, ne_eq] at h; omega))) ?_
  refine W.condF (.t rfl) ?_
  refine W.seq ?_
  refine W.region ?_
  (refine W.q (Ev.fab (.t rfl) fa49_0) rfl ?_)
  (refine W.q (Ev.ldb1 0 (.t rfl) rfl ag3 rfl) rfl ?_)
  refine W.q (Ev.eqi (.t rfl) .k) rfl ?_
  refine W.q (Ev.move (.t rfl)) rfl ?_
  refine W.qgT rfl rfl (Ev.move (.t rfl)) rfl ?_
  refine W.qgT rfl rfl (Ev.eqi (.c rfl) .k) rfl ?_
  refine W.q (Ev.and (.t rfl) ⟨_, _, rfl, rfl, by ((simp; done))⟩) rfl ?_
  refine W.q (Ev.assign (.t rfl)) rfl ?_
  refine W.nil ?_
  refine W.then ?_
  refine W.is (t := 28) (g := true) (av' := .lit (.bool false)) rfl (congrArg (fun b => AV.lit (.bool b)) (by exact Bool.eq_false_iff.2 (fun h => by simp only [Bool.and_eq_true, Bool.or_eq_true, beq_iff_eq, bne_iff_ne, decide_eq_true_eq, ne_eq] at h; omega))) ?_
  refine W.condF (.t rfl) ?_
  refine W.region ?_
  (refine W.q (Ev.fab (.t rfl) fa49_0) rfl ?_)
  (refine W.q (Ev.ldb1 0 (.t rfl) rfl ag3 rfl) rfl ?_)
  refine W.q (Ev.gei (.t rfl) .k) rfl ?_
  refine W.q (Ev.move (.t rfl)) rfl ?_
  refine W.qgT rfl rfl (Ev.move (.t rfl)) rfl ?_
  refine W.qgT rfl rfl (Ev.nei (.c rfl) .k) rfl ?_
  refine W.q (Ev.and (.t rfl) ⟨_, _, rfl, rfl, by ((simp; done))⟩) rfl ?_
  refine W.q (Ev.assign (.t rfl)) rfl ?_
  refine W.nil ?_
  refine W.then ?_
  refine W.is (t := 28) (g := true) (av' := .lit (.bool false)) rfl (congrArg (fun b => AV.lit (.bool b)) (by exact Bool.eq_false_iff.2 (fun h => by simp only [Bool.and_eq_true, Bool.or_eq_true, beq_iff_eq, bne_iff_ne, decide_eq_true_eq, ne_eq] at h; omega))) ?_
  refine W.condF (.t rfl) ?_
  refine W.seq ?_
  refine W.region ?_
  refine W.q (Ev.move (.t rfl)) rfl ?_
  refine W.q (Ev.move (.t rfl)) rfl ?_
  (refine W.qgT rfl rfl (Ev.fab (.t rfl) fa49_2) rfl ?_)
  (refine W.qgT rfl rfl (Ev.ldb1 0 (.c rfl) rfl ag47 rfl) rfl ?_)
  refine W.qgT rfl rfl (Ev.mkfn (caps := [.tmp 1]) (vs := [_]) ⟨(.t rfl), trivial⟩) rfl ?_
  refine W.callgT (Min := _) (caps := []) (avs := [_, _]) rfl rfl (fun hg => c_ContainsFuncX x.parts 54 [.pointer (some ⟨b1, 0, none⟩)] [.box b1 49 x.avx.cells] (fun d => d.kind == x.kind) (fun d _ => c_fault1 b1 x d) (by omega)) (fun hg => .f) (fun hg => ⟨(.i rfl (fun _ => hg)), (.i rfl (fun _ => hg)), trivial⟩) rfl (.refl _) rfl ?_
  refine W.q (Ev.and (.t rfl) ⟨_, _, rfl, rfl, by ((simp; done))⟩) rfl ?_
  refine W.q (Ev.assign (.t rfl)) rfl ?_
  refine W.nil ?_
  refine W.then ?_
  refine W.is (t := 63) (g := true) (av' := .lit (.bool false)) rfl (congrArg (fun b => AV.lit (.bool b)) (by exact Bool.eq_false_iff.2 (fun h => by have h1 := (Bool.and_eq_true _ _).mp h; rw [k7 h1.1] at h1; exact absurd h1.2 (by decide)))) ?_
  refine W.condF (.t rfl) ?_
  refine W.seq ?_
  refine W.region ?_
  (refine W.q (Ev.fab (.t rfl) fa49_1) rfl ?_)
  (refine W.q (Ev.ldb1 0 (.t rfl) rfl ag3 rfl) rfl ?_)
  refine W.q (Ev.lti (.t rfl) .k) rfl ?_
  refine W.q (Ev.move (.t rfl)) rfl ?_
  (refine W.qgF rfl rfl (Ev.fab (.t rfl) fa49_1) rfl ?_)
  (refine W.qgF rfl rfl (Ev.ldb1 0 (.c rfl) rfl ag3 rfl) rfl ?_)
  refine W.qgF rfl rfl (Ev.gei (.c rfl) .k) rfl ?_
  refine W.q (Ev.or (.t rfl) ⟨_, _, rfl, rfl, by ((simp; done))⟩) rfl ?_
  refine W.q (Ev.assign (.t rfl)) rfl ?_
  refine W.nil ?_
  refine W.then ?_
  refine W.is (t := 71) (g := true) (av' := .lit (.bool false)) rfl (congrArg (fun b => AV.lit (.bool b)) (by exact Bool.eq_false_iff.2 (fun h => by simp at h; omega))) ?_
  refine W.condF (.t rfl) ?_
  refine W.skip ?_
  refine W.blk_normal ?_
  refine W.then ?_
  refine W.seq ?_
  refine W.seq ?_
  refine W.region ?_
  (refine W.q (Ev.fab (.t rfl) fa49_2) rfl ?_)
  (refine W.q (Ev.ldb1 0 (.t rfl) rfl ag47 rfl) rfl ?_)
  (refine W.q (Ev.lensl (.t rfl) Tryd.underlying47) rfl ?_)
  refine W.q (Ev.move .k) rfl ?_
  refine W.nil ?_
  refine W.then ?_
  refine W.block ?_
  refine W.loop (D := []) (ι := Nat) (fun i => [(83, true, .int (i : Int)), (82, true, .int ((x.parts.map Ex.av).length : Int)), (81, true, .sl 3 (x.parts.map Ex.av)), (1, true, .lit (.pointer (some ⟨b1, 0, none⟩)))]) (fun i => [.box b1 49 x.avx.cells]) (fun i => i ≤ x.parts.length) (fun i => x.parts.length - i) 0 ⟨rfl, rfl, rfl, rfl, trivial⟩ (.refl _) (Nat.zero_le _) ?_
  intro i hi
  dsimp only at hi ⊢
  rcases (show i < x.parts.length ∨ i = x.parts.length from by omega) with hlt | hend
  · have hga := Ex.at_av x.parts i hlt
    have hdm := getD_memG Ex.dflt x.parts i hlt
    generalize hd : x.parts.getD i Ex.dflt = d at hga hdm
    refine W.seq ?_
    refine W.region ?_
    refine W.q (Ev.lti (.t rfl) (.t rfl)) rfl ?_
    refine W.nil ?_
    refine W.then ?_
    refine W.seq ?_
    refine W.is (t := 84) (g := true) (av' := .lit (.bool true)) rfl (congrArg (fun b => AV.lit (.bool b)) (by exact decide_eq_true (by omega))) ?_
    refine W.condT (.t rfl) ?_
    refine W.skip ?_
    refine W.then ?_
    refine W.seq ?_
    refine W.block ?_
    refine W.seq ?_
    refine W.region ?_
    refine W.q (Ev.at (E := 49) (.t rfl) (.t rfl) Tryd.underlying47 ty49 (fun _ => ⟨by omega, hga⟩) rfl rfl) rfl ?_
    (refine W.q (Ev.lden (.t rfl) ag49 ty49 rfl rfl) rfl ?_)
    refine W.alloc ty49 rfl rfl ?_
    intro b6
    (refine W.stb 0 (.t rfl) (.t rfl) rfl ty49 rfl rfl rfl ?_)
    refine W.nil ?_
    refine W.then ?_
    refine W.seq ?_
    refine W.region ?_
    (refine W.q (Ev.ldbn 0 (.t rfl) rfl ag49 ty49 rfl) rfl ?_)
    refine W.callp (ih d hdm) ⟨(.t rfl), trivial⟩ rfl ?_
    refine W.q (Ev.assign (.t rfl)) rfl ?_
    refine W.nil ?_
    refine W.then ?_
    refine W.seq ?_
    refine W.region ?_
    refine W.q (Ev.move (.t rfl)) rfl ?_
    refine W.q (Ev.nei (.t rfl) .k) rfl ?_
    refine W.nil ?_
    refine W.then ?_
    refine W.is (t := 90) (g := true) (av' := .lit (.bool false)) rfl (congrArg (fun b => AV.lit (.bool b)) (by rfl)) ?_
    refine W.condF (.t rfl) ?_
    refine W.skip ?_
    refine W.blk_normal ?_
    refine W.then ?_
    refine W.region ?_
    (refine W.q (Ev.add (.t rfl) .k (fun _ => by omega)) rfl ?_)
    refine W.q (Ev.move (.t rfl)) rfl ?_
    refine W.nil ?_
    refine W.then ?_
    refine W.reach (D := [_]) (i + 1) ⟨rfl, rfl, rfl, rfl, trivial⟩ (List.Perm.swap _ _ []) ⟨by show i + 1 ≤ _; omega, by show _ - (i + 1) < _; omega⟩
  · skip
    refine W.seq ?_
    refine W.region ?_
    refine W.q (Ev.lti (.t rfl) (.t rfl)) rfl ?_
    refine W.nil ?_
    refine W.then ?_
    refine W.seq ?_
    refine W.is (t := 84) (g := true) (av' := .lit (.bool false)) rfl (congrArg (fun b => AV.lit (.bool b)) (by exact decide_eq_false (by omega))) ?_
    refine W.condF (.t rfl) ?_
    refine W.exit ?_
    refine W.then_exit ?_
    refine W.then_exit ?_
    refine W.blk_hit ?_
    refine W.then ?_
    refine W.seq ?_
    refine W.region ?_
    refine W.q (Ev.assign .k) rfl ?_
    refine W.nil ?_
    refine W.then ?_
    refine W.ret ?_
    refine W.retn (M' := []) (D := _) (rs := [.tmp 2]) (avs := [_]) Tryd.results37 ⟨rfl, trivial⟩ rfl (.refl _) ?_
    exact ⟨rfl, rfl⟩

theorem c_fault : ∀ x : Ex, Ex.ok x → x.sz ≤ 16777216 → FnP Tryd.prog 37 [Ex.avx x] (.int 0) := by
  refine Ex.rec' fun x ih hx hz => ?_
  obtain ⟨h1, h2⟩ := (Ex.ok_iff x).1 hx
  exact c_fault_step x h1 hz fun d hd => ih d hd (h2 d hd) (by have := Ex.part_sz hd; omega)

end WFault

end Go.Proofs.YtacaemfkdieocaaDoor
end

section
set_option linter.unusedVariables false
set_option linter.unusedSimpArgs false
set_option maxRecDepth 100000
namespace Go.Proofs.YtacaemfkdieocaaDoor
open Go.Vl

namespace WText
theorem ty3 : Ty Tryd.prog 3 1 8 (.int .i64 0) := Ty.of (by kernel_rfl)
theorem ty9 : Ty Tryd.prog 9 1 16 (.string ⟨#[]⟩) := Ty.of (by kernel_rfl)
theorem ty47 : Ty Tryd.prog 47 1 24 (.slice none 0 0) := Ty.of (by kernel_rfl)
theorem ty49 : Ty Tryd.prog 49 3 40 (.agg #[.int .i64 0, .int .i64 0, .slice none 0 0]) := Ty.of (by kernel_rfl)
theorem ag3 : IsAgg Tryd.prog 3 false := ⟨_, Tryd.underlying3, rfl⟩
theorem ag9 : IsAgg Tryd.prog 9 false := ⟨_, Tryd.underlying9, rfl⟩
theorem ag47 : IsAgg Tryd.prog 47 false := ⟨_, Tryd.underlying47, rfl⟩
theorem ag49 : IsAgg Tryd.prog 49 true := ⟨_, Tryd.underlying49, rfl⟩
theorem fa49_0 : FieldAt Tryd.prog 49 0 0 1 false := ⟨_, _, Tryd.underlying49, rfl, rfl, ty3.size, ag3, by decide⟩
theorem fa49_1 : FieldAt Tryd.prog 49 1 1 1 false := ⟨_, _, Tryd.underlying49, rfl, rfl, ty3.size, ag3, by decide⟩
theorem fa49_2 : FieldAt Tryd.prog 49 2 2 1 false := ⟨_, _, Tryd.underlying49, rfl, rfl, ty47.size, ag47, by decide⟩
theorem ni46 : NotInt Tryd.prog 46 := .inl ⟨_, Tryd.underlying46⟩
theorem c_Join (l : List (List UInt8)) (sep : List UInt8) (hl : l.length ≤ 16777216) (hj : (Ex.joinW sep l).length ≤ 1099511627776) : FnP Tryd.prog 55 [.sl 1 (l.map AV.str), .str sep] (.str (Ex.joinW sep l)) := by
  rw [Ex.joinW_lib] at hj ⊢
  exact joinP (CallOk.of Tryd.func55 (by kernel_rfl) rfl) (fun a c sep w => Tryd.strings_Join_none a c sep w) (fun bk o c xs sep w h1 h2 h3 h4 h5 => Tryd.strings_Join bk o c xs sep w h1 h2 h3 h4 h5) l sep (by omega) (by omega)

theorem c_text_step (x : Ex) (h1 : Ex.ok1 x) (hz : x.sz ≤ 16777216) (hw : Ex.wz x ≤ 1073741824) (ih : ∀ d ∈ x.parts, FnP Tryd.prog 38 [Ex.avx d] (.str (Ex.txt d))) : FnP Tryd.prog 38 [Ex.avx x] (.str (Ex.txt x)) :=  by
  refine FnC.mk Tryd.func38 (by kernel_rfl) rfl Tryd.ntmps38 rfl (fun w0 F => ?_)
  have hpl : (x.parts.map Ex.av).length = x.parts.length := List.length_map ..
  have hse := Ex.sz_eq x
  have hsl := Ex.szs_len x.parts
  obtain ⟨k0, k1, k2, k3, k4, k5, k6, k7⟩ := Ex.ok1_facts h1
  have hwe : Ex.wz x = Ex.sumL (x.parts.map (Ex.ptx1 x.kind)) + x.parts.length + 2 := rfl
  have htl := Ex.ptx_len x
  refine W.seq ?_
  refine W.region ?_
  refine W.box (.t rfl) rfl rfl ?_
  intro b1
  refine W.q (Ev.assign .k) rfl ?_
  refine W.nil ?_
  refine W.then ?_
  refine W.seq ?_
  refine W.region ?_
  refine W.q (Ev.assign .k) rfl ?_
  refine W.nil ?_
  refine W.then ?_
  refine W.seq ?_
  refine W.seq ?_
  refine W.region ?_
  (refine W.q (Ev.fab (.t rfl) fa49_2) rfl ?_)
  (refine W.q (Ev.ldb1 0 (.t rfl) rfl ag47 rfl) rfl ?_)
  (refine W.q (Ev.lensl (.t rfl) Tryd.underlying47) rfl ?_)
  refine W.q (Ev.move .k) rfl ?_
  refine W.nil ?_
  refine W.then ?_
  refine W.block ?_
  refine W.own_nil 9 1 ?_
  refine W.loop (D := []) (ι := Nat × Value) (fun z => [(11, true, .int (z.1 : Int)), (10, true, .int ((x.parts.map Ex.av).length : Int)), (9, true, .sl 3 (x.parts.map Ex.av)), (1, true, .lit (.pointer (some ⟨b1, 0, none⟩))), (3, true, .lit z.2)]) (fun z => [.arr z.2 9 1 (((x.parts.take z.1).map (Ex.ptx1 x.kind)).map AV.str), .box b1 49 x.avx.cells]) (fun z => z.1 ≤ x.parts.length) (fun z => x.parts.length - z.1) (0, .slice none 0 0) ⟨rfl, rfl, rfl, rfl, rfl, trivial⟩ (.refl _) (Nat.zero_le _) ?_
  rintro ⟨i, v⟩ hi
  dsimp only at hi ⊢
  rcases (show i < x.parts.length ∨ i = x.parts.length from by omega) with hlt | hend
  · have hga := Ex.at_av x.parts i hlt
    have hdm := getD_memG Ex.dflt x.parts i hlt
    have hsn : (x.parts.take (i + 1)).map (Ex.ptx1 x.kind) = (x.parts.take i).map (Ex.ptx1 x.kind) ++ [Ex.ptx1 x.kind (x.parts.getD i Ex.dflt)] := by rw [take_getDG Ex.dflt x.parts i hlt, List.map_append]; rfl
    generalize hd : x.parts.getD i Ex.dflt = d at hga hdm hsn
    have hdl := htl d hdm
    refine W.seq ?_
    refine W.region ?_
    refine W.q (Ev.lti (.t rfl) (.t rfl)) rfl ?_
    refine W.nil ?_
    refine W.then ?_
    refine W.seq ?_
    refine W.is (t := 12) (g := true) (av' := .lit (.bool true)) rfl (congrArg (fun b => AV.lit (.bool b)) (by exact decide_eq_true (by omega))) ?_
    refine W.condT (.t rfl) ?_
    refine W.skip ?_
    refine W.then ?_
    refine W.seq ?_
    refine W.block ?_
    refine W.seq ?_
    refine W.region ?_
    refine W.q (Ev.at (E := 49) (.t rfl) (.t rfl) Tryd.underlying47 ty49 (fun _ => ⟨by omega, hga⟩) rfl rfl) rfl ?_
    (refine W.q (Ev.lden (.t rfl) ag49 ty49 rfl rfl) rfl ?_)
    refine W.alloc ty49 rfl rfl ?_
    intro b5
    (refine W.stb 0 (.t rfl) (.t rfl) rfl ty49 rfl rfl rfl ?_)
    refine W.nil ?_
    refine W.then ?_
    refine W.seq ?_
    refine W.region ?_
    (refine W.q (Ev.ldbn 0 (.t rfl) rfl ag49 ty49 rfl) rfl ?_)
    refine W.callp (ih d hdm) ⟨(.t rfl), trivial⟩ rfl ?_
    refine W.q (Ev.assign (.t rfl)) rfl ?_
    refine W.nil ?_
    refine W.then ?_
    refine W.seq ?_
    refine W.seq ?_
    refine W.region ?_
    (refine W.q (Ev.fab (.t rfl) fa49_0) rfl ?_)
    (refine W.q (Ev.ldb1 0 (.t rfl) rfl ag3 rfl) rfl ?_)
    refine W.q (Ev.eqi (.t rfl) .k) rfl ?_
    refine W.q (Ev.move (.t rfl)) rfl ?_
    (refine W.qgT rfl rfl (Ev.fab (.t rfl) fa49_0) rfl ?_)
    (refine W.qgT rfl rfl (Ev.ldb1 2 (.c rfl) rfl ag3 rfl) rfl ?_)
    refine W.qgT rfl rfl (Ev.nei (.c rfl) .k) rfl ?_
    refine W.q (Ev.and (.t rfl) ⟨_, _, rfl, rfl, by ((simp; done))⟩) rfl ?_
    refine W.q (Ev.move (.t rfl)) rfl ?_
    (refine W.qgF rfl rfl (Ev.fab (.t rfl) fa49_0) rfl ?_)
    (refine W.qgF rfl rfl (Ev.ldb1 0 (.c rfl) rfl ag3 rfl) rfl ?_)
    refine W.qgF rfl rfl (Ev.eqi (.c rfl) .k) rfl ?_
    refine W.qgF rfl rfl (Ev.move (.c rfl)) rfl ?_
    (refine W.qgT' rfl rfl (Ev.fab (.t rfl) fa49_0) rfl ?_)
    (refine W.qgT' rfl rfl (Ev.ldb1 2 (.c rfl) rfl ag3 rfl) rfl ?_)
    refine W.qgT' rfl rfl (Ev.gei (.c rfl) .k) rfl ?_
    refine W.qgF rfl rfl (Ev.and (.c rfl) ⟨_, _, rfl, rfl, by ((simp <;> omega; done))⟩) rfl ?_
    refine W.q (Ev.or (.t rfl) ⟨_, _, rfl, rfl, by ((intro hg_ hp_; simp [hp_]; done))⟩) rfl ?_
    refine W.nil ?_
    refine W.then ?_
    refine W.cond (.t rfl) (fun hc_t34 => ?_) (fun hc_t34 => ?_)
    · have hpar : Ex.par x.kind d := by simp at hc_t34; unfold Ex.par; omega
      have hp1 : Ex.ptx1 x.kind d = 40 :: (Ex.txt d ++ [41]) := if_pos hpar
      refine W.region ?_
      refine W.q (Ev.move (.t rfl)) rfl ?_
      refine W.q (Ev.cat .k (.t rfl) (fun _ => by ((simp [-List.length_flatMap]; omega)))) rfl ?_
      refine W.q (Ev.cat (.t rfl) .k (fun _ => by ((simp [-List.length_flatMap]; omega)))) rfl ?_
      refine W.q (Ev.assign (.t rfl)) rfl ?_
      refine W.nil ?_
      refine W.then ?_
      refine W.region ?_
      refine W.q (Ev.move (.t rfl)) rfl ?_
      refine W.q (Ev.move (.t rfl)) rfl ?_
      refine W.bs (es := [_]) Tryd.underlying46 ty9 ⟨rfl, (.t rfl), rfl, rfl, trivial⟩ rfl (by decide) rfl rfl ?_
      (refine W.app 1 (.t rfl) rfl (.sl (.t rfl) (by simp [AV.okc, shV])) Tryd.underlying46 ni46 ty9 rfl rfl (by rw [List.length_map, List.length_map, List.length_take]; simp only [List.length_cons, List.length_nil]; omega) rfl ?_)
      intro v41
      refine W.q (Ev.assign (.t rfl)) rfl ?_
      refine W.nil ?_
      refine W.blk_normal ?_
      refine W.then ?_
      refine W.region ?_
      (refine W.q (Ev.add (.t rfl) .k (fun _ => by omega)) rfl ?_)
      refine W.q (Ev.move (.t rfl)) rfl ?_
      refine W.nil ?_
      refine W.then ?_
      refine W.reach (D := [_]) (i + 1, v41) ⟨rfl, rfl, rfl, rfl, rfl, trivial⟩ (by rw [hsn, hp1, List.map_append]; exact List.perm_append_comm (l₁ := [_])) ⟨by show i + 1 ≤ _; omega, by show _ - (i + 1) < _; omega⟩
    · have hpar : ¬ Ex.par x.kind d := by unfold Ex.par; intro h; have h2 := Bool.eq_false_iff.1 hc_t34; simp at h2; omega
      have hp1 : Ex.ptx1 x.kind d = Ex.txt d := if_neg hpar
      refine W.skip ?_
      refine W.then ?_
      refine W.region ?_
      refine W.q (Ev.move (.t rfl)) rfl ?_
      refine W.q (Ev.move (.t rfl)) rfl ?_
      refine W.bs (es := [_]) Tryd.underlying46 ty9 ⟨rfl, (.t rfl), rfl, rfl, trivial⟩ rfl (by decide) rfl rfl ?_
      (refine W.app 1 (.t rfl) rfl (.sl (.t rfl) (by simp [AV.okc, shV])) Tryd.underlying46 ni46 ty9 rfl rfl (by rw [List.length_map, List.length_map, List.length_take]; simp only [List.length_cons, List.length_nil]; omega) rfl ?_)
      intro v41
      refine W.q (Ev.assign (.t rfl)) rfl ?_
      refine W.nil ?_
      refine W.blk_normal ?_
      refine W.then ?_
      refine W.region ?_
      (refine W.q (Ev.add (.t rfl) .k (fun _ => by omega)) rfl ?_)
      refine W.q (Ev.move (.t rfl)) rfl ?_
      refine W.nil ?_
      refine W.then ?_
      refine W.reach (D := [_]) (i + 1, v41) ⟨rfl, rfl, rfl, rfl, rfl, trivial⟩ (by rw [hsn, hp1, List.map_append]; exact List.perm_append_comm (l₁ := [_])) ⟨by show i + 1 ≤ _; omega, by show _ - (i + 1) < _; omega⟩
  · rw [List.take_of_length_le (show x.parts.length ≤ i from by omega)]
    refine W.seq ?_
    refine W.region ?_
    refine W.q (Ev.lti (.t rfl) (.t rfl)) rfl ?_
    refine W.nil ?_
    refine W.then ?_
    refine W.seq ?_
    refine W.is (t := 12) (g := true) (av' := .lit (.bool false)) rfl (congrArg (fun b => AV.lit (.bool b)) (by exact decide_eq_false (by omega))) ?_
    refine W.condF (.t rfl) ?_
    refine W.exit ?_
    refine W.then_exit ?_
    refine W.then_exit ?_
    refine W.blk_hit ?_
    refine W.then ?_
    refine W.seq ?_
    refine W.seq ?_
    refine W.region ?_
    (refine W.q (Ev.fab (.t rfl) fa49_0) rfl ?_)
    (refine W.q (Ev.ldb1 1 (.t rfl) rfl ag3 rfl) rfl ?_)
    refine W.nil ?_
    refine W.then ?_
    refine W.block ?_
    refine W.seq ?_
    refine W.region ?_
    refine W.q (Ev.eqi (.t rfl) .k) rfl ?_
    refine W.q (Ev.assign (.t rfl)) rfl ?_
    refine W.nil ?_
    refine W.then ?_
    refine W.cond (.t rfl) (fun hc_t45 => ?_) (fun hc_t45 => ?_)
    · have e45 : x.kind = 1 := eq_of_beq hc_t45
      refine W.seq ?_
      refine W.region ?_
      (refine W.q (Ev.fab (.t rfl) fa49_1) rfl ?_)
      (refine W.q (Ev.ldb1 1 (.t rfl) rfl ag3 rfl) rfl ?_)
      (refine W.q (Ev.fab (.t rfl) fa49_1) rfl ?_)
      (refine W.q (Ev.ldb1 1 (.t rfl) rfl ag3 rfl) rfl ?_)
      (refine W.q (Ev.add (.t rfl) .k (fun _ => by omega)) rfl ?_)
      refine W.q (Ev.subs (lo := some (.tmp 48)) (hi := some (.tmp 51)) .k Tryd.underlying9 (.t rfl) (.t rfl) (fun _ => by obtain ⟨h0, h8⟩ := k1; exact ⟨h0, by omega, by show x.type + 1 ≤ 8; omega⟩)) rfl ?_
      refine W.is (t := 52) (g := true) (av' := .str [97 + UInt8.ofNat x.type.toNat]) rfl (congrArg AV.str (Ex.letter8 x.type k1.1 k1.2)) ?_
      refine W.q (Ev.assign (.t rfl)) rfl ?_
      refine W.nil ?_
      refine W.then ?_
      refine W.ret ?_
      refine W.blk_ret ?_
      refine W.then_ret ?_
      refine W.retn (M' := []) (D := _) (rs := [.tmp 2]) (avs := [_]) Tryd.results38 ⟨rfl, trivial⟩ rfl (.refl _) ?_
      refine ⟨?_, rfl⟩
      rw [Ex.txt_eq]
      ((rw [if_pos e45]; rfl))
    · have e45 : x.kind ≠ 1 := beq_eq_false_iff_ne.1 hc_t45
      refine W.seq ?_
      refine W.region ?_
      refine W.q (Ev.eqi (.t rfl) .k) rfl ?_
      refine W.q (Ev.assign (.t rfl)) rfl ?_
      refine W.nil ?_
      refine W.then ?_
      refine W.cond (.t rfl) (fun hc_t53 => ?_) (fun hc_t53 => ?_)
      · have e53 : x.kind = 2 := eq_of_beq hc_t53
        refine W.seq ?_
        refine W.region ?_
        refine W.q (Ev.move (.t rfl)) rfl ?_
        refine W.freezeA (M1 := [_]) (M2 := [_]) (D := []) (v := v) (L' := [(55, true, .sl 1 ((x.parts.map (Ex.ptx1 x.kind)).map AV.str))]) (.refl _) ⟨⟨_, rfl, .one .hit⟩, trivial⟩ (FrzMs.refl _) ?_
        refine W.callp (c_Join (x.parts.map (Ex.ptx1 x.kind)) [] (by rw [List.length_map]; omega) (by have := Ex.join0_le x; omega)) ⟨(.t rfl), .k, trivial⟩ rfl ?_
        refine W.q (Ev.assign (.t rfl)) rfl ?_
        refine W.nil ?_
        refine W.then ?_
        refine W.ret ?_
        refine W.blk_ret ?_
        refine W.then_ret ?_
        refine W.retn (M' := []) (D := _) (rs := [.tmp 2]) (avs := [_]) Tryd.results38 ⟨rfl, trivial⟩ rfl (.refl _) ?_
        refine ⟨?_, rfl⟩
        rw [Ex.txt_eq]
        ((rw [if_neg e45, if_pos e53]; rfl))
      · have e53 : x.kind ≠ 2 := beq_eq_false_iff_ne.1 hc_t53
        refine W.seq ?_
        refine W.region ?_
        refine W.q (Ev.eqi (.t rfl) .k) rfl ?_
        refine W.q (Ev.assign (.t rfl)) rfl ?_
        refine W.nil ?_
        refine W.then ?_
        refine W.cond (.t rfl) (fun hc_t57 => ?_) (fun hc_t57 => ?_)
        · have e57 : x.kind = 3 := eq_of_beq hc_t57
          refine W.seq ?_
          refine W.region ?_
          refine W.q (Ev.move (.t rfl)) rfl ?_
          refine W.freezeA (M1 := [_]) (M2 := [_]) (D := []) (v := v) (L' := [(59, true, .sl 1 ((x.parts.map (Ex.ptx1 x.kind)).map AV.str))]) (.refl _) ⟨⟨_, rfl, .one .hit⟩, trivial⟩ (FrzMs.refl _) ?_
          refine W.callp (c_Join (x.parts.map (Ex.ptx1 x.kind)) [124] (by rw [List.length_map]; omega) (by have := Ex.join1_le x; omega)) ⟨(.t rfl), .k, trivial⟩ rfl ?_
          refine W.q (Ev.assign (.t rfl)) rfl ?_
          refine W.nil ?_
          refine W.then ?_
          refine W.ret ?_
          refine W.blk_ret ?_
          refine W.then_ret ?_
          refine W.retn (M' := []) (D := _) (rs := [.tmp 2]) (avs := [_]) Tryd.results38 ⟨rfl, trivial⟩ rfl (.refl _) ?_
          refine ⟨?_, rfl⟩
          rw [Ex.txt_eq]
          ((rw [if_neg e45, if_neg e53, if_pos e57]; rfl))
        · have e57 : x.kind ≠ 3 := beq_eq_false_iff_ne.1 hc_t57
          have e4 : 4 ≤ x.kind := by omega
          obtain ⟨q, hq⟩ : ∃ q, x.parts = [q] := List.length_eq_one_iff.1 (k6 e4)
          refine W.skip ?_
          refine W.blk_normal ?_
          refine W.then ?_
          refine W.seq ?_
          refine W.region ?_
          (refine W.q (Ev.fab (.t rfl) fa49_0) rfl ?_)
          (refine W.q (Ev.ldb1 1 (.t rfl) rfl ag3 rfl) rfl ?_)
          (refine W.q (Ev.sub (.t rfl) .k (fun _ => by omega)) rfl ?_)
          refine W.q (Ev.assign (.t rfl)) rfl ?_
          refine W.nil ?_
          obtain ⟨j, hj, hj3⟩ : ∃ j : Nat, x.kind - 4 = (j : Int) ∧ j < 3 := ⟨(x.kind - 4).toNat, by omega, by omega⟩
          refine W.is (t := 7) (g := true) (av' := .int (j : Int)) rfl (congrArg AV.int hj) ?_
          refine W.freezeA (M1 := [_]) (M2 := [_]) (D := []) (v := v) (L' := [(3, true, .sl 1 ((x.parts.map (Ex.ptx1 x.kind)).map AV.str))]) (.refl _) ⟨⟨_, rfl, .one .hit⟩, trivial⟩ (FrzMs.refl _) ?_
          have hg0 : ((x.parts.map (Ex.ptx1 x.kind)).map AV.str)[0]? = some (.str (Ex.ptx1 x.kind q)) := by rw [hq]; rfl
          have hql : (Ex.ptx1 x.kind q).length ≤ Ex.wz x := by rw [hwe, hq]; simp [Ex.sumL]; omega
          refine W.then ?_
          refine W.seq ?_
          refine W.drawn (by kernel_rfl) (by kernel_rfl) ?_
          refine DP.q (Ev.move (.t rfl)) rfl ?_
          refine DP.q (Ev.at (E := 9) (.t rfl) .k Tryd.underlying46 ty9 (fun _ => ⟨by decide, hg0⟩) rfl rfl) rfl ?_
          (refine DP.q (Ev.lde1 (.t rfl) ag9) rfl ?_)
          refine DP.q (Ev.move (.t rfl)) rfl ?_
          refine DP.q (Ev.move (.t rfl)) rfl ?_
          (refine DP.q (Ev.add (.t rfl) .k (fun _ => by omega)) rfl ?_)
          refine DP.q (Ev.subs (lo := some (.tmp 67)) (hi := some (.tmp 69)) .k Tryd.underlying9 (.t rfl) (.t rfl) (fun _ => ⟨by omega, by omega, by show (j : Int) + 1 ≤ 3; omega⟩)) rfl ?_
          refine DP.q (Ev.cat (.t rfl) (.t rfl) (fun _ => by ((simp [-List.length_flatMap]; omega)))) rfl ?_
          refine DP.q (Ev.assign (.t rfl)) rfl ?_
          refine DP.nil ?_
          refine W.then ?_
          refine W.ret ?_
          refine W.retn (M' := []) (D := _) (rs := [.tmp 2]) (avs := [_]) Tryd.results38 ⟨rfl, trivial⟩ rfl (.refl _) ?_
          refine ⟨?_, rfl⟩
          rw [Ex.txt_eq]
          ((rw [if_neg e45, if_neg e53, if_neg e57, hq, Ex.sign3 x.kind j hj hj3]; rfl))

theorem c_text : ∀ x : Ex, Ex.ok x → x.sz ≤ 16777216 → (Ex.txt x).length ≤ 1048576 → FnP Tryd.prog 38 [Ex.avx x] (.str (Ex.txt x)) := by
  refine Ex.rec' fun x ih hx hz hl => ?_
  obtain ⟨h1, h2⟩ := (Ex.ok_iff x).1 hx
  have hw := Ex.wz_le x h1
  have hs := Ex.sz_eq x
  have hn := Ex.szs_len x.parts
  exact c_text_step x h1 hz (by omega) fun d hd => ih d hd (h2 d hd) (by have := Ex.part_sz hd; omega) (by have := Ex.part_txt x h1 d hd; omega)

end WText

end Go.Proofs.YtacaemfkdieocaaDoor
end

section
set_option linter.unusedVariables false
set_option linter.unusedSimpArgs false
set_option maxRecDepth 100000
namespace Go.Proofs.YtacaemfkdieocaaDoor
open Go.Vl

namespace WParse3
theorem ty3 : Ty Tryd.prog 3 1 8 (.int .i64 0) := Ty.of (by kernel_rfl)
theorem ty4 : Ty Tryd.prog 4 1 1 (.bool false) := Ty.of (by kernel_rfl)
theorem ty9 : Ty Tryd.prog 9 1 16 (.string ⟨#[]⟩) := Ty.of (by kernel_rfl)
theorem ty49 : Ty Tryd.prog 49 3 40 (.agg #[.int .i64 0, .int .i64 0, .slice none 0 0]) := Ty.of (by kernel_rfl)
theorem ty85 : Ty Tryd.prog 85 2 24 (.agg #[.string ⟨#[]⟩, .bool false]) := Ty.of (by kernel_rfl)
theorem ag3 : IsAgg Tryd.prog 3 false := ⟨_, Tryd.underlying3, rfl⟩
theorem ag4 : IsAgg Tryd.prog 4 false := ⟨_, Tryd.underlying4, rfl⟩
theorem ag9 : IsAgg Tryd.prog 9 false := ⟨_, Tryd.underlying9, rfl⟩
theorem ag49 : IsAgg Tryd.prog 49 true := ⟨_, Tryd.underlying49, rfl⟩
theorem fa49_0 : FieldAt Tryd.prog 49 0 0 1 false := ⟨_, _, Tryd.underlying49, rfl, rfl, ty3.size, ag3, by decide⟩
theorem fa85_0 : FieldAt Tryd.prog 85 0 0 1 false := ⟨_, _, Tryd.underlying85, rfl, rfl, ty9.size, ag9, by decide⟩
theorem fa85_1 : FieldAt Tryd.prog 85 1 1 1 false := ⟨_, _, Tryd.underlying85, rfl, rfl, ty4.size, ag4, by decide⟩
theorem st85 : StructAt Tryd.prog 85 [(0, 1), (1, 1)] := ⟨_, Tryd.underlying85, rfl, ty9.size, rfl, ty4.size, trivial⟩
theorem c_Check (x : Ex) (hx : Ex.ok x) (hz : x.sz ≤ 16777216) (hl : (Ex.txt x).length ≤ 40) : FnP Tryd.prog 26 [x.avx] (.int 0) :=  by
  refine FnC.mk Tryd.func26 (by kernel_rfl) rfl Tryd.ntmps26 rfl (fun w0 F => ?_)
  refine W.seq ?_
  refine W.region ?_
  refine W.box (.t rfl) rfl rfl ?_
  intro b1
  refine W.q (Ev.assign .k) rfl ?_
  refine W.nil ?_
  refine W.then ?_
  refine W.seq ?_
  refine W.seq ?_
  refine W.region ?_
  (refine W.q (Ev.ldbn 0 (.t rfl) rfl ag49 ty49 rfl) rfl ?_)
  refine W.callp (WFault.c_fault x hx hz) ⟨(.t rfl), trivial⟩ rfl ?_
  refine W.q (Ev.assign (.t rfl)) rfl ?_
  refine W.nil ?_
  refine W.then ?_
  refine W.seq ?_
  refine W.region ?_
  refine W.q (Ev.move (.t rfl)) rfl ?_
  refine W.q (Ev.nei (.t rfl) .k) rfl ?_
  refine W.nil ?_
  refine W.then ?_
  refine W.is (t := 7) (g := true) (av' := .lit (.bool false)) rfl (congrArg (fun b => AV.lit (.bool b)) (by rfl)) ?_
  refine W.condF (.t rfl) ?_
  refine W.skip ?_
  refine W.then ?_
  refine W.seq ?_
  refine W.seq ?_
  refine W.region ?_
  (refine W.q (Ev.ldbn 0 (.t rfl) rfl ag49 ty49 rfl) rfl ?_)
  refine W.callp (WText.c_text x hx hz (by omega)) ⟨(.t rfl), trivial⟩ rfl ?_
  refine W.q (Ev.lens (.t rfl) Tryd.underlying9) rfl ?_
  refine W.q (Ev.gti (.t rfl) .k) rfl ?_
  refine W.nil ?_
  refine W.then ?_
  refine W.is (t := 12) (g := true) (av' := .lit (.bool false)) rfl (congrArg (fun b => AV.lit (.bool b)) (by exact decide_eq_false (by omega))) ?_
  refine W.condF (.t rfl) ?_
  refine W.skip ?_
  refine W.then ?_
  refine W.seq ?_
  refine W.region ?_
  refine W.q (Ev.assign .k) rfl ?_
  refine W.nil ?_
  refine W.then ?_
  refine W.ret ?_
  refine W.retn (M' := []) (D := _) (rs := [.tmp 2]) (avs := [_]) Tryd.results26 ⟨rfl, trivial⟩ rfl (.refl _) ?_
  exact ⟨rfl, rfl⟩

theorem c_Parse (s : List It) (a : List (List It)) (hs : It.oks s) (ha : It.oka a) (hl : (It.stx s ++ It.atl a).length ≤ 40) : FnP Tryd.prog 25 [.str (It.stx s ++ It.atl a)] (.tup [(It.al s a).avx, .int 0]) :=  by
  refine FnC.mk Tryd.func25 (by kernel_rfl) rfl Tryd.ntmps25 rfl (fun w0 F => ?_)
  have hok := It.al_ok s a hs ha
  have hlen := It.al_len s a hs ha
  have hsz := It.al_sz s a
  refine W.seq ?_
  refine W.region ?_
  refine W.alloc ty49 rfl rfl ?_
  intro b2
  refine W.q (Ev.assign .k) rfl ?_
  refine W.nil ?_
  refine W.then ?_
  refine W.seq ?_
  refine W.seq ?_
  refine W.region ?_
  refine W.q (Ev.move (.t rfl)) rfl ?_
  refine W.q (Ev.lens (.t rfl) Tryd.underlying9) rfl ?_
  refine W.q (Ev.gti (.t rfl) .k) rfl ?_
  refine W.nil ?_
  refine W.then ?_
  refine W.is (t := 9) (g := true) (av' := .lit (.bool false)) rfl (congrArg (fun b => AV.lit (.bool b)) (by exact decide_eq_false (by omega))) ?_
  refine W.condF (.t rfl) ?_
  refine W.skip ?_
  refine W.then ?_
  refine W.seq ?_
  refine W.region ?_
  refine W.q (Ev.move (.t rfl)) rfl ?_
  refine W.q (Ev.build ty85 st85 rfl (fun hg => ⟨_, _, _, rfl, (.t rfl), rfl, rfl, rfl, rfl⟩)) rfl ?_
  refine W.box (.t rfl) rfl rfl ?_
  intro b13
  refine W.q (Ev.assign (.t rfl)) rfl ?_
  refine W.nil ?_
  refine W.then ?_
  refine W.seq ?_
  refine W.region ?_
  have cA := WParse2.c_top b13 s a hs ha (by omega)
  rw [List.append_nil] at cA
  refine W.q (Ev.move (.t rfl)) rfl ?_
  refine W.call (cA) ⟨(.t rfl), trivial⟩ ((List.Perm.refl _)) rfl ?_
  rintro _ _ ⟨rfl, rfl⟩
  refine W.alloc ty49 rfl rfl ?_
  intro b5
  (refine W.stb 0 (.t rfl) (.t rfl) rfl ty49 rfl rfl rfl ?_)
  refine W.nil ?_
  refine W.then ?_
  refine W.seq ?_
  refine W.seq ?_
  refine W.region ?_
  refine W.q (Ev.move (.t rfl)) rfl ?_
  refine W.q (Ev.nilc (.t rfl)) rfl ?_
  (refine W.q (Ev.fab (.t rfl) fa85_1) rfl ?_)
  (refine W.q (Ev.ldb1 1 (.t rfl) rfl ag4 rfl) rfl ?_)
  refine W.q (Ev.move (.t rfl)) rfl ?_
  refine W.qgF rfl rfl (Ev.move (.t rfl)) rfl ?_
  refine W.qgF rfl rfl (Ev.nilc (.c rfl)) rfl ?_
  (refine W.qgF rfl rfl (Ev.fab (.c rfl) fa85_0) rfl ?_)
  (refine W.qgF rfl rfl (Ev.ldb1 1 (.c rfl) rfl ag9 rfl) rfl ?_)
  refine W.qgF rfl rfl (Ev.nes (.c rfl) .k) rfl ?_
  refine W.q (Ev.or (.t rfl) ⟨_, _, rfl, rfl, by ((simp; done))⟩) rfl ?_
  refine W.nil ?_
  refine W.then ?_
  refine W.is (t := 26) (g := true) (av' := .lit (.bool false)) rfl (congrArg (fun b => AV.lit (.bool b)) (by rfl)) ?_
  refine W.condF (.t rfl) ?_
  refine W.skip ?_
  refine W.then ?_
  refine W.seq ?_
  refine W.seq ?_
  refine W.region ?_
  (refine W.q (Ev.ldbn 0 (.t rfl) rfl ag49 ty49 rfl) rfl ?_)
  refine W.callp (c_Check (It.al s a) hok (by omega) (by omega)) ⟨(.t rfl), trivial⟩ rfl ?_
  refine W.q (Ev.assign (.t rfl)) rfl ?_
  refine W.nil ?_
  refine W.then ?_
  refine W.seq ?_
  refine W.region ?_
  refine W.q (Ev.move (.t rfl)) rfl ?_
  refine W.q (Ev.nei (.t rfl) .k) rfl ?_
  refine W.nil ?_
  refine W.then ?_
  refine W.is (t := 31) (g := true) (av' := .lit (.bool false)) rfl (congrArg (fun b => AV.lit (.bool b)) (by rfl)) ?_
  refine W.condF (.t rfl) ?_
  refine W.skip ?_
  refine W.then ?_
  refine W.seq ?_
  refine W.region ?_
  (refine W.q (Ev.ldbn 0 (.t rfl) rfl ag49 ty49 rfl) rfl ?_)
  (refine W.stb 2 (.t rfl) (.t rfl) rfl ty49 rfl rfl rfl ?_)
  refine W.q (Ev.assign .k) rfl ?_
  refine W.nil ?_
  refine W.then ?_
  refine W.ret ?_
  refine W.retn (M' := []) (D := _) (rs := [.cell 2 49, .tmp 3]) (avs := [_, _]) Tryd.results25 ⟨⟨_, _, _, rfl, by (exact List.mem_cons_of_mem _ (List.mem_cons_of_mem _ List.mem_cons_self)), rfl, by funext w; exact ag49.run w, by funext w; exact ty49.size w⟩, rfl, trivial⟩ rfl (.refl _) ?_
  exact ⟨rfl, rfl⟩

theorem c_exprOf (s : List It) (a : List (List It)) (hs : It.oks s) (ha : It.oka a) (hl : (It.stx s ++ It.atl a).length ≤ 40) : FnP Tryd.prog 16 [.str (It.stx s ++ It.atl a)] (.tup [(It.al s a).avx, .bool true]) :=  by
  refine FnC.mk Tryd.func16 (by kernel_rfl) rfl Tryd.ntmps16 rfl (fun w0 F => ?_)
  have c1 := c_Parse [It.ch 0 []] [] (by simp [It.oks, It.ok]) trivial (by decide)
  refine W.seq ?_
  refine W.region ?_
  refine W.alloc ty49 rfl rfl ?_
  intro b2
  refine W.q (Ev.assign .k) rfl ?_
  refine W.nil ?_
  refine W.then ?_
  refine W.seq ?_
  refine W.region ?_
  refine W.q (Ev.move (.t rfl)) rfl ?_
  refine W.callp (c_Parse s a hs ha hl) ⟨(.t rfl), trivial⟩ rfl ?_
  refine W.q (Ev.move (.t rfl)) rfl ?_
  refine W.q (Ev.extract (.t rfl) rfl) rfl ?_
  refine W.q (Ev.extract (.t rfl) rfl) rfl ?_
  refine W.alloc ty49 rfl rfl ?_
  intro b4
  (refine W.stb 0 (.t rfl) (.t rfl) rfl ty49 rfl rfl rfl ?_)
  refine W.q (Ev.assign (.t rfl)) rfl ?_
  refine W.nil ?_
  refine W.then ?_
  refine W.seq ?_
  refine W.region ?_
  refine W.callp (c1) ⟨.k, trivial⟩ rfl ?_
  refine W.q (Ev.move (.t rfl)) rfl ?_
  refine W.q (Ev.extract (.t rfl) rfl) rfl ?_
  refine W.q (Ev.extract (.t rfl) rfl) rfl ?_
  refine W.alloc ty49 rfl rfl ?_
  intro b6
  (refine W.stb 0 (.t rfl) (.t rfl) rfl ty49 rfl rfl rfl ?_)
  refine W.q (Ev.assign (.t rfl)) rfl ?_
  refine W.nil ?_
  refine W.then ?_
  refine W.seq ?_
  refine W.drawnE (ι := Unit) (fun ee _ => [.box b6 49 [.int 1, .int 0, .sl 3 []], .box b4 49 (It.al s a).avx.cells, .box b2 49 (bif ee 12 then (It.al s a).avx.cells else [.int 0, .int 0, .lit (.slice none 0 0)])]) 14 () (by kernel_rfl) (by kernel_rfl) rfl ?_
  (refine DE.q (fun e c hk => (Ev.ldbn 1 (.t rfl) rfl ag49 ty49 rfl)) rfl (fun _ _ => rfl) (by (exact .inr (fun _ _ => rfl))) ?_)
  refine DE.q (fun e c hk => (Ev.move (.t rfl))) rfl (fun _ _ => rfl) (by (exact .inr (fun _ _ => rfl))) ?_
  refine DE.q (fun e c hk => (Ev.eqi (.t rfl) .k)) rfl (fun _ _ => rfl) (by (exact .inr (fun _ _ => rfl))) ?_
  refine DE.q (fun e c hk => (Ev.move (.t rfl))) rfl (fun _ _ => rfl) (by (exact .inr (fun _ _ => rfl))) ?_
  refine DE.qg rfl (fun _ => rfl) (fun e c hk => (Ev.move (.t rfl))) rfl (fun _ _ => rfl) (by (exact .inr (fun _ _ => rfl))) ?_
  refine DE.qg rfl (fun _ => rfl) (fun e c hk => (Ev.eqi (.c rfl) .k)) rfl (fun _ _ => rfl) (by (exact .inr (fun _ _ => rfl))) ?_
  refine DE.q (fun e c hk => (Ev.and (.t rfl) ⟨_, _, rfl, rfl, by ((simp; done))⟩)) rfl (fun _ _ => rfl) (by (exact .inr (fun _ _ => rfl))) ?_
  refine DE.q (fun e c hk => (Ev.move (.t rfl))) rfl (fun _ _ => rfl) (by (exact .inr (fun _ _ => rfl))) ?_
  (refine DE.qg rfl (fun _ => rfl) (fun e c hk => (Ev.fab (.t rfl) fa49_0)) rfl (fun _ _ => rfl) (by (exact .inr (fun _ _ => rfl))) ?_)
  (refine DE.qg rfl (fun _ => rfl) (fun e c hk => (Ev.ldb1 0 (.c rfl) rfl ag3 rfl)) rfl (fun _ _ => rfl) (by (exact .inr (fun _ _ => rfl))) ?_)
  refine DE.qg rfl (fun _ => rfl) (fun e c hk => (Ev.eqi (.c rfl) .k)) rfl (fun _ _ => rfl) (by (exact .inr (fun _ _ => rfl))) ?_
  refine DE.q (fun e c hk => (Ev.and (.t rfl) ⟨_, _, rfl, rfl, by ((simp; done))⟩)) rfl (fun _ _ => rfl) (by (exact .inr (fun _ _ => rfl))) ?_
  refine DE.eff0 (fun e c hk L_ hs Q h => ?_) ?_
  · have hk_12 := hk.not
    simp only [addE, hk_12, Nat.reduceAdd, Nat.reduceEqDiff, ↓reduceIte, cond_true, cond_false] at h ⊢
    ((refine W.stb 2 (.t (hs _ _ rfl)) (.t (hs _ _ rfl)) rfl ty49 rfl rfl rfl ?_; exact h))
  refine DE.q (fun e c hk => (Ev.assign (.t rfl))) rfl (fun _ _ => rfl) (by (exact .inr (fun _ _ => rfl))) ?_
  refine DE.nil (fun c_ e_ he_ => ?_)
  simp only [he_ 12 (by decide), cond_true, cond_false]
  refine W.then ?_
  refine W.ret ?_
  refine W.retn (M' := []) (D := _) (rs := [.cell 2 49, .tmp 3]) (avs := [_, _]) Tryd.results16 ⟨⟨_, _, _, rfl, by (exact List.mem_cons_of_mem _ (List.mem_cons_of_mem _ List.mem_cons_self)), rfl, by funext w; exact ag49.run w, by funext w; exact ty49.size w⟩, rfl, trivial⟩ rfl (.refl _) ?_
  exact ⟨rfl, rfl⟩

end WParse3

end Go.Proofs.YtacaemfkdieocaaDoor
end

section
set_option linter.unusedVariables false
set_option linter.unusedSimpArgs false
namespace Go.Vl
/-- a change -/
structure Ch where
  kind : Int
  path : List Int
  node : Nd
abbrev cav (c : Ch) : AV := .agg [.int c.kind, .sl 1 (c.path.map AV.int), .str c.node.name, .sl 2 (c.node.attrs.map dav), .str c.node.text, .sl 4 (c.node.parts.map Nd.av)]
abbrev Ch.dfl : Ch := ⟨0, [], Nd.dflt⟩
namespace Nd
abbrev withP (d : Nd) (q : List Nd) : Nd := mk d.name d.attrs d.text q
/-- x instead of what is at a path -/
def setP : List Nd → List Int → Nd → List Nd
  | l, [], _ => l
  | l, i :: p, x => l.set i.toNat (if p = [] then x else withP (l.getD i.toNat dflt) (setP (l.getD i.toNat dflt).parts p x))
/-- x behind all that is at a path -/
def putP : List Nd → List Int → Nd → List Nd
  | l, [], _ => l
  | l, i :: p, x => if p = [] then l ++ [x] else l.set i.toNat (withP (l.getD i.toNat dflt) (putP (l.getD i.toNat dflt).parts p x))
/-- a path behind all of a tree's: where putP puts -/
def endP : List Nd → List Int → Prop
  | _, [] => False
  | l, k :: p => ∃ i : Nat, k = (i : Int) ∧ ((p = [] ∧ i = l.length) ∨ (p ≠ [] ∧ i < l.length ∧ (l.getD i dflt).name ≠ [] ∧ endP (l.getD i dflt).parts p))
end Nd
section app0
open Go Go.Sem
variable {x : Cx} {L : List En} {M : List ME} {ty : TypeId} {pos : String} {aft : Array Edge}
/-- append onto nil: a row of its own that nothing writes -/
theorem Sv.app0 {d : Tmp} {T T' E k bytes : Nat} {z : Value} {o1 o2 : Operand} {xs : List AV} (h1 : Ov true L o1 (.lit (.slice none 0 0))) (h2 : SrcOv x L M o2 k xs) (hT : x.P.underlying T = some (.slice E)) (hT' : NotInt x.P T') (hE : Ty x.P E k bytes z) (hzk : z.cells.size = k)
    (hb1 : Nat.ble 1 bytes = true) (hb : xs.length * bytes ≤ 140737488355328) : Sv x L M ⟨some d, .call ⟨.builtin .append, #[o1, o2], #[T, T']⟩, ty, pos, aft, none⟩ (.sl k xs) := by
  intro a w hs K Q hK
  have hsrc := h2.src hs
  have e1 : a.eval o1 = .slice none 0 0 := h1.lit rfl hs
  have hb1' := Nat.le_of_ble_eq_true hb1
  have h63 : xs.length ≤ maxLen := by
    have : xs.length ≤ xs.length * bytes := Nat.le_mul_of_pos_right _ hb1'
    simp only [maxLen]; omega
  unfold Oper.wp
  by_cases hx : xs = []
  · subst hx
    obtain ⟨hlen, news, hn1, _, _, hn4⟩ := hsrc
    have hf := hn4 w rfl
    obtain ⟨ii, hi1, hi2, hi3, hi4⟩ := hE
    have hlen' : (Builtin.lenOf (a.eval o2)).run x.P w = .ok 0 w := hlen
    have hf' : (Builtin.firstCells k 0 (a.eval o2)).run x.P w = .ok news w := hf
    have hr : (execOp a.eval ⟨some d, .call ⟨.builtin .append, #[o1, o2], #[T, T']⟩, ty, pos, aft, none⟩).run x.P w = .ok (.value (.slice none 0 0)) w := by
      rcases hT' with ⟨e', hd'⟩ | hd' <;>
        simp [execOp, resolve, invoke, builtin, e1, Builtin.append_, run_underlying hT, run_underlying hd', sizeOf, typeInfo, hi1, hi2, hlen', hf']
    rw [hr]
    exact hK _ _ (fun b c T fr hb hc => ⟨hb, hc⟩) hs.mem hs.fr (Rep.slI (es := []) (Nat.le_refl _) (by simp [maxLen]) (.inl rfl))
  · have hpos : 0 < xs.length := List.length_pos_iff.2 hx
    have hold : Src0 x.P w (bl M ++ x.F) k (.slice none 0 0) [] := src0_cells rfl (.inl rfl)
    obtain ⟨cells, hsz, hrE, hrun⟩ := run_append_new (ty := ty) hT hT' hE hzk hold hsrc.to0 rfl (by omega) (by simpa using hb) hb1'
    simp only [Nat.zero_add, List.nil_append] at hrun hrE hsz
    obtain ⟨hg1, hg2⟩ := cap_cut w xs.length 0 E h63
    have hd1 : St x L M a w.drew := hs.same rfl rfl rfl rfl
    obtain ⟨hs', hk, hnew⟩ := hd1.allocI (.cells cells E)
    have hk0 : Keep w (bl M ++ x.F) (w.drew.alloc (.cells cells E)) (bl M ++ x.F) := hk
    have hr : (execOp a.eval ⟨some d, .call ⟨.builtin .append, #[o1, o2], #[T, T']⟩, ty, pos, aft, none⟩).run x.P w = .ok (.value (.slice (some ⟨w.heap.size, 0, none⟩) xs.length (grownCap w xs.length 0 E))) (w.drew.alloc (.cells cells E)) := by
      simp only [execOp, resolve, invoke, builtin, Sem.run_bind, Sem.run_pure, Result.andThen_ok, List.map_toArray, List.map_cons, List.map_nil, e1, hrun]
    rw [hr]
    refine hK _ _ hk0 hs'.mem hs'.fr ?_
    exact Rep.slI hg1 hg2 (.inr ⟨w.heap.size, 0, cells, E, (0, 0), rfl, hnew, alloc_new w.drew _, RepE.keep hk0 _ _ _ (by simpa using hrE)⟩)
theorem DP.app0 {ops : Array Oper} {R : Act → World → Prop} {rest : List Oper} {done : List En} {d : Tmp} {T T' E k bytes : Nat} {z : Value} {o1 o2 : Operand} {xs : List AV} (h1 : Ov true (sel (Oper.looksAt ops ⟨some d, .call ⟨.builtin .append, #[o1, o2], #[T, T']⟩, ty, pos, aft, none⟩) (done ++ L)) o1 (.lit (.slice none 0 0)))
    (h2 : SrcOv x (sel (Oper.looksAt ops ⟨some d, .call ⟨.builtin .append, #[o1, o2], #[T, T']⟩, ty, pos, aft, none⟩) (done ++ L)) M o2 k xs) (hT : x.P.underlying T = some (.slice E)) (hT' : NotInt x.P T') (hE : Ty x.P E k bytes z) (hzk : z.cells.size = k)
    (hb1 : Nat.ble 1 bytes = true) (hb : xs.length * bytes ≤ 140737488355328) (hd : Nat.blt d x.n = true) (next : DP x M ops L R rest ((d, true, .sl k xs) :: done)) :
    DP x M ops L R (⟨some d, .call ⟨.builtin .append, #[o1, o2], #[T, T']⟩, ty, pos, aft, none⟩ :: rest) done := ⟨d, true, _, rfl, hd, .inl ⟨rfl, rfl⟩, fun _ => Sv.app0 h1 h2 hT hT' hE hzk hb1 hb, next⟩
theorem DE.app0 {ι : Type} {Mf : (Nat → Bool) → ι → List ME} {i0 i : Nat} {ops : Array Oper} {R : Act → World → Prop} {rest : List Oper} {done : ι → List En} {d : Tmp} {T T' E k bytes : Nat} {z : Value} {o1 o2 : Operand} {xs : List AV}
    (h1 : ∀ c, Ov true (sel (Oper.looksAt ops ⟨some d, .call ⟨.builtin .append, #[o1, o2], #[T, T']⟩, ty, pos, aft, none⟩) (done c ++ L)) o1 (.lit (.slice none 0 0)))
    (h2 : ∀ e c, SrcOv x (sel (Oper.looksAt ops ⟨some d, .call ⟨.builtin .append, #[o1, o2], #[T, T']⟩, ty, pos, aft, none⟩) (done c ++ L)) (Mf e c) o2 k xs) (hT : x.P.underlying T = some (.slice E)) (hT' : NotInt x.P T') (hE : Ty x.P E k bytes z) (hzk : z.cells.size = k)
    (hb1 : Nat.ble 1 bytes = true) (hb : xs.length * bytes ≤ 140737488355328) (hdn : Nat.blt d x.n = true)
    (hMf : ∀ e c, Mf (addE e i) c = Mf e c) (next : DE x ops L Mf i0 R (i + 1) rest (fun c => (d, true, .sl k xs) :: done c)) :
    DE x ops L Mf i0 R i (⟨some d, .call ⟨.builtin .append, #[o1, o2], #[T, T']⟩, ty, pos, aft, none⟩ :: rest) done :=
  DE.pure rfl hdn (fun _ => .inl ⟨rfl, rfl⟩) (fun e c _ _ => Sv.app0 (h1 c) (h2 e c) hT hT' hE hzk hb1 hb) hMf (.inr fun _ _ => rfl) next
end app0
end Go.Vl
end

section
set_option linter.unusedVariables false
set_option linter.unusedSimpArgs false
set_option maxRecDepth 100000
namespace Go.Proofs.YtacaemfkdieocaaDoor
open Go.Vl

namespace WMatch2
theorem ty3 : Ty Tryd.prog 3 1 8 (.int .i64 0) := Ty.of (by kernel_rfl)
theorem ag3 : IsAgg Tryd.prog 3 false := ⟨_, Tryd.underlying3, rfl⟩
theorem ni22 : NotInt Tryd.prog 22 := .inl ⟨_, Tryd.underlying22⟩
end WMatch2

end Go.Proofs.YtacaemfkdieocaaDoor
end

section
set_option linter.unusedVariables false
set_option linter.unusedSimpArgs false
set_option maxRecDepth 100000
namespace Go.Proofs.YtacaemfkdieocaaDoor
open Go.Vl

namespace WWords

theorem c_of (t : List UInt8) (s : List It) (a : List (List It)) (hs : It.oks s) (ha : It.oka a) (e : t = It.stx s ++ It.atl a) (hl : t.length ≤ 40) : FnP Tryd.prog 16 [.str t] (.tup [(It.al s a).avx, .bool true]) := by
  subst e
  exact WParse3.c_exprOf s a hs ha hl

end WWords

end Go.Proofs.YtacaemfkdieocaaDoor
end

section
set_option linter.unusedVariables false
set_option linter.unusedSimpArgs false
set_option maxRecDepth 100000
namespace Go.Proofs.YtacaemfkdieocaaDoor
open Go.Vl

namespace WMake
theorem ty28 : Ty Tryd.prog 28 2 48 (.agg #[.slice none 0 0, .slice none 0 0]) := Ty.of (by kernel_rfl)
theorem ty49 : Ty Tryd.prog 49 3 40 (.agg #[.int .i64 0, .int .i64 0, .slice none 0 0]) := Ty.of (by kernel_rfl)
theorem ag28 : IsAgg Tryd.prog 28 true := ⟨_, Tryd.underlying28, rfl⟩
theorem ag49 : IsAgg Tryd.prog 49 true := ⟨_, Tryd.underlying49, rfl⟩
theorem c_Make (s : List It) (a : List (List It)) (hs : It.oks s) (ha : It.oka a) (hl : (It.stx s ++ It.atl a).length ≤ 40) (hlv : It.snl s + It.anl a ≤ 6) (hw : Lg.Wid (Lg.alt (It.slg s) (It.alg a)) 5) (M0 : List ME) (hI : ∀ n : Int, -1 ≤ n → n < 100 → FnC Tryd.prog 61 [.int n] M0 (fun r M => r = .str (itoa n) ∧ M = M0)) : FnC Tryd.prog 17 [(It.al s a).avx] M0 (fun r M => ∃ m : Au, m.Ord ∧ m.next.length ≤ 32 ∧ (∀ u, m.acc 0 u ↔ (Lg.alt (It.slg s) (It.alg a)) u) ∧ r = .tup [.agg [.sl 1 (m.next.map pav), .sl 1 (m.final.map AV.bool)], .int 0] ∧ M = M0) :=  by
  refine FnC.mk Tryd.func17 (by kernel_rfl) rfl Tryd.ntmps17 rfl (fun w0 F => ?_)
  have hsz : ∀ d : Au, d.Ord → (∀ u, d.acc 0 u ↔ (Lg.alt (It.slg s) (It.alg a)) u) → d.next.length ≤ 32 := fun d hd he => hd.size (m := 5) (by rw [show d.acc 0 = (Lg.alt (It.slg s) (It.alg a)) from funext fun u => propext (he u)]; exact hw)
  have hok := It.al_ok s a hs ha
  have hlen := It.al_len s a hs ha
  have hxz := It.al_sz s a
  have hlva := It.lv_al s a
  have hlg := It.lg_al s a
  generalize It.al s a = x at *
  refine W.seq ?_
  refine W.region ?_
  refine W.box (.t rfl) rfl rfl ?_
  intro b1
  refine W.alloc ty28 rfl rfl ?_
  intro b2
  refine W.q (Ev.assign .k) rfl ?_
  refine W.nil ?_
  refine W.then ?_
  refine W.seq ?_
  refine W.seq ?_
  refine W.region ?_
  (refine W.q (Ev.ldbn 1 (.t rfl) rfl ag49 ty49 rfl) rfl ?_)
  refine W.callp (WParse3.c_Check x hok (by omega) (by omega)) ⟨(.t rfl), trivial⟩ rfl ?_
  refine W.q (Ev.assign (.t rfl)) rfl ?_
  refine W.nil ?_
  refine W.then ?_
  refine W.seq ?_
  refine W.region ?_
  refine W.q (Ev.move (.t rfl)) rfl ?_
  refine W.q (Ev.nei (.t rfl) .k) rfl ?_
  refine W.nil ?_
  refine W.then ?_
  refine W.is (t := 8) (g := true) (av' := .lit (.bool false)) rfl (congrArg (fun b => AV.lit (.bool b)) (by rfl)) ?_
  refine W.condF (.t rfl) ?_
  refine W.skip ?_
  refine W.then ?_
  refine W.seq ?_
  refine W.region ?_
  (refine W.q (Ev.ldbn 1 (.t rfl) rfl ag49 ty49 rfl) rfl ?_)
  refine W.call (WSets.c_sets x hok (by omega) (by omega)) ⟨(.t rfl), trivial⟩ (.refl _) rfl ?_
  rintro _ _ ⟨rfl, w, hwS, hwl, hwu, rfl⟩
  refine W.call (WOrder.c_order w hwS (by omega) M0 hI (fun d hd he => Nat.le_trans (hsz d hd fun u => (he u).trans ((hwu u).trans (by rw [hlg]))) (by decide))) ⟨(.t rfl), trivial⟩ ((List.perm_append_comm (l₁ := [_, _]))) rfl ?_
  rintro _ M' ⟨d, hd, hdu, rfl, hM'⟩
  rw [hM']
  refine W.perm (List.perm_append_comm (l₂ := [_, _])) ?_
  refine W.q (Ev.extract (.t rfl) rfl) rfl ?_
  refine W.q (Ev.extract (.t rfl) rfl) rfl ?_
  (refine W.stb 0 (.t rfl) (.t rfl) rfl ty28 rfl rfl rfl ?_)
  refine W.q (Ev.assign (.t rfl)) rfl ?_
  refine W.nil ?_
  refine W.then ?_
  refine W.ret ?_
  refine W.retn (M' := M0) (D := _) (rs := [.cell 2 28, .tmp 3]) (avs := [_, _]) Tryd.results17 ⟨⟨_, _, _, rfl, by repeat ((exact List.mem_cons_self)), rfl, by funext w; exact ag28.run w, by funext w; exact ty28.size w⟩, rfl, trivial⟩ rfl (List.perm_append_comm (l₁ := [_, _])) ?_
  have hdu2 := fun u => (hdu u).trans ((hwu u).trans (by rw [hlg]))
  exact ⟨d, hd, hsz d hd hdu2, hdu2, rfl, rfl⟩

theorem c_machine (s : List It) (a : List (List It)) (hs : It.oks s) (ha : It.oka a) (hlv : It.snl s + It.anl a ≤ 6) (hw : Lg.Wid (Lg.alt (It.slg s) (It.alg a)) 5) (t : List UInt8) (e : t = It.stx s ++ It.atl a) (hl : t.length ≤ 40) (M0 : List ME) (hI : ∀ n : Int, -1 ≤ n → n < 100 → FnC Tryd.prog 61 [.int n] M0 (fun r M => r = .str (itoa n) ∧ M = M0)) : FnC Tryd.prog 8 [.str t] M0 (fun r M => ∃ m : Au, m.Ord ∧ m.next.length ≤ 32 ∧ (∀ u, m.acc 0 u ↔ (Lg.alt (It.slg s) (It.alg a)) u) ∧ r = .tup [.agg [.sl 1 (m.next.map pav), .sl 1 (m.final.map AV.bool)], .bool true] ∧ M = M0) :=  by
  refine FnC.mk Tryd.func8 (by kernel_rfl) rfl Tryd.ntmps8 rfl (fun w0 F => ?_)
  refine W.seq ?_
  refine W.region ?_
  refine W.alloc ty28 rfl rfl ?_
  intro b2
  refine W.q (Ev.assign .k) rfl ?_
  refine W.nil ?_
  refine W.then ?_
  refine W.seq ?_
  refine W.region ?_
  refine W.q (Ev.move (.t rfl)) rfl ?_
  refine W.callp (WWords.c_of t s a hs ha e hl) ⟨(.t rfl), trivial⟩ rfl ?_
  refine W.q (Ev.move (.t rfl)) rfl ?_
  refine W.q (Ev.extract (.t rfl) rfl) rfl ?_
  refine W.q (Ev.extract (.t rfl) rfl) rfl ?_
  refine W.alloc ty49 rfl rfl ?_
  intro b4
  (refine W.stb 0 (.t rfl) (.t rfl) rfl ty49 rfl rfl rfl ?_)
  refine W.q (Ev.assign (.t rfl)) rfl ?_
  refine W.nil ?_
  refine W.then ?_
  refine W.seq ?_
  refine W.region ?_
  (refine W.q (Ev.ldbn 0 (.t rfl) rfl ag49 ty49 rfl) rfl ?_)
  refine W.call (c_Make s a hs ha (by rw [← e]; exact hl) hlv hw M0 hI) ⟨(.t rfl), trivial⟩ ((List.perm_append_comm (l₁ := [_, _]))) rfl ?_
  rintro _ M' ⟨m, hm, hml, hmu, rfl, hM'⟩
  rw [hM']
  refine W.perm (List.perm_append_comm (l₂ := [_, _])) ?_
  refine W.q (Ev.move (.t rfl)) rfl ?_
  refine W.q (Ev.extract (.t rfl) rfl) rfl ?_
  refine W.q (Ev.extract (.t rfl) rfl) rfl ?_
  refine W.alloc ty28 rfl rfl ?_
  intro b6
  (refine W.stb 0 (.t rfl) (.t rfl) rfl ty28 rfl rfl rfl ?_)
  refine W.q (Ev.assign (.t rfl)) rfl ?_
  refine W.nil ?_
  refine W.then ?_
  refine W.seq ?_
  refine W.drawnE (ι := Unit) (fun ee _ => .box b6 28 [.sl 1 (m.next.map pav), .sl 1 (m.final.map AV.bool)] :: .box b4 49 (It.al s a).avx.cells :: .box b2 28 (bif ee 10 then [.sl 1 (m.next.map pav), .sl 1 (m.final.map AV.bool)] else [.lit (.slice none 0 0), .lit (.slice none 0 0)]) :: M0) 12 () (by kernel_rfl) (by kernel_rfl) rfl ?_
  (refine DE.q (fun e c hk => (Ev.ldbn 0 (.t rfl) rfl ag28 ty28 rfl)) rfl (fun _ _ => rfl) (by (exact .inr (fun _ _ => rfl))) ?_)
  refine DE.q (fun e c hk => (Ev.move (.t rfl))) rfl (fun _ _ => rfl) (by (exact .inr (fun _ _ => rfl))) ?_
  refine DE.q (fun e c hk => (Ev.move (.t rfl))) rfl (fun _ _ => rfl) (by (exact .inr (fun _ _ => rfl))) ?_
  refine DE.qg rfl (fun _ => rfl) (fun e c hk => (Ev.move (.t rfl))) rfl (fun _ _ => rfl) (by (exact .inr (fun _ _ => rfl))) ?_
  refine DE.qg rfl (fun _ => rfl) (fun e c hk => (Ev.eqi (.c rfl) .k)) rfl (fun _ _ => rfl) (by (exact .inr (fun _ _ => rfl))) ?_
  refine DE.q (fun e c hk => (Ev.and (.t rfl) ⟨_, _, rfl, rfl, by ((simp; done))⟩)) rfl (fun _ _ => rfl) (by (exact .inr (fun _ _ => rfl))) ?_
  refine DE.q (fun e c hk => (Ev.move (.t rfl))) rfl (fun _ _ => rfl) (by (exact .inr (fun _ _ => rfl))) ?_
  (refine DE.qg rfl (fun _ => rfl) (fun e c hk => (Ev.ldbn 0 (.t rfl) rfl ag28 ty28 rfl)) rfl (fun _ _ => rfl) (by (exact .inr (fun _ _ => rfl))) ?_)
  refine DE.callg rfl (fun _ => rfl) (fun c hg => WMay.c_May m hm.shape (by omega)) (fun c hg => ⟨(.i rfl (fun _ => hg)), trivial⟩) rfl (fun _ _ => rfl) (by (exact .inr (fun _ _ => rfl))) ?_
  refine DE.q (fun e c hk => (Ev.and (.t rfl) ⟨_, _, rfl, rfl, by ((simp; done))⟩)) rfl (fun _ _ => rfl) (by (exact .inr (fun _ _ => rfl))) ?_
  refine DE.eff0 (fun e c hk L_ hs Q h => ?_) ?_
  · have hk_10 := hk.not
    simp only [addE, hk_10, Nat.reduceAdd, Nat.reduceEqDiff, ↓reduceIte, cond_true, cond_false] at h ⊢
    ((refine W.stb 2 (.t (hs _ _ rfl)) (.t (hs _ _ rfl)) rfl ty28 rfl rfl rfl ?_; exact h))
  refine DE.q (fun e c hk => (Ev.assign (.t rfl))) rfl (fun _ _ => rfl) (by (exact .inr (fun _ _ => rfl))) ?_
  refine DE.nil (fun c_ e_ he_ => ?_)
  simp only [he_ 10 (by decide), cond_true, cond_false]
  refine W.then ?_
  refine W.ret ?_
  refine W.retn (M' := M0) (D := _) (rs := [.cell 2 28, .tmp 3]) (avs := [_, _]) Tryd.results8 ⟨⟨_, _, _, rfl, by repeat (first | exact List.mem_cons_self | apply List.mem_cons_of_mem), rfl, by funext w; exact ag28.run w, by funext w; exact ty28.size w⟩, rfl, trivial⟩ rfl (List.perm_append_comm (l₁ := [_, _, _])) ?_
  exact ⟨m, hm, hml, hmu, rfl, rfl⟩

theorem c_mk (s : List It) (a : List (List It)) (hs : It.oks s) (ha : It.oka a) (hlv : It.snl s + It.anl a ≤ 6) {L : Lg} (hL : Lg.alt (It.slg s) (It.alg a) = L) (hw : Lg.Wid L 5) (t : List UInt8) (e : t = It.stx s ++ It.atl a) (hl : t.length ≤ 40) (M0 : List ME) (hI : ∀ n : Int, -1 ≤ n → n < 100 → FnC Tryd.prog 61 [.int n] M0 (fun r M => r = .str (itoa n) ∧ M = M0)) : FnC Tryd.prog 8 [.str t] M0 (fun r M => ∃ m : Au, m.Ord ∧ m.next.length ≤ 32 ∧ (∀ u, m.acc 0 u ↔ (L) u) ∧ r = .tup [.agg [.sl 1 (m.next.map pav), .sl 1 (m.final.map AV.bool)], .bool true] ∧ M = M0) := by
  subst hL
  exact c_machine s a hs ha hlv hw t e hl M0 hI
end WMake

end Go.Proofs.YtacaemfkdieocaaDoor
end

section
set_option linter.unusedVariables false
set_option linter.unusedSimpArgs false
set_option maxRecDepth 100000
namespace Go.Proofs.YtacaemfkdieocaaDoor
open Go.Vl

namespace WRun
theorem ty3 : Ty Tryd.prog 3 1 8 (.int .i64 0) := Ty.of (by kernel_rfl)
theorem ty22 : Ty Tryd.prog 22 1 24 (.slice none 0 0) := Ty.of (by kernel_rfl)
theorem ty25 : Ty Tryd.prog 25 1 24 (.slice none 0 0) := Ty.of (by kernel_rfl)
theorem ty28 : Ty Tryd.prog 28 2 48 (.agg #[.slice none 0 0, .slice none 0 0]) := Ty.of (by kernel_rfl)
theorem ag3 : IsAgg Tryd.prog 3 false := ⟨_, Tryd.underlying3, rfl⟩
theorem ag22 : IsAgg Tryd.prog 22 false := ⟨_, Tryd.underlying22, rfl⟩
theorem ag25 : IsAgg Tryd.prog 25 false := ⟨_, Tryd.underlying25, rfl⟩
theorem ag28 : IsAgg Tryd.prog 28 true := ⟨_, Tryd.underlying28, rfl⟩
theorem fa28_0 : FieldAt Tryd.prog 28 0 0 1 false := ⟨_, _, Tryd.underlying28, rfl, rfl, ty25.size, ag25, by decide⟩
theorem c_Run1 (n : Int) : FnP Tryd.prog 32 ([.int n] ++ ([] : List Value).map .lit) (.bool (decide (n < 0) || decide (8 ≤ n))) :=  by
  refine FnC.mk Tryd.func32 (by kernel_rfl) rfl Tryd.ntmps32 rfl (fun w0 F => ?_)
  refine W.seq ?_
  refine W.region ?_
  refine W.q (Ev.assign .k) rfl ?_
  refine W.nil ?_
  refine W.then ?_
  refine W.seq ?_
  refine W.region ?_
  refine W.q (Ev.move (.t rfl)) rfl ?_
  refine W.q (Ev.lti (.t rfl) .k) rfl ?_
  refine W.q (Ev.move (.t rfl)) rfl ?_
  refine W.qgF rfl rfl (Ev.move (.t rfl)) rfl ?_
  refine W.qgF rfl rfl (Ev.gei (.c rfl) .k) rfl ?_
  refine W.q (Ev.or (.t rfl) ⟨_, _, rfl, rfl, by ((simp; done))⟩) rfl ?_
  refine W.q (Ev.assign (.t rfl)) rfl ?_
  refine W.nil ?_
  refine W.then ?_
  refine W.ret ?_
  refine W.retn (M' := []) (rs := [.tmp 2]) (avs := [_]) Tryd.results32 ⟨rfl, trivial⟩ rfl (.refl _) ?_
  exact ⟨rfl, rfl⟩

theorem c_Run (a : Au) (hs : a.Shape) (hn : a.next.length ≤ 40) (w : List Int) (hw : w.length ≤ 40) (hwr : ∀ c ∈ w, 0 ≤ c ∧ c < 8) : FnP Tryd.prog 19 [.agg [.sl 1 (a.next.map pav), .sl 1 (a.final.map AV.bool)], .sl 1 (w.map AV.int)] (.tup [.int (a.run 0 w), .int 0]) :=  by
  refine FnC.mk Tryd.func19 (by kernel_rfl) rfl Tryd.ntmps19 rfl (fun w0 F => ?_)
  have hwl : (w.map AV.int).length = w.length := List.length_map ..
  have hpos := hs.pos
  have hnl : (a.next.map pav).length = a.next.length := List.length_map ..
  have hany : (w.any fun n => decide (n < 0) || decide (8 ≤ n)) = false := by rw [List.any_eq_false]; intro c hc; have := hwr c hc; simp; omega
  refine W.seq ?_
  refine W.region ?_
  refine W.box (.t rfl) rfl rfl ?_
  intro b2
  refine W.q (Ev.assign .k) rfl ?_
  refine W.q (Ev.assign .k) rfl ?_
  refine W.nil ?_
  refine W.then ?_
  refine W.seq ?_
  refine W.block ?_
  refine W.seq ?_
  refine W.region ?_
  (refine W.q (Ev.ldbn 0 (.t rfl) rfl ag28 ty28 rfl) rfl ?_)
  refine W.callp (WMay.c_May a hs hn) ⟨(.t rfl), trivial⟩ rfl ?_
  refine W.q (Ev.not (.t rfl)) rfl ?_
  refine W.q (Ev.assign (.t rfl)) rfl ?_
  refine W.nil ?_
  refine W.then ?_
  refine W.is (t := 9) (g := true) (av' := .lit (.bool false)) rfl (congrArg (fun b => AV.lit (.bool b)) (by rfl)) ?_
  refine W.condF (.t rfl) ?_
  refine W.seq ?_
  refine W.region ?_
  refine W.q (Ev.move (.t rfl)) rfl ?_
  (refine W.q (Ev.lensl (.t rfl) Tryd.underlying22) rfl ?_)
  refine W.q (Ev.gti (.t rfl) .k) rfl ?_
  refine W.q (Ev.assign (.t rfl)) rfl ?_
  refine W.nil ?_
  refine W.then ?_
  refine W.is (t := 13) (g := true) (av' := .lit (.bool false)) rfl (congrArg (fun b => AV.lit (.bool b)) (by simp; omega)) ?_
  refine W.condF (.t rfl) ?_
  refine W.seq ?_
  refine W.region ?_
  refine W.q (Ev.move (.t rfl)) rfl ?_
  refine W.call (WConts.c_ContainsFuncI w 32 [] [] (fun n => decide (n < 0) || decide (8 ≤ n)) (fun d _ => c_Run1 d) (by omega)) ⟨(.t rfl), .f, trivial⟩ (.refl _) rfl ?_
  rintro _ _ ⟨rfl, rfl⟩
  refine W.q (Ev.assign (.t rfl)) rfl ?_
  refine W.nil ?_
  refine W.then ?_
  refine W.is (t := 17) (g := true) (av' := .lit (.bool false)) rfl (congrArg (fun b => AV.lit (.bool b)) (by exact hany)) ?_
  refine W.condF (.t rfl) ?_
  refine W.skip ?_
  refine W.blk_normal ?_
  refine W.then ?_
  refine W.seq ?_
  refine W.region ?_
  refine W.q (Ev.assign .k) rfl ?_
  refine W.nil ?_
  refine W.then ?_
  refine W.seq ?_
  refine W.seq ?_
  refine W.region ?_
  refine W.q (Ev.move (.t rfl)) rfl ?_
  (refine W.q (Ev.lensl (.t rfl) Tryd.underlying22) rfl ?_)
  refine W.q (Ev.move .k) rfl ?_
  refine W.nil ?_
  refine W.then ?_
  refine W.block ?_
  refine W.loop (D := []) (ι := Nat) (fun i => [(22, true, .int (i : Int)), (21, true, .int ((w.map AV.int).length : Int)), (20, true, .sl 1 (w.map AV.int)), (6, true, .int (a.run 0 (w.take i))), (2, true, .lit (.pointer (some ⟨b2, 0, none⟩)))]) (fun _ => [.box b2 28 [.sl 1 (a.next.map pav), .sl 1 (a.final.map AV.bool)]]) (fun i => i ≤ w.length) (fun i => w.length - i) 0 ⟨rfl, rfl, rfl, rfl, rfl, trivial⟩ (.refl _) (Nat.zero_le _) ?_
  intro i hi
  dsimp only at hi ⊢
  rcases (show i < w.length ∨ i = w.length from by omega) with hlt | hend
  · have hgc := getD_map w i hlt
    have hc := hwr _ (getD_memG 0 w i hlt)
    have hrr := Au.run_range hs (w.take i) 0 (by decide) (by omega) fun y hy => hwr y (List.mem_of_mem_take hy)
    have hst : a.run 0 (w.take (i + 1)) = if 0 ≤ a.run 0 (w.take i) then a.to (a.run 0 (w.take i)) (w.getD i 0) else a.run 0 (w.take i) := by rw [take_getDG 0 w i hlt, Au.run_snoc]
    generalize w.getD i 0 = c0 at hgc hc hst
    generalize a.run 0 (w.take i) = r at hrr hst
    refine W.seq ?_
    refine W.region ?_
    refine W.q (Ev.lti (.t rfl) (.t rfl)) rfl ?_
    refine W.nil ?_
    refine W.then ?_
    refine W.seq ?_
    refine W.is (t := 23) (g := true) (av' := .lit (.bool true)) rfl (congrArg (fun b => AV.lit (.bool b)) (by simp; omega)) ?_
    refine W.condT (.t rfl) ?_
    refine W.skip ?_
    refine W.then ?_
    refine W.seq ?_
    refine W.block ?_
    refine W.seq ?_
    refine W.region ?_
    refine W.q (Ev.at (E := 3) (.t rfl) (.t rfl) Tryd.underlying22 ty3 (fun _ => ⟨by omega, hgc⟩) rfl rfl) rfl ?_
    (refine W.q (Ev.lde1 (.t rfl) ag3) rfl ?_)
    refine W.q (Ev.assign (.t rfl)) rfl ?_
    refine W.nil ?_
    refine W.then ?_
    refine W.seq ?_
    refine W.region ?_
    refine W.q (Ev.move (.t rfl)) rfl ?_
    refine W.q (Ev.gei (.t rfl) .k) rfl ?_
    refine W.nil ?_
    refine W.then ?_
    refine W.cond (.t rfl) (fun hc_t27 => ?_) (fun hc_t27 => ?_)
    · have h27 := of_decide_eq_true hc_t27
      have hgr := getD_mapG pav [] a.next r.toNat (by omega)
      have hrw := hs.row r.toNat (by omega)
      have hgx := getD_map (a.next.getD r.toNat []) c0.toNat (by omega)
      have hto := Au.to_get a r c0 (by omega)
      rw [if_pos h27, ← hto] at hst
      refine W.region ?_
      (refine W.q (Ev.fab (.t rfl) fa28_0) rfl ?_)
      (refine W.q (Ev.ldb1 0 (.t rfl) rfl ag25 rfl) rfl ?_)
      refine W.q (Ev.move (.t rfl)) rfl ?_
      refine W.q (Ev.at (E := 22) (.t rfl) (.t rfl) Tryd.underlying25 ty22 (fun _ => ⟨by omega, hgr⟩) rfl rfl) rfl ?_
      (refine W.q (Ev.lde1 (.t rfl) ag22) rfl ?_)
      refine W.q (Ev.move (.t rfl)) rfl ?_
      refine W.q (Ev.at (E := 3) (.t rfl) (.t rfl) Tryd.underlying22 ty3 (fun _ => ⟨by omega, hgx⟩) rfl rfl) rfl ?_
      (refine W.q (Ev.lde1 (.t rfl) ag3) rfl ?_)
      refine W.q (Ev.assign (.t rfl)) rfl ?_
      refine W.nil ?_
      refine W.blk_normal ?_
      refine W.then ?_
      refine W.region ?_
      (refine W.q (Ev.add (.t rfl) .k (fun _ => by omega)) rfl ?_)
      refine W.q (Ev.move (.t rfl)) rfl ?_
      refine W.nil ?_
      refine W.then ?_
      refine W.is (t := 6) (g := true) (av' := .int (a.run 0 (w.take (i + 1)))) rfl (congrArg AV.int hst.symm) ?_
      refine W.reach (D := []) (i + 1) ⟨rfl, rfl, rfl, rfl, rfl, trivial⟩ (.refl _) ⟨by show i + 1 ≤ _; omega, by show _ - (i + 1) < _; omega⟩
    · have h27 := of_decide_eq_false hc_t27
      rw [if_neg h27] at hst
      refine W.skip ?_
      refine W.blk_normal ?_
      refine W.then ?_
      refine W.region ?_
      (refine W.q (Ev.add (.t rfl) .k (fun _ => by omega)) rfl ?_)
      refine W.q (Ev.move (.t rfl)) rfl ?_
      refine W.nil ?_
      refine W.then ?_
      refine W.is (t := 6) (g := true) (av' := .int (a.run 0 (w.take (i + 1)))) rfl (congrArg AV.int hst.symm) ?_
      refine W.reach (D := []) (i + 1) ⟨rfl, rfl, rfl, rfl, rfl, trivial⟩ (.refl _) ⟨by show i + 1 ≤ _; omega, by show _ - (i + 1) < _; omega⟩
  · subst hend
    rw [List.take_length]
    refine W.seq ?_
    refine W.region ?_
    refine W.q (Ev.lti (.t rfl) (.t rfl)) rfl ?_
    refine W.nil ?_
    refine W.then ?_
    refine W.seq ?_
    refine W.is (t := 23) (g := true) (av' := .lit (.bool false)) rfl (congrArg (fun b => AV.lit (.bool b)) (by simp)) ?_
    refine W.condF (.t rfl) ?_
    refine W.exit ?_
    refine W.then_exit ?_
    refine W.then_exit ?_
    refine W.blk_hit ?_
    refine W.then ?_
    refine W.seq ?_
    refine W.region ?_
    refine W.q (Ev.move (.t rfl)) rfl ?_
    refine W.q (Ev.assign (.t rfl)) rfl ?_
    refine W.q (Ev.assign .k) rfl ?_
    refine W.nil ?_
    refine W.then ?_
    refine W.ret ?_
    refine W.retn (M' := []) (D := _) (rs := [.tmp 4, .tmp 5]) (avs := [_, _]) Tryd.results19 ⟨rfl, rfl, trivial⟩ rfl (.refl _) ?_
    exact ⟨rfl, rfl⟩

end WRun

end Go.Proofs.YtacaemfkdieocaaDoor
end

section
set_option linter.unusedVariables false
set_option linter.unusedSimpArgs false
set_option maxRecDepth 100000
namespace Go.Proofs.YtacaemfkdieocaaDoor
open Go.Vl

namespace WLet
theorem ty3 : Ty Tryd.prog 3 1 8 (.int .i64 0) := Ty.of (by kernel_rfl)
theorem ag3 : IsAgg Tryd.prog 3 false := ⟨_, Tryd.underlying3, rfl⟩
end WLet

end Go.Proofs.YtacaemfkdieocaaDoor
end

section
set_option linter.unusedVariables false
set_option linter.unusedSimpArgs false
set_option maxRecDepth 100000
namespace Go.Proofs.YtacaemfkdieocaaDoor
open Go.Vl

namespace WReads
theorem ty3 : Ty Tryd.prog 3 1 8 (.int .i64 0) := Ty.of (by kernel_rfl)
theorem ty4 : Ty Tryd.prog 4 1 1 (.bool false) := Ty.of (by kernel_rfl)
theorem ty22 : Ty Tryd.prog 22 1 24 (.slice none 0 0) := Ty.of (by kernel_rfl)
theorem ty25 : Ty Tryd.prog 25 1 24 (.slice none 0 0) := Ty.of (by kernel_rfl)
theorem ty26 : Ty Tryd.prog 26 1 24 (.slice none 0 0) := Ty.of (by kernel_rfl)
theorem ty28 : Ty Tryd.prog 28 2 48 (.agg #[.slice none 0 0, .slice none 0 0]) := Ty.of (by kernel_rfl)
theorem ag4 : IsAgg Tryd.prog 4 false := ⟨_, Tryd.underlying4, rfl⟩
theorem ag22 : IsAgg Tryd.prog 22 false := ⟨_, Tryd.underlying22, rfl⟩
theorem ag25 : IsAgg Tryd.prog 25 false := ⟨_, Tryd.underlying25, rfl⟩
theorem ag26 : IsAgg Tryd.prog 26 false := ⟨_, Tryd.underlying26, rfl⟩
theorem ag28 : IsAgg Tryd.prog 28 true := ⟨_, Tryd.underlying28, rfl⟩
theorem fa28_0 : FieldAt Tryd.prog 28 0 0 1 false := ⟨_, _, Tryd.underlying28, rfl, rfl, ty25.size, ag25, by decide⟩
theorem fa28_1 : FieldAt Tryd.prog 28 1 1 1 false := ⟨_, _, Tryd.underlying28, rfl, rfl, ty26.size, ag26, by decide⟩
theorem ni22 : NotInt Tryd.prog 22 := .inl ⟨_, Tryd.underlying22⟩
theorem c_reads (m : Au) (hs : m.Shape) (hn : m.next.length ≤ 40) (w : List Int) (hw : w.length ≤ 40) (hwr : ∀ c ∈ w, 0 ≤ c ∧ c < 8) : FnP Tryd.prog 10 [.agg [.sl 1 (m.next.map pav), .sl 1 (m.final.map AV.bool)], .sl 1 (w.map AV.int)] (.bool (Lg.dec (m.acc 0) w)) :=  by
  refine FnC.mk Tryd.func10 (by kernel_rfl) rfl Tryd.ntmps10 rfl (fun w0 F => ?_)
  have hwl : (w.map AV.int).length = w.length := List.length_map ..
  have hpos := hs.pos
  have hfin := hs.fin
  have hfl : (m.final.map AV.bool).length = m.final.length := List.length_map ..
  have hrr := Au.run_range hs w 0 (by decide) (by omega) hwr
  have hac := Au.acc_run (a := m) w 0 hwr
  have hrun := WRun.c_Run m hs hn w hw hwr
  obtain ⟨r, hr⟩ : ∃ r, m.run 0 w = r := ⟨_, rfl⟩
  rw [hr] at hrr hac hrun
  refine W.seq ?_
  refine W.region ?_
  refine W.box (.t rfl) rfl rfl ?_
  intro b2
  refine W.q (Ev.assign .k) rfl ?_
  refine W.nil ?_
  refine W.then ?_
  refine W.seq ?_
  refine W.drawnE (ι := Unit) (fun _ _ => _) 9 () (by kernel_rfl) (by kernel_rfl) rfl ?_
  (refine DE.q (fun e c hk => (Ev.ldbn 0 (.t rfl) rfl ag28 ty28 rfl)) rfl (fun _ _ => rfl) (by (exact .inr (fun _ _ => rfl))) ?_)
  refine DE.q (fun e c hk => (Ev.move (.t rfl))) rfl (fun _ _ => rfl) (by (exact .inr (fun _ _ => rfl))) ?_
  (refine DE.app0 (fun c => (by (exact .k))) (fun e c => .sl (.t rfl) (okc_ints w)) Tryd.underlying22 ni22 ty3 rfl rfl (by simp; omega) rfl (fun _ _ => rfl) ?_)
  refine DE.callp (fun c => hrun) (fun c => ⟨(.t rfl), (.t rfl), trivial⟩) rfl (fun _ _ => rfl) (by (exact .inr (fun _ _ => rfl))) ?_
  refine DE.q (fun e c hk => (Ev.move (.t rfl))) rfl (fun _ _ => rfl) (by (exact .inr (fun _ _ => rfl))) ?_
  refine DE.q (fun e c hk => (Ev.extract (.t rfl) rfl)) rfl (fun _ _ => rfl) (by (exact .inr (fun _ _ => rfl))) ?_
  refine DE.q (fun e c hk => (Ev.extract (.t rfl) rfl)) rfl (fun _ _ => rfl) (by (exact .inr (fun _ _ => rfl))) ?_
  refine DE.q (fun e c hk => (Ev.assign (.t rfl))) rfl (fun _ _ => rfl) (by (exact .inr (fun _ _ => rfl))) ?_
  refine DE.q (fun e c hk => (Ev.assign (.t rfl))) rfl (fun _ _ => rfl) (by (exact .inr (fun _ _ => rfl))) ?_
  refine DE.nil (fun c_ e_ he_ => ?_)
  dsimp only
  refine W.then ?_
  refine W.seq ?_
  refine W.region ?_
  refine W.q (Ev.move (.t rfl)) rfl ?_
  refine W.q (Ev.eqi (.t rfl) .k) rfl ?_
  refine W.q (Ev.move (.t rfl)) rfl ?_
  refine W.qgT rfl rfl (Ev.move (.t rfl)) rfl ?_
  refine W.qgT rfl rfl (Ev.gei (.c rfl) .k) rfl ?_
  refine W.q (Ev.and (.t rfl) ⟨_, _, rfl, rfl, by ((simp; done))⟩) rfl ?_
  refine W.q (Ev.move (.t rfl)) rfl ?_
  refine W.qgT rfl rfl (Ev.move (.t rfl)) rfl ?_
  (refine W.qgT rfl rfl (Ev.fab (.t rfl) fa28_1) rfl ?_)
  (refine W.qgT rfl rfl (Ev.ldb1 0 (.c rfl) rfl ag26 rfl) rfl ?_)
  (refine W.qgT rfl rfl (Ev.lensl (.c rfl) Tryd.underlying26) rfl ?_)
  refine W.qgT rfl rfl (Ev.lti (.c rfl) (.c rfl)) rfl ?_
  refine W.q (Ev.and (.t rfl) ⟨_, _, rfl, rfl, by ((simp; done))⟩) rfl ?_
  refine W.q (Ev.move (.t rfl)) rfl ?_
  (refine W.qgT rfl rfl (Ev.fab (.t rfl) fa28_1) rfl ?_)
  (refine W.qgT rfl rfl (Ev.ldb1 0 (.c rfl) rfl ag26 rfl) rfl ?_)
  refine W.qgT rfl rfl (Ev.move (.t rfl)) rfl ?_
  refine W.qgT rfl rfl (Ev.at (E := 4) (.c rfl) (.c rfl) Tryd.underlying26 ty4 (fun hg => ⟨by simp at hg; omega, getD_mapG AV.bool false m.final r.toNat (by simp at hg; omega)⟩) rfl rfl) rfl ?_
  (refine W.qgT rfl rfl (Ev.lde1 (.c rfl) ag4) rfl ?_)
  refine W.q (Ev.and (.t rfl) ⟨_, _, rfl, rfl, by ((simp; done))⟩) rfl ?_
  refine W.q (Ev.assign (.t rfl)) rfl ?_
  refine W.nil ?_
  refine W.then ?_
  refine W.ret ?_
  refine W.retn (M' := []) (D := _) (rs := [.tmp 4]) (avs := [_]) Tryd.results10 ⟨rfl, trivial⟩ rfl (.refl _) ?_
  refine ⟨congrArg AV.bool ?_, rfl⟩
  rw [Bool.eq_iff_iff, Lg.dec_iff, hac]
  simp
  omega

end WReads

end Go.Proofs.YtacaemfkdieocaaDoor
end

section
set_option linter.unusedVariables false
set_option linter.unusedSimpArgs false
set_option maxRecDepth 100000
namespace Go.Proofs.YtacaemfkdieocaaDoor
open Go.Vl

namespace WDrawX
theorem ty3 : Ty Tryd.prog 3 1 8 (.int .i64 0) := Ty.of (by kernel_rfl)
theorem ty9 : Ty Tryd.prog 9 1 16 (.string ⟨#[]⟩) := Ty.of (by kernel_rfl)
theorem ag3 : IsAgg Tryd.prog 3 false := ⟨_, Tryd.underlying3, rfl⟩
theorem ag9 : IsAgg Tryd.prog 9 false := ⟨_, Tryd.underlying9, rfl⟩
theorem c_ExprText_step (d : Nat) (hd : d ≤ 10) (ih : 2 ≤ d → ∀ l : List Int, l.length ≤ 1048576 → FnC Tryd.prog 7 [.sl 1 ((l).map AV.int), .int ((d - 1 : Nat) : Int)] [] (fun r M => M = [] ∧ ∃ (s : List It) (rest : List Int), r = .tup [.str (It.stx s), .sl 1 (rest.map AV.int)] ∧ Dx (d - 1) s ∧ rest.length ≤ (l).length)) (l : List Int) (hl : l.length ≤ 1048576) : FnC Tryd.prog 7 [.sl 1 ((l).map AV.int), .int ((d : Nat) : Int)] [] (fun r M => M = [] ∧ ∃ (s : List It) (rest : List Int), r = .tup [.str (It.stx s), .sl 1 (rest.map AV.int)] ∧ Dx (d) s ∧ rest.length ≤ (l).length) :=  by
  refine FnC.mk Tryd.func7 (by kernel_rfl) rfl Tryd.ntmps7 rfl (fun w0 F => ?_)
  have hll : (l.map AV.int).length = l.length := List.length_map ..
  have htb := tb_ge d
  refine W.seq ?_
  refine W.region ?_
  refine W.q (Ev.assign .k) rfl ?_
  refine W.q (Ev.assign .k) rfl ?_
  refine W.nil ?_
  refine W.then ?_
  refine W.seq ?_
  refine W.region ?_
  refine W.q (Ev.assign .k) rfl ?_
  refine W.nil ?_
  refine W.then ?_
  refine W.seq ?_
  refine W.seq ?_
  refine W.region ?_
  refine W.q (Ev.move (.t rfl)) rfl ?_
  (refine W.q (Ev.lensl (.t rfl) Tryd.underlying22) rfl ?_)
  refine W.q (Ev.gti (.t rfl) .k) rfl ?_
  refine W.nil ?_
  refine W.then ?_
  refine W.cond (.t rfl) (fun hc_t12 => ?_) (fun hc_t12 => ?_)
  · obtain ⟨x, l2, rfl⟩ : ∃ x l2, l = x :: l2 := List.exists_cons_of_ne_nil (by intro h; rw [h] at hc_t12; simp at hc_t12)
    have hl2l : l2.length ≤ (x :: l2).length := by simp
    rw [List.length_cons] at hl
    refine W.seq ?_
    refine W.region ?_
    refine W.q (Ev.move (.t rfl)) rfl ?_
    refine W.q (Ev.at (E := 3) (.t rfl) .k Tryd.underlying22 ty3 (e := .int x) (fun _ => ⟨by decide, rfl⟩) rfl rfl) rfl ?_
    (refine W.q (Ev.lde1 (.t rfl) ag3) rfl ?_)
    refine W.q (Ev.assign (.t rfl)) rfl ?_
    refine W.nil ?_
    refine W.then ?_
    refine W.region ?_
    refine W.q (Ev.move (.t rfl)) rfl ?_
    refine W.q (Ev.subsl (lo := some (.const (.int .i64 1))) (hi := none) (.t rfl) Tryd.underlying22 ty3 (Ov.k (g := true) (L := [])) rfl (fun _ => by ((simp; omega)))) rfl ?_
    refine W.q (Ev.assign (.t rfl)) rfl ?_
    refine W.nil ?_
    refine W.is (t := 0) (g := true) (av' := .sl 1 (l2.map AV.int)) rfl (congrArg (AV.sl 1) (by rw [List.take_of_length_le (by simp)]; rfl)) ?_
    refine W.then ?_
    refine W.seq ?_
    refine W.region ?_
    refine W.q (Ev.move (.t rfl)) rfl ?_
    refine W.callp (Base.c_Picked x 9 (by decide) (by decide)) ⟨(.t rfl), .k, trivial⟩ rfl ?_
    refine W.q (Ev.assign (.t rfl)) rfl ?_
    refine W.nil ?_
    obtain ⟨k9, hk9, lk9⟩ : ∃ k : Nat, x % 9 = (k : Int) ∧ k < 9 := ⟨(x % 9).toNat, by have := Int.emod_nonneg x (show (9 : Int) ≠ 0 by decide); omega, by have := Int.emod_lt_of_pos x (show (0 : Int) < 9 by decide); omega⟩
    refine W.is (t := 7) (g := true) (av' := .int (k9 : Int)) rfl (congrArg AV.int hk9) ?_
    refine W.then ?_
    refine W.seq ?_
    refine W.seq ?_
    refine W.region ?_
    refine W.q (Ev.move (.t rfl)) rfl ?_
    refine W.q (Ev.lei (.t rfl) .k) rfl ?_
    refine W.q (Ev.move (.t rfl)) rfl ?_
    refine W.qgF rfl rfl (Ev.move (.t rfl)) rfl ?_
    refine W.qgF rfl rfl (Ev.lti (.c rfl) .k) rfl ?_
    refine W.q (Ev.or (.t rfl) ⟨_, _, rfl, rfl, by ((simp; done))⟩) rfl ?_
    refine W.nil ?_
    refine W.then ?_
    refine W.cond (.t rfl) (fun hc_t25 => ?_) (fun hc_t25 => ?_)
    · obtain ⟨n1, hn1, ln1⟩ : ∃ k : Nat, IntKind.i64.wrap (x.tdiv 9) % 3 = (k : Int) ∧ k < 3 := ⟨(IntKind.i64.wrap (x.tdiv 9) % 3).toNat, by have := Int.emod_nonneg (IntKind.i64.wrap (x.tdiv 9)) (show (3 : Int) ≠ 0 by decide); omega, by have := Int.emod_lt_of_pos (IntKind.i64.wrap (x.tdiv 9)) (show (0 : Int) < 3 by decide); omega⟩
      obtain ⟨p1, hp1, lp1⟩ : ∃ k : Nat, IntKind.i64.wrap (x.tdiv 27) % 4 = (k : Int) ∧ k < 4 := ⟨(IntKind.i64.wrap (x.tdiv 27) % 4).toNat, by have := Int.emod_nonneg (IntKind.i64.wrap (x.tdiv 27)) (show (4 : Int) ≠ 0 by decide); omega, by have := Int.emod_lt_of_pos (IntKind.i64.wrap (x.tdiv 27)) (show (0 : Int) < 4 by decide); omega⟩
      have hL4 : ∀ k, k < 4 → ([[], [], [42], [63]].getD k [] : List UInt8).length ≤ 1 := by decide
      refine W.seq ?_
      refine W.drawnE (ι := Unit) (fun _ _ => _) 15 () (by kernel_rfl) (by kernel_rfl) rfl ?_
      refine DE.q (fun e c hk => (Ev.move (.t rfl))) rfl (fun _ _ => rfl) (by (exact .inr (fun _ _ => rfl))) ?_
      (refine DE.q (fun e c hk => (Ev.quo (.t rfl) .k (fun _ => by decide))) rfl (fun _ _ => rfl) (by (exact .inr (fun _ _ => rfl))) ?_)
      refine DE.callp (fun c => Base.c_Picked (IntKind.i64.wrap (x.tdiv 9)) 3 (by decide) (by decide)) (fun c => ⟨(.t rfl), .k, trivial⟩) rfl (fun _ _ => rfl) (by (exact .inr (fun _ _ => rfl))) ?_
      refine DE.q (fun e c hk => Ev.subs (lo := some (.tmp 28)) (hi := none) .k Tryd.underlying9 (.t rfl) rfl (fun _ => ⟨by omega, by show _ ≤ (3 : Int); omega, Int.le_refl _⟩)) rfl (fun _ _ => rfl) (by (exact .inr (fun _ _ => rfl))) ?_
      refine DE.q (fun e c hk => Ev.subs (lo := none) (hi := some (.const (.int .i64 1))) (.t rfl) Tryd.underlying9 rfl (Ov.k (g := true) (L := [])) (fun _ => ⟨by decide, by decide, by rw [hn1]; simp; omega⟩)) rfl (fun _ _ => rfl) (by (exact .inr (fun _ _ => rfl))) ?_
      refine DE.bs (es := fun _ => [_, _, _, _]) Tryd.underlying46 ty9 (fun c => ⟨rfl, .k, rfl, rfl, rfl, .k, rfl, rfl, rfl, .k, rfl, rfl, rfl, .k, rfl, rfl, trivial⟩) (fun _ => rfl) (by decide) rfl rfl (fun _ _ => rfl) (by (exact .inr (fun _ _ => rfl))) ?_
      refine DE.q (fun e c hk => (Ev.move (.t rfl))) rfl (fun _ _ => rfl) (by (exact .inr (fun _ _ => rfl))) ?_
      (refine DE.q (fun e c hk => (Ev.quo (.t rfl) .k (fun _ => by decide))) rfl (fun _ _ => rfl) (by (exact .inr (fun _ _ => rfl))) ?_)
      refine DE.callp (fun c => Base.c_Picked (IntKind.i64.wrap (x.tdiv 27)) 4 (by decide) (by decide)) (fun c => ⟨(.t rfl), .k, trivial⟩) rfl (fun _ _ => rfl) (by (exact .inr (fun _ _ => rfl))) ?_
      refine DE.q (fun e c hk => Ev.at (E := 9) (.t rfl) (.t rfl) Tryd.underlying46 ty9 (e := .str ([[], [], [42], [63]].getD p1 [])) (fun _ => ⟨by omega, by rw [hp1, Int.toNat_natCast]; exact getD_mapG AV.str [] [[], [], [42], [63]] p1 lp1⟩) rfl rfl) rfl (fun _ _ => rfl) (by (exact .inr (fun _ _ => rfl))) ?_
      (refine DE.q (fun e c hk => (Ev.lde1 (.t rfl) ag9)) rfl (fun _ _ => rfl) (by (exact .inr (fun _ _ => rfl))) ?_)
      refine DE.q (fun e c hk => Ev.cat (.t rfl) (.t rfl) (fun _ => by have h1 := hL4 p1 lp1; simp only [List.length_drop, List.length_take]; omega)) rfl (fun _ _ => rfl) (by (exact .inr (fun _ _ => rfl))) ?_
      refine DE.q (fun e c hk => (Ev.move (.t rfl))) rfl (fun _ _ => rfl) (by (exact .inr (fun _ _ => rfl))) ?_
      refine DE.q (fun e c hk => (Ev.assign (.t rfl))) rfl (fun _ _ => rfl) (by (exact .inr (fun _ _ => rfl))) ?_
      refine DE.q (fun e c hk => (Ev.assign (.t rfl))) rfl (fun _ _ => rfl) (by (exact .inr (fun _ _ => rfl))) ?_
      refine DE.nil (fun c_ e_ he_ => ?_)
      dsimp only
      refine W.then ?_
      refine W.ret ?_
      refine W.then_ret ?_
      refine W.retn (M' := []) (rs := [.tmp 4, .tmp 5]) (avs := [_, _]) Tryd.results7 ⟨rfl, rfl, trivial⟩ rfl (.refl _) ?_
      first
      | (refine ⟨rfl, [It.ch n1 (Dx.sf4 p1)], l2, congrArg (fun z => AV.tup [AV.str z, _]) ?_, Dx.leaf d n1 _ ln1 (Dx.sf4_in p1), hl2l⟩; rw [hn1]; exact Dx.leaf_tx n1 p1 ln1 lp1)
      | (refine ⟨rfl, s1 ++ s2, r2, congrArg (fun z => AV.tup [AV.str z, _]) ?_, Dx.cat hd2 hs1 hs2, ?_⟩; exact (It.stx_append s1 s2).symm; (first | exact hl2l | omega | (simp only [List.length_cons] at *; omega)))
      | (refine ⟨rfl, [It.gr s1 [s2] []], r2, congrArg (fun z => AV.tup [AV.str z, _]) ?_, Dx.alt hd2 hs1 hs2 [] (.inl rfl), ?_⟩; exact Dx.alt_tx s1 s2; (first | exact hl2l | omega | (simp only [List.length_cons] at *; omega)))
      | (refine ⟨rfl, [It.gr s1 [s2] [0]], r2, congrArg (fun z => AV.tup [AV.str z, _]) ?_, Dx.alt hd2 hs1 hs2 [0] (.inr rfl), ?_⟩; exact Dx.alts_tx s1 s2; (first | exact hl2l | omega | (simp only [List.length_cons] at *; omega)))
      | (refine ⟨rfl, [It.gr (s1 ++ s2) [] [q1 + 1]], r2, congrArg (fun z => AV.tup [AV.str z, _]) ?_, Dx.grp hd2 hs1 hs2 (q1 + 1) (by omega), ?_⟩; exact Dx.grp_tx s1 s2 q1 lq1; (first | exact hl2l | omega | (simp only [List.length_cons] at *; omega)))
    · have h25 := hc_t25
      simp only [Bool.or_eq_false_iff, decide_eq_false_iff_not] at h25
      have hd2 : 2 ≤ d := by omega
      obtain ⟨q1, hq1, lq1⟩ : ∃ k : Nat, IntKind.i64.wrap (x.tdiv 9) % 2 = (k : Int) ∧ k < 2 := ⟨(IntKind.i64.wrap (x.tdiv 9) % 2).toNat, by have := Int.emod_nonneg (IntKind.i64.wrap (x.tdiv 9)) (show (2 : Int) ≠ 0 by decide); omega, by have := Int.emod_lt_of_pos (IntKind.i64.wrap (x.tdiv 9)) (show (0 : Int) < 2 by decide); omega⟩
      have hL2 : ∀ k, k < 2 → ([[43], [63]].getD k [] : List UInt8).length ≤ 1 := by decide
      refine W.skip ?_
      refine W.then ?_
      refine W.seq ?_
      refine W.region ?_
      refine W.q (Ev.move (.t rfl)) rfl ?_
      refine W.q (Ev.move (.t rfl)) rfl ?_
      refine W.q (Ev.sub (.t rfl) .k (fun _ => by omega)) rfl ?_
      refine W.is (t := 42) (g := true) (av' := .int ((d - 1 : Nat) : Int)) rfl (congrArg AV.int (by omega)) ?_
      refine W.call (ih hd2 l2 (by omega)) ⟨(.t rfl), (.t rfl), trivial⟩ (.refl _) rfl ?_
      rintro _ _ ⟨rfl, s1, r1, rfl, hs1, hr1⟩
      refine W.q (Ev.move (.t rfl)) rfl ?_
      refine W.q (Ev.extract (.t rfl) rfl) rfl ?_
      refine W.q (Ev.extract (.t rfl) rfl) rfl ?_
      refine W.q (Ev.assign (.t rfl)) rfl ?_
      refine W.q (Ev.assign (.t rfl)) rfl ?_
      refine W.nil ?_
      refine W.then ?_
      refine W.seq ?_
      refine W.region ?_
      refine W.q (Ev.move (.t rfl)) rfl ?_
      refine W.q (Ev.move (.t rfl)) rfl ?_
      refine W.q (Ev.sub (.t rfl) .k (fun _ => by omega)) rfl ?_
      refine W.is (t := 49) (g := true) (av' := .int ((d - 1 : Nat) : Int)) rfl (congrArg AV.int (by omega)) ?_
      refine W.call (ih hd2 r1 (by omega)) ⟨(.t rfl), (.t rfl), trivial⟩ (.refl _) rfl ?_
      rintro _ _ ⟨rfl, s2, r2, rfl, hs2, hr2⟩
      have hl1 := hs1.len
      have hl2 := hs2.len
      have htd := (tb_step d hd2).1
      have htm := tb_small d hd
      refine W.q (Ev.move (.t rfl)) rfl ?_
      refine W.q (Ev.extract (.t rfl) rfl) rfl ?_
      refine W.q (Ev.extract (.t rfl) rfl) rfl ?_
      refine W.q (Ev.assign (.t rfl)) rfl ?_
      refine W.q (Ev.assign (.t rfl)) rfl ?_
      refine W.nil ?_
      refine W.then ?_
      refine W.seq ?_
      refine W.block ?_
      refine W.seq ?_
      refine W.region ?_
      refine W.q (Ev.move (.t rfl)) rfl ?_
      refine W.q (Ev.lti (.t rfl) .k) rfl ?_
      refine W.q (Ev.assign (.t rfl)) rfl ?_
      refine W.nil ?_
      refine W.then ?_
      refine W.cond (.t rfl) (fun hc_t53 => ?_) (fun hc_t53 => ?_)
      · refine W.seq ?_
        refine W.region ?_
        refine W.q (Ev.move (.t rfl)) rfl ?_
        refine W.q (Ev.move (.t rfl)) rfl ?_
        refine W.q (Ev.cat (.t rfl) (.t rfl) (fun _ => by (omega))) rfl ?_
        refine W.q (Ev.move (.t rfl)) rfl ?_
        refine W.q (Ev.assign (.t rfl)) rfl ?_
        refine W.q (Ev.assign (.t rfl)) rfl ?_
        refine W.nil ?_
        refine W.then ?_
        refine W.ret ?_
        refine W.blk_ret ?_
        refine W.then_ret ?_
        refine W.retn (M' := []) (rs := [.tmp 4, .tmp 5]) (avs := [_, _]) Tryd.results7 ⟨rfl, rfl, trivial⟩ rfl (.refl _) ?_
        first
        | (refine ⟨rfl, [It.ch n1 (Dx.sf4 p1)], l2, congrArg (fun z => AV.tup [AV.str z, _]) ?_, Dx.leaf d n1 _ ln1 (Dx.sf4_in p1), hl2l⟩; rw [hn1]; exact Dx.leaf_tx n1 p1 ln1 lp1)
        | (refine ⟨rfl, s1 ++ s2, r2, congrArg (fun z => AV.tup [AV.str z, _]) ?_, Dx.cat hd2 hs1 hs2, ?_⟩; exact (It.stx_append s1 s2).symm; ((omega)))
        | (refine ⟨rfl, [It.gr s1 [s2] []], r2, congrArg (fun z => AV.tup [AV.str z, _]) ?_, Dx.alt hd2 hs1 hs2 [] (.inl rfl), ?_⟩; exact Dx.alt_tx s1 s2; (first | exact hl2l | omega | (simp only [List.length_cons] at *; omega)))
        | (refine ⟨rfl, [It.gr s1 [s2] [0]], r2, congrArg (fun z => AV.tup [AV.str z, _]) ?_, Dx.alt hd2 hs1 hs2 [0] (.inr rfl), ?_⟩; exact Dx.alts_tx s1 s2; (first | exact hl2l | omega | (simp only [List.length_cons] at *; omega)))
        | (refine ⟨rfl, [It.gr (s1 ++ s2) [] [q1 + 1]], r2, congrArg (fun z => AV.tup [AV.str z, _]) ?_, Dx.grp hd2 hs1 hs2 (q1 + 1) (by omega), ?_⟩; exact Dx.grp_tx s1 s2 q1 lq1; (first | exact hl2l | omega | (simp only [List.length_cons] at *; omega)))
      · refine W.seq ?_
        refine W.region ?_
        refine W.q (Ev.move (.t rfl)) rfl ?_
        refine W.q (Ev.eqi (.t rfl) .k) rfl ?_
        refine W.q (Ev.assign (.t rfl)) rfl ?_
        refine W.nil ?_
        refine W.then ?_
        refine W.cond (.t rfl) (fun hc_t60 => ?_) (fun hc_t60 => ?_)
        · refine W.seq ?_
          refine W.region ?_
          refine W.q (Ev.move (.t rfl)) rfl ?_
          refine W.q (Ev.cat .k (.t rfl) (fun _ => by ((simp [-List.length_flatMap]; omega)))) rfl ?_
          refine W.q (Ev.cat (.t rfl) .k (fun _ => by ((simp [-List.length_flatMap]; omega)))) rfl ?_
          refine W.q (Ev.move (.t rfl)) rfl ?_
          refine W.q (Ev.cat (.t rfl) (.t rfl) (fun _ => by ((simp [-List.length_flatMap]; omega)))) rfl ?_
          refine W.q (Ev.cat (.t rfl) .k (fun _ => by ((simp [-List.length_flatMap]; omega)))) rfl ?_
          refine W.q (Ev.move (.t rfl)) rfl ?_
          refine W.q (Ev.assign (.t rfl)) rfl ?_
          refine W.q (Ev.assign (.t rfl)) rfl ?_
          refine W.nil ?_
          refine W.then ?_
          refine W.ret ?_
          refine W.blk_ret ?_
          refine W.then_ret ?_
          refine W.retn (M' := []) (rs := [.tmp 4, .tmp 5]) (avs := [_, _]) Tryd.results7 ⟨rfl, rfl, trivial⟩ rfl (.refl _) ?_
          first
          | (refine ⟨rfl, [It.ch n1 (Dx.sf4 p1)], l2, congrArg (fun z => AV.tup [AV.str z, _]) ?_, Dx.leaf d n1 _ ln1 (Dx.sf4_in p1), hl2l⟩; rw [hn1]; exact Dx.leaf_tx n1 p1 ln1 lp1)
          | (refine ⟨rfl, s1 ++ s2, r2, congrArg (fun z => AV.tup [AV.str z, _]) ?_, Dx.cat hd2 hs1 hs2, ?_⟩; exact (It.stx_append s1 s2).symm; (first | exact hl2l | omega | (simp only [List.length_cons] at *; omega)))
          | (refine ⟨rfl, [It.gr s1 [s2] []], r2, congrArg (fun z => AV.tup [AV.str z, _]) ?_, Dx.alt hd2 hs1 hs2 [] (.inl rfl), ?_⟩; exact Dx.alt_tx s1 s2; ((omega)))
          | (refine ⟨rfl, [It.gr s1 [s2] [0]], r2, congrArg (fun z => AV.tup [AV.str z, _]) ?_, Dx.alt hd2 hs1 hs2 [0] (.inr rfl), ?_⟩; exact Dx.alts_tx s1 s2; (first | exact hl2l | omega | (simp only [List.length_cons] at *; omega)))
          | (refine ⟨rfl, [It.gr (s1 ++ s2) [] [q1 + 1]], r2, congrArg (fun z => AV.tup [AV.str z, _]) ?_, Dx.grp hd2 hs1 hs2 (q1 + 1) (by omega), ?_⟩; exact Dx.grp_tx s1 s2 q1 lq1; (first | exact hl2l | omega | (simp only [List.length_cons] at *; omega)))
        · refine W.seq ?_
          refine W.region ?_
          refine W.q (Ev.move (.t rfl)) rfl ?_
          refine W.q (Ev.eqi (.t rfl) .k) rfl ?_
          refine W.q (Ev.assign (.t rfl)) rfl ?_
          refine W.nil ?_
          refine W.then ?_
          refine W.cond (.t rfl) (fun hc_t70 => ?_) (fun hc_t70 => ?_)
          · refine W.seq ?_
            refine W.region ?_
            refine W.q (Ev.move (.t rfl)) rfl ?_
            refine W.q (Ev.cat .k (.t rfl) (fun _ => by ((simp [-List.length_flatMap]; omega)))) rfl ?_
            refine W.q (Ev.cat (.t rfl) .k (fun _ => by ((simp [-List.length_flatMap]; omega)))) rfl ?_
            refine W.q (Ev.move (.t rfl)) rfl ?_
            refine W.q (Ev.cat (.t rfl) (.t rfl) (fun _ => by ((simp [-List.length_flatMap]; omega)))) rfl ?_
            refine W.q (Ev.cat (.t rfl) .k (fun _ => by ((simp [-List.length_flatMap]; omega)))) rfl ?_
            refine W.q (Ev.move (.t rfl)) rfl ?_
            refine W.q (Ev.assign (.t rfl)) rfl ?_
            refine W.q (Ev.assign (.t rfl)) rfl ?_
            refine W.nil ?_
            refine W.then ?_
            refine W.ret ?_
            refine W.blk_ret ?_
            refine W.then_ret ?_
            refine W.retn (M' := []) (rs := [.tmp 4, .tmp 5]) (avs := [_, _]) Tryd.results7 ⟨rfl, rfl, trivial⟩ rfl (.refl _) ?_
            first
            | (refine ⟨rfl, [It.ch n1 (Dx.sf4 p1)], l2, congrArg (fun z => AV.tup [AV.str z, _]) ?_, Dx.leaf d n1 _ ln1 (Dx.sf4_in p1), hl2l⟩; rw [hn1]; exact Dx.leaf_tx n1 p1 ln1 lp1)
            | (refine ⟨rfl, s1 ++ s2, r2, congrArg (fun z => AV.tup [AV.str z, _]) ?_, Dx.cat hd2 hs1 hs2, ?_⟩; exact (It.stx_append s1 s2).symm; (first | exact hl2l | omega | (simp only [List.length_cons] at *; omega)))
            | (refine ⟨rfl, [It.gr s1 [s2] []], r2, congrArg (fun z => AV.tup [AV.str z, _]) ?_, Dx.alt hd2 hs1 hs2 [] (.inl rfl), ?_⟩; exact Dx.alt_tx s1 s2; (first | exact hl2l | omega | (simp only [List.length_cons] at *; omega)))
            | (refine ⟨rfl, [It.gr s1 [s2] [0]], r2, congrArg (fun z => AV.tup [AV.str z, _]) ?_, Dx.alt hd2 hs1 hs2 [0] (.inr rfl), ?_⟩; exact Dx.alts_tx s1 s2; ((omega)))
            | (refine ⟨rfl, [It.gr (s1 ++ s2) [] [q1 + 1]], r2, congrArg (fun z => AV.tup [AV.str z, _]) ?_, Dx.grp hd2 hs1 hs2 (q1 + 1) (by omega), ?_⟩; exact Dx.grp_tx s1 s2 q1 lq1; (first | exact hl2l | omega | (simp only [List.length_cons] at *; omega)))
          · refine W.skip ?_
            refine W.blk_normal ?_
            refine W.then ?_
            refine W.seq ?_
            refine W.region ?_
            refine W.q (Ev.move (.t rfl)) rfl ?_
            refine W.q (Ev.cat .k (.t rfl) (fun _ => by ((simp [-List.length_flatMap]; omega)))) rfl ?_
            refine W.q (Ev.move (.t rfl)) rfl ?_
            refine W.q (Ev.cat (.t rfl) (.t rfl) (fun _ => by ((simp [-List.length_flatMap]; omega)))) rfl ?_
            refine W.q (Ev.cat (.t rfl) .k (fun _ => by ((simp [-List.length_flatMap]; omega)))) rfl ?_
            refine W.bs (es := [_, _]) Tryd.underlying46 ty9 ⟨rfl, .k, rfl, rfl, rfl, .k, rfl, rfl, trivial⟩ rfl (by decide) rfl rfl ?_
            refine W.q (Ev.move (.t rfl)) rfl ?_
            (refine W.q (Ev.quo (.t rfl) .k (fun _ => by decide)) rfl ?_)
            refine W.callp (Base.c_Picked (IntKind.i64.wrap (x.tdiv 9)) 2 (by decide) (by decide)) ⟨(.t rfl), .k, trivial⟩ rfl ?_
            refine W.q (Ev.at (E := 9) (.t rfl) (.t rfl) Tryd.underlying46 ty9 (e := .str ([[43], [63]].getD q1 [])) (fun _ => ⟨by omega, by rw [hq1, Int.toNat_natCast]; exact getD_mapG AV.str [] [[43], [63]] q1 lq1⟩) rfl rfl) rfl ?_
            (refine W.q (Ev.lde1 (.t rfl) ag9) rfl ?_)
            refine W.q (Ev.cat (.t rfl) (.t rfl) (fun _ => by have h1 := hL2 q1 lq1; simp only [List.length_append, List.length_cons, List.length_nil]; omega)) rfl ?_
            refine W.q (Ev.move (.t rfl)) rfl ?_
            refine W.q (Ev.assign (.t rfl)) rfl ?_
            refine W.q (Ev.assign (.t rfl)) rfl ?_
            refine W.nil ?_
            refine W.then ?_
            refine W.ret ?_
            refine W.retn (M' := []) (rs := [.tmp 4, .tmp 5]) (avs := [_, _]) Tryd.results7 ⟨rfl, rfl, trivial⟩ rfl (.refl _) ?_
            first
            | (refine ⟨rfl, [It.ch n1 (Dx.sf4 p1)], l2, congrArg (fun z => AV.tup [AV.str z, _]) ?_, Dx.leaf d n1 _ ln1 (Dx.sf4_in p1), hl2l⟩; rw [hn1]; exact Dx.leaf_tx n1 p1 ln1 lp1)
            | (refine ⟨rfl, s1 ++ s2, r2, congrArg (fun z => AV.tup [AV.str z, _]) ?_, Dx.cat hd2 hs1 hs2, ?_⟩; exact (It.stx_append s1 s2).symm; (first | exact hl2l | omega | (simp only [List.length_cons] at *; omega)))
            | (refine ⟨rfl, [It.gr s1 [s2] []], r2, congrArg (fun z => AV.tup [AV.str z, _]) ?_, Dx.alt hd2 hs1 hs2 [] (.inl rfl), ?_⟩; exact Dx.alt_tx s1 s2; (first | exact hl2l | omega | (simp only [List.length_cons] at *; omega)))
            | (refine ⟨rfl, [It.gr s1 [s2] [0]], r2, congrArg (fun z => AV.tup [AV.str z, _]) ?_, Dx.alt hd2 hs1 hs2 [0] (.inr rfl), ?_⟩; exact Dx.alts_tx s1 s2; (first | exact hl2l | omega | (simp only [List.length_cons] at *; omega)))
            | (refine ⟨rfl, [It.gr (s1 ++ s2) [] [q1 + 1]], r2, congrArg (fun z => AV.tup [AV.str z, _]) ?_, Dx.grp hd2 hs1 hs2 (q1 + 1) (by omega), ?_⟩; exact Dx.grp_tx s1 s2 q1 lq1; ((omega)))
  · obtain ⟨x, hx⟩ : ∃ x : Int, x = 0 := ⟨0, rfl⟩
    refine W.is (t := 6) (g := true) (av' := .int x) rfl (congrArg AV.int hx.symm) ?_
    obtain ⟨l2, hl2⟩ : ∃ l2 : List Int, l2 = l := ⟨l, rfl⟩
    refine W.is (t := 0) (g := true) (av' := .sl 1 (l2.map AV.int)) rfl (by rw [hl2]) ?_
    have hl2l : l2.length ≤ l.length := by rw [hl2]; exact Nat.le_refl _
    refine W.skip ?_
    refine W.then ?_
    refine W.seq ?_
    refine W.region ?_
    refine W.q (Ev.move (.t rfl)) rfl ?_
    refine W.callp (Base.c_Picked x 9 (by decide) (by decide)) ⟨(.t rfl), .k, trivial⟩ rfl ?_
    refine W.q (Ev.assign (.t rfl)) rfl ?_
    refine W.nil ?_
    obtain ⟨k9, hk9, lk9⟩ : ∃ k : Nat, x % 9 = (k : Int) ∧ k < 9 := ⟨(x % 9).toNat, by have := Int.emod_nonneg x (show (9 : Int) ≠ 0 by decide); omega, by have := Int.emod_lt_of_pos x (show (0 : Int) < 9 by decide); omega⟩
    refine W.is (t := 7) (g := true) (av' := .int (k9 : Int)) rfl (congrArg AV.int hk9) ?_
    refine W.then ?_
    refine W.seq ?_
    refine W.seq ?_
    refine W.region ?_
    refine W.q (Ev.move (.t rfl)) rfl ?_
    refine W.q (Ev.lei (.t rfl) .k) rfl ?_
    refine W.q (Ev.move (.t rfl)) rfl ?_
    refine W.qgF rfl rfl (Ev.move (.t rfl)) rfl ?_
    refine W.qgF rfl rfl (Ev.lti (.c rfl) .k) rfl ?_
    refine W.q (Ev.or (.t rfl) ⟨_, _, rfl, rfl, by ((simp; done))⟩) rfl ?_
    refine W.nil ?_
    refine W.then ?_
    refine W.cond (.t rfl) (fun hc_t25 => ?_) (fun hc_t25 => ?_)
    · obtain ⟨n1, hn1, ln1⟩ : ∃ k : Nat, IntKind.i64.wrap (x.tdiv 9) % 3 = (k : Int) ∧ k < 3 := ⟨(IntKind.i64.wrap (x.tdiv 9) % 3).toNat, by have := Int.emod_nonneg (IntKind.i64.wrap (x.tdiv 9)) (show (3 : Int) ≠ 0 by decide); omega, by have := Int.emod_lt_of_pos (IntKind.i64.wrap (x.tdiv 9)) (show (0 : Int) < 3 by decide); omega⟩
      obtain ⟨p1, hp1, lp1⟩ : ∃ k : Nat, IntKind.i64.wrap (x.tdiv 27) % 4 = (k : Int) ∧ k < 4 := ⟨(IntKind.i64.wrap (x.tdiv 27) % 4).toNat, by have := Int.emod_nonneg (IntKind.i64.wrap (x.tdiv 27)) (show (4 : Int) ≠ 0 by decide); omega, by have := Int.emod_lt_of_pos (IntKind.i64.wrap (x.tdiv 27)) (show (0 : Int) < 4 by decide); omega⟩
      have hL4 : ∀ k, k < 4 → ([[], [], [42], [63]].getD k [] : List UInt8).length ≤ 1 := by decide
      refine W.seq ?_
      refine W.drawnE (ι := Unit) (fun _ _ => _) 15 () (by kernel_rfl) (by kernel_rfl) rfl ?_
      refine DE.q (fun e c hk => (Ev.move (.t rfl))) rfl (fun _ _ => rfl) (by (exact .inr (fun _ _ => rfl))) ?_
      (refine DE.q (fun e c hk => (Ev.quo (.t rfl) .k (fun _ => by decide))) rfl (fun _ _ => rfl) (by (exact .inr (fun _ _ => rfl))) ?_)
      refine DE.callp (fun c => Base.c_Picked (IntKind.i64.wrap (x.tdiv 9)) 3 (by decide) (by decide)) (fun c => ⟨(.t rfl), .k, trivial⟩) rfl (fun _ _ => rfl) (by (exact .inr (fun _ _ => rfl))) ?_
      refine DE.q (fun e c hk => Ev.subs (lo := some (.tmp 28)) (hi := none) .k Tryd.underlying9 (.t rfl) rfl (fun _ => ⟨by omega, by show _ ≤ (3 : Int); omega, Int.le_refl _⟩)) rfl (fun _ _ => rfl) (by (exact .inr (fun _ _ => rfl))) ?_
      refine DE.q (fun e c hk => Ev.subs (lo := none) (hi := some (.const (.int .i64 1))) (.t rfl) Tryd.underlying9 rfl (Ov.k (g := true) (L := [])) (fun _ => ⟨by decide, by decide, by rw [hn1]; simp; omega⟩)) rfl (fun _ _ => rfl) (by (exact .inr (fun _ _ => rfl))) ?_
      refine DE.bs (es := fun _ => [_, _, _, _]) Tryd.underlying46 ty9 (fun c => ⟨rfl, .k, rfl, rfl, rfl, .k, rfl, rfl, rfl, .k, rfl, rfl, rfl, .k, rfl, rfl, trivial⟩) (fun _ => rfl) (by decide) rfl rfl (fun _ _ => rfl) (by (exact .inr (fun _ _ => rfl))) ?_
      refine DE.q (fun e c hk => (Ev.move (.t rfl))) rfl (fun _ _ => rfl) (by (exact .inr (fun _ _ => rfl))) ?_
      (refine DE.q (fun e c hk => (Ev.quo (.t rfl) .k (fun _ => by decide))) rfl (fun _ _ => rfl) (by (exact .inr (fun _ _ => rfl))) ?_)
      refine DE.callp (fun c => Base.c_Picked (IntKind.i64.wrap (x.tdiv 27)) 4 (by decide) (by decide)) (fun c => ⟨(.t rfl), .k, trivial⟩) rfl (fun _ _ => rfl) (by (exact .inr (fun _ _ => rfl))) ?_
      refine DE.q (fun e c hk => Ev.at (E := 9) (.t rfl) (.t rfl) Tryd.underlying46 ty9 (e := .str ([[], [], [42], [63]].getD p1 [])) (fun _ => ⟨by omega, by rw [hp1, Int.toNat_natCast]; exact getD_mapG AV.str [] [[], [], [42], [63]] p1 lp1⟩) rfl rfl) rfl (fun _ _ => rfl) (by (exact .inr (fun _ _ => rfl))) ?_
      (refine DE.q (fun e c hk => (Ev.lde1 (.t rfl) ag9)) rfl (fun _ _ => rfl) (by (exact .inr (fun _ _ => rfl))) ?_)
      refine DE.q (fun e c hk => Ev.cat (.t rfl) (.t rfl) (fun _ => by have h1 := hL4 p1 lp1; simp only [List.length_drop, List.length_take]; omega)) rfl (fun _ _ => rfl) (by (exact .inr (fun _ _ => rfl))) ?_
      refine DE.q (fun e c hk => (Ev.move (.t rfl))) rfl (fun _ _ => rfl) (by (exact .inr (fun _ _ => rfl))) ?_
      refine DE.q (fun e c hk => (Ev.assign (.t rfl))) rfl (fun _ _ => rfl) (by (exact .inr (fun _ _ => rfl))) ?_
      refine DE.q (fun e c hk => (Ev.assign (.t rfl))) rfl (fun _ _ => rfl) (by (exact .inr (fun _ _ => rfl))) ?_
      refine DE.nil (fun c_ e_ he_ => ?_)
      dsimp only
      refine W.then ?_
      refine W.ret ?_
      refine W.then_ret ?_
      refine W.retn (M' := []) (rs := [.tmp 4, .tmp 5]) (avs := [_, _]) Tryd.results7 ⟨rfl, rfl, trivial⟩ rfl (.refl _) ?_
      first
      | (refine ⟨rfl, [It.ch n1 (Dx.sf4 p1)], l2, congrArg (fun z => AV.tup [AV.str z, _]) ?_, Dx.leaf d n1 _ ln1 (Dx.sf4_in p1), hl2l⟩; rw [hn1]; exact Dx.leaf_tx n1 p1 ln1 lp1)
      | (refine ⟨rfl, s1 ++ s2, r2, congrArg (fun z => AV.tup [AV.str z, _]) ?_, Dx.cat hd2 hs1 hs2, ?_⟩; exact (It.stx_append s1 s2).symm; (first | exact hl2l | omega | (simp only [List.length_cons] at *; omega)))
      | (refine ⟨rfl, [It.gr s1 [s2] []], r2, congrArg (fun z => AV.tup [AV.str z, _]) ?_, Dx.alt hd2 hs1 hs2 [] (.inl rfl), ?_⟩; exact Dx.alt_tx s1 s2; (first | exact hl2l | omega | (simp only [List.length_cons] at *; omega)))
      | (refine ⟨rfl, [It.gr s1 [s2] [0]], r2, congrArg (fun z => AV.tup [AV.str z, _]) ?_, Dx.alt hd2 hs1 hs2 [0] (.inr rfl), ?_⟩; exact Dx.alts_tx s1 s2; (first | exact hl2l | omega | (simp only [List.length_cons] at *; omega)))
      | (refine ⟨rfl, [It.gr (s1 ++ s2) [] [q1 + 1]], r2, congrArg (fun z => AV.tup [AV.str z, _]) ?_, Dx.grp hd2 hs1 hs2 (q1 + 1) (by omega), ?_⟩; exact Dx.grp_tx s1 s2 q1 lq1; (first | exact hl2l | omega | (simp only [List.length_cons] at *; omega)))
    · have h25 := hc_t25
      simp only [Bool.or_eq_false_iff, decide_eq_false_iff_not] at h25
      have hd2 : 2 ≤ d := by omega
      obtain ⟨q1, hq1, lq1⟩ : ∃ k : Nat, IntKind.i64.wrap (x.tdiv 9) % 2 = (k : Int) ∧ k < 2 := ⟨(IntKind.i64.wrap (x.tdiv 9) % 2).toNat, by have := Int.emod_nonneg (IntKind.i64.wrap (x.tdiv 9)) (show (2 : Int) ≠ 0 by decide); omega, by have := Int.emod_lt_of_pos (IntKind.i64.wrap (x.tdiv 9)) (show (0 : Int) < 2 by decide); omega⟩
      have hL2 : ∀ k, k < 2 → ([[43], [63]].getD k [] : List UInt8).length ≤ 1 := by decide
      refine W.skip ?_
      refine W.then ?_
      refine W.seq ?_
      refine W.region ?_
      refine W.q (Ev.move (.t rfl)) rfl ?_
      refine W.q (Ev.move (.t rfl)) rfl ?_
      refine W.q (Ev.sub (.t rfl) .k (fun _ => by omega)) rfl ?_
      refine W.is (t := 42) (g := true) (av' := .int ((d - 1 : Nat) : Int)) rfl (congrArg AV.int (by omega)) ?_
      refine W.call (ih hd2 l2 (by omega)) ⟨(.t rfl), (.t rfl), trivial⟩ (.refl _) rfl ?_
      rintro _ _ ⟨rfl, s1, r1, rfl, hs1, hr1⟩
      refine W.q (Ev.move (.t rfl)) rfl ?_
      refine W.q (Ev.extract (.t rfl) rfl) rfl ?_
      refine W.q (Ev.extract (.t rfl) rfl) rfl ?_
      refine W.q (Ev.assign (.t rfl)) rfl ?_
      refine W.q (Ev.assign (.t rfl)) rfl ?_
      refine W.nil ?_
      refine W.then ?_
      refine W.seq ?_
      refine W.region ?_
      refine W.q (Ev.move (.t rfl)) rfl ?_
      refine W.q (Ev.move (.t rfl)) rfl ?_
      refine W.q (Ev.sub (.t rfl) .k (fun _ => by omega)) rfl ?_
      refine W.is (t := 49) (g := true) (av' := .int ((d - 1 : Nat) : Int)) rfl (congrArg AV.int (by omega)) ?_
      refine W.call (ih hd2 r1 (by omega)) ⟨(.t rfl), (.t rfl), trivial⟩ (.refl _) rfl ?_
      rintro _ _ ⟨rfl, s2, r2, rfl, hs2, hr2⟩
      have hl1 := hs1.len
      have hl2 := hs2.len
      have htd := (tb_step d hd2).1
      have htm := tb_small d hd
      refine W.q (Ev.move (.t rfl)) rfl ?_
      refine W.q (Ev.extract (.t rfl) rfl) rfl ?_
      refine W.q (Ev.extract (.t rfl) rfl) rfl ?_
      refine W.q (Ev.assign (.t rfl)) rfl ?_
      refine W.q (Ev.assign (.t rfl)) rfl ?_
      refine W.nil ?_
      refine W.then ?_
      refine W.seq ?_
      refine W.block ?_
      refine W.seq ?_
      refine W.region ?_
      refine W.q (Ev.move (.t rfl)) rfl ?_
      refine W.q (Ev.lti (.t rfl) .k) rfl ?_
      refine W.q (Ev.assign (.t rfl)) rfl ?_
      refine W.nil ?_
      refine W.then ?_
      refine W.cond (.t rfl) (fun hc_t53 => ?_) (fun hc_t53 => ?_)
      · refine W.seq ?_
        refine W.region ?_
        refine W.q (Ev.move (.t rfl)) rfl ?_
        refine W.q (Ev.move (.t rfl)) rfl ?_
        refine W.q (Ev.cat (.t rfl) (.t rfl) (fun _ => by (omega))) rfl ?_
        refine W.q (Ev.move (.t rfl)) rfl ?_
        refine W.q (Ev.assign (.t rfl)) rfl ?_
        refine W.q (Ev.assign (.t rfl)) rfl ?_
        refine W.nil ?_
        refine W.then ?_
        refine W.ret ?_
        refine W.blk_ret ?_
        refine W.then_ret ?_
        refine W.retn (M' := []) (rs := [.tmp 4, .tmp 5]) (avs := [_, _]) Tryd.results7 ⟨rfl, rfl, trivial⟩ rfl (.refl _) ?_
        first
        | (refine ⟨rfl, [It.ch n1 (Dx.sf4 p1)], l2, congrArg (fun z => AV.tup [AV.str z, _]) ?_, Dx.leaf d n1 _ ln1 (Dx.sf4_in p1), hl2l⟩; rw [hn1]; exact Dx.leaf_tx n1 p1 ln1 lp1)
        | (refine ⟨rfl, s1 ++ s2, r2, congrArg (fun z => AV.tup [AV.str z, _]) ?_, Dx.cat hd2 hs1 hs2, ?_⟩; exact (It.stx_append s1 s2).symm; ((omega)))
        | (refine ⟨rfl, [It.gr s1 [s2] []], r2, congrArg (fun z => AV.tup [AV.str z, _]) ?_, Dx.alt hd2 hs1 hs2 [] (.inl rfl), ?_⟩; exact Dx.alt_tx s1 s2; (first | exact hl2l | omega | (simp only [List.length_cons] at *; omega)))
        | (refine ⟨rfl, [It.gr s1 [s2] [0]], r2, congrArg (fun z => AV.tup [AV.str z, _]) ?_, Dx.alt hd2 hs1 hs2 [0] (.inr rfl), ?_⟩; exact Dx.alts_tx s1 s2; (first | exact hl2l | omega | (simp only [List.length_cons] at *; omega)))
        | (refine ⟨rfl, [It.gr (s1 ++ s2) [] [q1 + 1]], r2, congrArg (fun z => AV.tup [AV.str z, _]) ?_, Dx.grp hd2 hs1 hs2 (q1 + 1) (by omega), ?_⟩; exact Dx.grp_tx s1 s2 q1 lq1; (first | exact hl2l | omega | (simp only [List.length_cons] at *; omega)))
      · refine W.seq ?_
        refine W.region ?_
        refine W.q (Ev.move (.t rfl)) rfl ?_
        refine W.q (Ev.eqi (.t rfl) .k) rfl ?_
        refine W.q (Ev.assign (.t rfl)) rfl ?_
        refine W.nil ?_
        refine W.then ?_
        refine W.cond (.t rfl) (fun hc_t60 => ?_) (fun hc_t60 => ?_)
        · refine W.seq ?_
          refine W.region ?_
          refine W.q (Ev.move (.t rfl)) rfl ?_
          refine W.q (Ev.cat .k (.t rfl) (fun _ => by (omega))) rfl ?_
          refine W.q (Ev.cat (.t rfl) .k (fun _ => by (omega))) rfl ?_
          refine W.q (Ev.move (.t rfl)) rfl ?_
          refine W.q (Ev.cat (.t rfl) (.t rfl) (fun _ => by (omega))) rfl ?_
          refine W.q (Ev.cat (.t rfl) .k (fun _ => by (omega))) rfl ?_
          refine W.q (Ev.move (.t rfl)) rfl ?_
          refine W.q (Ev.assign (.t rfl)) rfl ?_
          refine W.q (Ev.assign (.t rfl)) rfl ?_
          refine W.nil ?_
          refine W.then ?_
          refine W.ret ?_
          refine W.blk_ret ?_
          refine W.then_ret ?_
          refine W.retn (M' := []) (rs := [.tmp 4, .tmp 5]) (avs := [_, _]) Tryd.results7 ⟨rfl, rfl, trivial⟩ rfl (.refl _) ?_
          first
          | (refine ⟨rfl, [It.ch n1 (Dx.sf4 p1)], l2, congrArg (fun z => AV.tup [AV.str z, _]) ?_, Dx.leaf d n1 _ ln1 (Dx.sf4_in p1), hl2l⟩; rw [hn1]; exact Dx.leaf_tx n1 p1 ln1 lp1)
          | (refine ⟨rfl, s1 ++ s2, r2, congrArg (fun z => AV.tup [AV.str z, _]) ?_, Dx.cat hd2 hs1 hs2, ?_⟩; exact (It.stx_append s1 s2).symm; (first | exact hl2l | omega | (simp only [List.length_cons] at *; omega)))
          | (refine ⟨rfl, [It.gr s1 [s2] []], r2, congrArg (fun z => AV.tup [AV.str z, _]) ?_, Dx.alt hd2 hs1 hs2 [] (.inl rfl), ?_⟩; exact Dx.alt_tx s1 s2; ((omega)))
          | (refine ⟨rfl, [It.gr s1 [s2] [0]], r2, congrArg (fun z => AV.tup [AV.str z, _]) ?_, Dx.alt hd2 hs1 hs2 [0] (.inr rfl), ?_⟩; exact Dx.alts_tx s1 s2; (first | exact hl2l | omega | (simp only [List.length_cons] at *; omega)))
          | (refine ⟨rfl, [It.gr (s1 ++ s2) [] [q1 + 1]], r2, congrArg (fun z => AV.tup [AV.str z, _]) ?_, Dx.grp hd2 hs1 hs2 (q1 + 1) (by omega), ?_⟩; exact Dx.grp_tx s1 s2 q1 lq1; (first | exact hl2l | omega | (simp only [List.length_cons] at *; omega)))
        · refine W.seq ?_
          refine W.region ?_
          refine W.q (Ev.move (.t rfl)) rfl ?_
          refine W.q (Ev.eqi (.t rfl) .k) rfl ?_
          refine W.q (Ev.assign (.t rfl)) rfl ?_
          refine W.nil ?_
          refine W.then ?_
          refine W.cond (.t rfl) (fun hc_t70 => ?_) (fun hc_t70 => ?_)
          · refine W.seq ?_
            refine W.region ?_
            refine W.q (Ev.move (.t rfl)) rfl ?_
            refine W.q (Ev.cat .k (.t rfl) (fun _ => by (omega))) rfl ?_
            refine W.q (Ev.cat (.t rfl) .k (fun _ => by (omega))) rfl ?_
            refine W.q (Ev.move (.t rfl)) rfl ?_
            refine W.q (Ev.cat (.t rfl) (.t rfl) (fun _ => by (omega))) rfl ?_
            refine W.q (Ev.cat (.t rfl) .k (fun _ => by (omega))) rfl ?_
            refine W.q (Ev.move (.t rfl)) rfl ?_
            refine W.q (Ev.assign (.t rfl)) rfl ?_
            refine W.q (Ev.assign (.t rfl)) rfl ?_
            refine W.nil ?_
            refine W.then ?_
            refine W.ret ?_
            refine W.blk_ret ?_
            refine W.then_ret ?_
            refine W.retn (M' := []) (rs := [.tmp 4, .tmp 5]) (avs := [_, _]) Tryd.results7 ⟨rfl, rfl, trivial⟩ rfl (.refl _) ?_
            first
            | (refine ⟨rfl, [It.ch n1 (Dx.sf4 p1)], l2, congrArg (fun z => AV.tup [AV.str z, _]) ?_, Dx.leaf d n1 _ ln1 (Dx.sf4_in p1), hl2l⟩; rw [hn1]; exact Dx.leaf_tx n1 p1 ln1 lp1)
            | (refine ⟨rfl, s1 ++ s2, r2, congrArg (fun z => AV.tup [AV.str z, _]) ?_, Dx.cat hd2 hs1 hs2, ?_⟩; exact (It.stx_append s1 s2).symm; (first | exact hl2l | omega | (simp only [List.length_cons] at *; omega)))
            | (refine ⟨rfl, [It.gr s1 [s2] []], r2, congrArg (fun z => AV.tup [AV.str z, _]) ?_, Dx.alt hd2 hs1 hs2 [] (.inl rfl), ?_⟩; exact Dx.alt_tx s1 s2; (first | exact hl2l | omega | (simp only [List.length_cons] at *; omega)))
            | (refine ⟨rfl, [It.gr s1 [s2] [0]], r2, congrArg (fun z => AV.tup [AV.str z, _]) ?_, Dx.alt hd2 hs1 hs2 [0] (.inr rfl), ?_⟩; exact Dx.alts_tx s1 s2; ((omega)))
            | (refine ⟨rfl, [It.gr (s1 ++ s2) [] [q1 + 1]], r2, congrArg (fun z => AV.tup [AV.str z, _]) ?_, Dx.grp hd2 hs1 hs2 (q1 + 1) (by omega), ?_⟩; exact Dx.grp_tx s1 s2 q1 lq1; (first | exact hl2l | omega | (simp only [List.length_cons] at *; omega)))
          · refine W.skip ?_
            refine W.blk_normal ?_
            refine W.then ?_
            refine W.seq ?_
            refine W.region ?_
            refine W.q (Ev.move (.t rfl)) rfl ?_
            refine W.q (Ev.cat .k (.t rfl) (fun _ => by (omega))) rfl ?_
            refine W.q (Ev.move (.t rfl)) rfl ?_
            refine W.q (Ev.cat (.t rfl) (.t rfl) (fun _ => by (omega))) rfl ?_
            refine W.q (Ev.cat (.t rfl) .k (fun _ => by (omega))) rfl ?_
            refine W.bs (es := [_, _]) Tryd.underlying46 ty9 ⟨rfl, .k, rfl, rfl, rfl, .k, rfl, rfl, trivial⟩ rfl (by decide) rfl rfl ?_
            refine W.q (Ev.move (.t rfl)) rfl ?_
            (refine W.q (Ev.quo (.t rfl) .k (fun _ => by decide)) rfl ?_)
            refine W.callp (Base.c_Picked (IntKind.i64.wrap (x.tdiv 9)) 2 (by decide) (by decide)) ⟨(.t rfl), .k, trivial⟩ rfl ?_
            refine W.q (Ev.at (E := 9) (.t rfl) (.t rfl) Tryd.underlying46 ty9 (e := .str ([[43], [63]].getD q1 [])) (fun _ => ⟨by omega, by rw [hq1, Int.toNat_natCast]; exact getD_mapG AV.str [] [[43], [63]] q1 lq1⟩) rfl rfl) rfl ?_
            (refine W.q (Ev.lde1 (.t rfl) ag9) rfl ?_)
            refine W.q (Ev.cat (.t rfl) (.t rfl) (fun _ => by have h1 := hL2 q1 lq1; simp only [List.length_append, List.length_cons, List.length_nil]; omega)) rfl ?_
            refine W.q (Ev.move (.t rfl)) rfl ?_
            refine W.q (Ev.assign (.t rfl)) rfl ?_
            refine W.q (Ev.assign (.t rfl)) rfl ?_
            refine W.nil ?_
            refine W.then ?_
            refine W.ret ?_
            refine W.retn (M' := []) (rs := [.tmp 4, .tmp 5]) (avs := [_, _]) Tryd.results7 ⟨rfl, rfl, trivial⟩ rfl (.refl _) ?_
            first
            | (refine ⟨rfl, [It.ch n1 (Dx.sf4 p1)], l2, congrArg (fun z => AV.tup [AV.str z, _]) ?_, Dx.leaf d n1 _ ln1 (Dx.sf4_in p1), hl2l⟩; rw [hn1]; exact Dx.leaf_tx n1 p1 ln1 lp1)
            | (refine ⟨rfl, s1 ++ s2, r2, congrArg (fun z => AV.tup [AV.str z, _]) ?_, Dx.cat hd2 hs1 hs2, ?_⟩; exact (It.stx_append s1 s2).symm; (first | exact hl2l | omega | (simp only [List.length_cons] at *; omega)))
            | (refine ⟨rfl, [It.gr s1 [s2] []], r2, congrArg (fun z => AV.tup [AV.str z, _]) ?_, Dx.alt hd2 hs1 hs2 [] (.inl rfl), ?_⟩; exact Dx.alt_tx s1 s2; (first | exact hl2l | omega | (simp only [List.length_cons] at *; omega)))
            | (refine ⟨rfl, [It.gr s1 [s2] [0]], r2, congrArg (fun z => AV.tup [AV.str z, _]) ?_, Dx.alt hd2 hs1 hs2 [0] (.inr rfl), ?_⟩; exact Dx.alts_tx s1 s2; (first | exact hl2l | omega | (simp only [List.length_cons] at *; omega)))
            | (refine ⟨rfl, [It.gr (s1 ++ s2) [] [q1 + 1]], r2, congrArg (fun z => AV.tup [AV.str z, _]) ?_, Dx.grp hd2 hs1 hs2 (q1 + 1) (by omega), ?_⟩; exact Dx.grp_tx s1 s2 q1 lq1; ((omega)))

theorem c_ExprText : ∀ d : Nat, d ≤ 10 → ∀ l : List Int, l.length ≤ 1048576 → FnC Tryd.prog 7 [.sl 1 ((l).map AV.int), .int ((d : Nat) : Int)] [] (fun r M => M = [] ∧ ∃ (s : List It) (rest : List Int), r = .tup [.str (It.stx s), .sl 1 (rest.map AV.int)] ∧ Dx (d) s ∧ rest.length ≤ (l).length) := by
  intro d
  induction d using Nat.strongRecOn with
  | _ d ih => exact fun hd l hl => c_ExprText_step d hd (fun h2 l hl => ih (d - 1) (by omega) (by omega) l hl) l hl

end WDrawX

end Go.Proofs.YtacaemfkdieocaaDoor
end
