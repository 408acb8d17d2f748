/-
  Rules that may be.
-/
import Derived.Test.YteepllfbnoaiaaaDrawn
import Derived.Test.YteepllfbnoaiaaaPick
import Derived.Test.YteepllfbnoaiaaaWName
set_option linter.unusedVariables false
set_option linter.unusedSimpArgs false
set_option maxRecDepth 100000
namespace Go.Proofs.Yteepllfbnoaiaaa
open Go.Vl

namespace WRules
theorem ty3 : Ty Try.prog 3 1 8 (.int .i64 0) := Ty.of (by kernel_rfl)
theorem ty9 : Ty Try.prog 9 1 16 (.string ⟨#[]⟩) := Ty.of (by kernel_rfl)
theorem ty51 : Ty Try.prog 51 3 40 (.agg #[.string ⟨#[]⟩, .int .i64 0, .string ⟨#[]⟩]) := Ty.of (by kernel_rfl)
theorem ag3 : IsAgg Try.prog 3 false := ⟨_, Try.underlying3, rfl⟩
theorem ag9 : IsAgg Try.prog 9 false := ⟨_, Try.underlying9, rfl⟩
theorem ag51 : IsAgg Try.prog 51 true := ⟨_, Try.underlying51, rfl⟩
theorem fa51_0 : FieldAt Try.prog 51 0 0 1 false := ⟨_, _, Try.underlying51, rfl, rfl, ty9.size, ag9, by decide⟩
theorem fa51_1 : FieldAt Try.prog 51 1 1 1 false := ⟨_, _, Try.underlying51, rfl, rfl, ty3.size, ag3, by decide⟩
theorem fa51_2 : FieldAt Try.prog 51 2 2 1 false := ⟨_, _, Try.underlying51, rfl, rfl, ty9.size, ag9, by decide⟩
theorem c_IndexFuncR (l : List Rl) (g : Nat) (caps : List Value) (M0 : List ME) (p : Rl → Bool) (hg : ∀ d ∈ l, FnC Try.prog g ([rav d] ++ caps.map .lit) M0 (fun r M => r = .bool (p d) ∧ M = M0)) (hn : l.length ≤ 1099511627776) : FnC Try.prog 75 [.sl 3 (l.map rav), .lit (.func (.func g) #[] caps.toArray)] M0 (fun r M => r = .int (idxI p l) ∧ M = M0) :=  by
  refine FnC.mk Try.func75 (by kernel_rfl) rfl Try.ntmps75 rfl (fun w0 F => ?_)
  have hnl : (l.map rav).length = l.length := List.length_map ..
  refine W.seq ?_
  refine W.region ?_
  refine W.q (Ev.assign .k) rfl ?_
  refine W.nil ?_
  refine W.then ?_
  refine W.seq ?_
  refine W.seq ?_
  refine W.region ?_
  refine W.q (Ev.move (.t rfl)) rfl ?_
  first | refine W.q (Ev.lensl (.t rfl) Try.underlying46) rfl ?_ | refine W.q (Ev.lenar (i := 0) (.t rfl) rfl Try.underlying46) rfl ?_ | refine W.q (Ev.lenar (i := 1) (.t rfl) rfl Try.underlying46) rfl ?_ | refine W.q (Ev.lenar (i := 2) (.t rfl) rfl Try.underlying46) rfl ?_ | refine W.q (Ev.lenar (i := 3) (.t rfl) rfl Try.underlying46) rfl ?_
  refine W.q (Ev.move .k) rfl ?_
  refine W.nil ?_
  refine W.then ?_
  refine W.block ?_
  refine W.loop (D := []) (ι := Nat) (fun i => [(8, true, .int (i : Int)), (7, true, .int ((l.map rav).length : Int)), (0, true, .sl 3 (l.map rav)), (1, true, .lit (.func (.func g) #[] caps.toArray))]) (fun _ => M0) (fun i => i ≤ l.length ∧ ∀ d ∈ l.take i, p d = false) (fun i => l.length - i) 0 ⟨rfl, rfl, rfl, rfl, trivial⟩ (List.Perm.of_eq (List.append_nil _).symm) ⟨Nat.zero_le _, by simp⟩ ?_
  rintro i ⟨hi1, hi2⟩
  dsimp only at hi1 hi2 ⊢
  rcases (show i < l.length ∨ i = l.length from by omega) with hlt | hend
  · have hga := getD_mapG rav Rl.dfl l i hlt
    refine W.seq ?_
    refine W.region ?_
    refine W.q (Ev.lti (.t rfl) (.t rfl)) rfl ?_
    refine W.nil ?_
    refine W.then ?_
    refine W.seq ?_
    refine W.is (t := 9) (g := true) (av' := .lit (.bool true)) rfl (congrArg (fun b => AV.lit (.bool b)) (by simp; omega)) ?_
    refine W.condT (.t rfl) ?_
    refine W.skip ?_
    refine W.then ?_
    refine W.seq ?_
    refine W.block ?_
    refine W.seq ?_
    refine W.region ?_
    refine W.q (Ev.move (.t rfl)) rfl ?_
    refine W.q (Ev.assign (.t rfl)) rfl ?_
    refine W.nil ?_
    refine W.then ?_
    refine W.seq ?_
    refine W.region ?_
    refine W.q (Ev.move (.t rfl)) rfl ?_
    refine W.q (Ev.move (.t rfl)) rfl ?_
    refine W.q (Ev.move (.t rfl)) rfl ?_
    refine W.q (Ev.at (E := 51) (.t rfl) (.t rfl) Try.underlying46 ty51 (fun _ => ⟨by omega, hga⟩) rfl rfl) rfl ?_
    first | refine W.q (Ev.lden (.t rfl) ag51 ty51 rfl rfl) rfl ?_ | refine W.q (Ev.ldbn 0 (.t rfl) rfl ag51 ty51 rfl) rfl ?_ | refine W.q (Ev.ldbn 1 (.t rfl) rfl ag51 ty51 rfl) rfl ?_ | refine W.q (Ev.ldbn 2 (.t rfl) rfl ag51 ty51 rfl) rfl ?_ | refine W.q (Ev.ldbn 3 (.t rfl) rfl ag51 ty51 rfl) rfl ?_
    refine W.callv (caps := caps) (avs := [_]) (hg (l.getD i Rl.dfl) (getD_memG Rl.dfl l i hlt)) (.t rfl) ⟨(.t rfl), trivial⟩ rfl ((List.Perm.of_eq (List.append_nil _).symm)) rfl ?_
    rintro _ M' ⟨rfl, hM⟩
    rw [hM, List.append_nil]
    refine W.nil ?_
    refine W.then ?_
    refine W.cond (.t rfl) (fun hc_t16 => ?_) (fun hc_t16 => ?_)
    · have hq := idxI_hit p Rl.dfl l i hlt hi2 hc_t16
      refine W.seq ?_
      refine W.region ?_
      refine W.q (Ev.move (.t rfl)) rfl ?_
      refine W.q (Ev.assign (.t rfl)) rfl ?_
      refine W.nil ?_
      refine W.then ?_
      refine W.ret ?_
      refine W.blk_ret ?_
      refine W.then_ret ?_
      refine W.then_ret ?_
      refine W.blk_ret ?_
      refine W.then_ret ?_
      refine W.retn (M' := M0) (D := []) (rs := [.tmp 4]) (avs := [_]) Try.results75 ⟨rfl, trivial⟩ rfl (List.Perm.of_eq (List.append_nil _).symm) ?_
      exact ⟨congrArg AV.int (by rw [hq]), rfl⟩
    · have hq : p (l.getD i Rl.dfl) = false := hc_t16
      refine W.skip ?_
      refine W.blk_normal ?_
      refine W.then ?_
      refine W.region ?_
      first | refine W.q (Ev.add (.t rfl) .k (fun _ => by omega)) rfl ?_ | refine W.q (Ev.addw (.t rfl) .k) rfl ?_
      refine W.q (Ev.move (.t rfl)) rfl ?_
      refine W.nil ?_
      refine W.then ?_
      refine W.reach (D := []) (i + 1) ⟨rfl, rfl, rfl, rfl, trivial⟩ (List.Perm.of_eq (List.append_nil _).symm) ⟨⟨by omega, ?_⟩, by omega⟩
      rw [take_getDG Rl.dfl l i hlt]
      intro d hd
      cases List.mem_append.1 hd with
      | inl h => exact hi2 d h
      | inr h => rw [List.mem_singleton.1 h]; exact hq
  · rw [List.take_of_length_le (by omega)] at hi2
    have hq := idxI_miss p l hi2
    refine W.seq ?_
    refine W.region ?_
    refine W.q (Ev.lti (.t rfl) (.t rfl)) rfl ?_
    refine W.nil ?_
    refine W.then ?_
    refine W.seq ?_
    refine W.is (t := 9) (g := true) (av' := .lit (.bool false)) rfl (congrArg (fun b => AV.lit (.bool b)) (by simp; omega)) ?_
    refine W.condF (.t rfl) ?_
    refine W.exit ?_
    refine W.then_exit ?_
    refine W.then_exit ?_
    refine W.blk_hit ?_
    refine W.then ?_
    refine W.seq ?_
    refine W.region ?_
    refine W.q (Ev.assign .k) rfl ?_
    refine W.nil ?_
    refine W.then ?_
    refine W.ret ?_
    refine W.retn (M' := M0) (D := []) (rs := [.tmp 4]) (avs := [_]) Try.results75 ⟨rfl, trivial⟩ rfl (List.Perm.of_eq (List.append_nil _).symm) ?_
    exact ⟨congrArg AV.int (by rw [hq]), rfl⟩

theorem c_ContainsFuncR (l : List Rl) (g : Nat) (caps : List Value) (M0 : List ME) (p : Rl → Bool) (hg : ∀ d ∈ l, FnC Try.prog g ([rav d] ++ caps.map .lit) M0 (fun r M => r = .bool (p d) ∧ M = M0)) (hn : l.length ≤ 1099511627776) : FnC Try.prog 72 [.sl 3 (l.map rav), .lit (.func (.func g) #[] caps.toArray)] M0 (fun r M => r = .bool (l.any p) ∧ M = M0) :=  by
  refine FnC.mk Try.func72 (by kernel_rfl) rfl Try.ntmps72 rfl (fun w0 F => ?_)
  refine W.seq ?_
  refine W.region ?_
  refine W.q (Ev.assign .k) rfl ?_
  refine W.nil ?_
  refine W.then ?_
  refine W.seq ?_
  refine W.region ?_
  refine W.q (Ev.move (.t rfl)) rfl ?_
  refine W.q (Ev.move (.t rfl)) rfl ?_
  refine W.call (c_IndexFuncR l g caps M0 p hg hn) ⟨(.t rfl), (.t rfl), trivial⟩ ((List.Perm.of_eq (List.append_nil _).symm)) rfl ?_
  rintro _ M' ⟨rfl, hM⟩
  rw [hM, List.append_nil]
  refine W.q (Ev.gei (.t rfl) .k) rfl ?_
  refine W.q (Ev.assign (.t rfl)) rfl ?_
  refine W.nil ?_
  refine W.then ?_
  refine W.ret ?_
  refine W.retn (M' := M0) (D := []) (rs := [.tmp 4]) (avs := [_]) Try.results72 ⟨rfl, trivial⟩ rfl (List.Perm.of_eq (List.append_nil _).symm) ?_
  exact ⟨congrArg AV.bool (idxI_any p l), rfl⟩

theorem c_Check1 (q r : Rl) (b : Nat) : FnC Try.prog 73 [rav q, .lit (.pointer (some ⟨b, 0, none⟩))] [.box b 51 [.str r.name, .int r.act, .str r.to]] (fun x M => x = .bool (q.name == r.name) ∧ M = [.box b 51 [.str r.name, .int r.act, .str r.to]]) :=  by
  refine FnC.mk Try.func73 (by kernel_rfl) rfl Try.ntmps73 rfl (fun w0 F => ?_)
  refine W.seq ?_
  refine W.region ?_
  refine W.box (.t rfl) rfl rfl ?_
  intro b2
  refine W.q (Ev.assign .k) rfl ?_
  refine W.nil ?_
  refine W.then ?_
  refine W.seq ?_
  refine W.region ?_
  first | refine W.q (Ev.fae (.t rfl) fa51_0 rfl) rfl ?_ | refine W.q (Ev.fab (.t rfl) fa51_0) rfl ?_ | refine W.q (Ev.faa (.t rfl) fa51_0) rfl ?_
  first | refine W.q (Ev.lde1 (.t rfl) ag9) rfl ?_ | refine W.q (Ev.ldb1 0 (.t rfl) rfl ag9 rfl) rfl ?_ | refine W.q (Ev.ldb1 1 (.t rfl) rfl ag9 rfl) rfl ?_ | refine W.q (Ev.ldb1 2 (.t rfl) rfl ag9 rfl) rfl ?_ | refine W.q (Ev.ldb1 3 (.t rfl) rfl ag9 rfl) rfl ?_
  first | refine W.q (Ev.fae (.t rfl) fa51_0 rfl) rfl ?_ | refine W.q (Ev.fab (.t rfl) fa51_0) rfl ?_ | refine W.q (Ev.faa (.t rfl) fa51_0) rfl ?_
  first | refine W.q (Ev.lde1 (.t rfl) ag9) rfl ?_ | refine W.q (Ev.ldb1 0 (.t rfl) rfl ag9 rfl) rfl ?_ | refine W.q (Ev.ldb1 1 (.t rfl) rfl ag9 rfl) rfl ?_ | refine W.q (Ev.ldb1 2 (.t rfl) rfl ag9 rfl) rfl ?_ | refine W.q (Ev.ldb1 3 (.t rfl) rfl ag9 rfl) rfl ?_
  refine W.q (Ev.eqs (.t rfl) (.t rfl)) rfl ?_
  refine W.q (Ev.assign (.t rfl)) rfl ?_
  refine W.nil ?_
  refine W.then ?_
  refine W.ret ?_
  refine W.retn (M' := [.box b 51 _]) (D := [_]) (rs := [.tmp 3]) (avs := [_]) Try.results73 ⟨rfl, trivial⟩ rfl (List.Perm.swap _ _ []) ?_
  exact ⟨rfl, rfl⟩

theorem c_Check (l : List Rl) (hl : Rl.oks l) : FnP Try.prog 53 [.sl 3 (l.map rav)] (.int 0) :=  by
  refine FnC.mk Try.func53 (by kernel_rfl) rfl Try.ntmps53 rfl (fun w0 F => ?_)
  have hll : (l.map rav).length = l.length := List.length_map ..
  have hlen := hl.len
  refine W.seq ?_
  refine W.region ?_
  refine W.q (Ev.assign .k) rfl ?_
  refine W.nil ?_
  refine W.then ?_
  refine W.seq ?_
  refine W.seq ?_
  refine W.region ?_
  refine W.q (Ev.move (.t rfl)) rfl ?_
  first | refine W.q (Ev.lensl (.t rfl) Try.underlying46) rfl ?_ | refine W.q (Ev.lenar (i := 0) (.t rfl) rfl Try.underlying46) rfl ?_ | refine W.q (Ev.lenar (i := 1) (.t rfl) rfl Try.underlying46) rfl ?_ | refine W.q (Ev.lenar (i := 2) (.t rfl) rfl Try.underlying46) rfl ?_ | refine W.q (Ev.lenar (i := 3) (.t rfl) rfl Try.underlying46) rfl ?_
  refine W.q (Ev.gti (.t rfl) .k) rfl ?_
  refine W.nil ?_
  refine W.then ?_
  refine W.is (t := 7) (g := true) (av' := .lit (.bool false)) rfl (congrArg (fun b => AV.lit (.bool b)) (by exact decide_eq_false (by omega))) ?_
  refine W.condF (.t rfl) ?_
  refine W.skip ?_
  refine W.then ?_
  refine W.seq ?_
  refine W.seq ?_
  refine W.region ?_
  refine W.q (Ev.move (.t rfl)) rfl ?_
  first | refine W.q (Ev.lensl (.t rfl) Try.underlying46) rfl ?_ | refine W.q (Ev.lenar (i := 0) (.t rfl) rfl Try.underlying46) rfl ?_ | refine W.q (Ev.lenar (i := 1) (.t rfl) rfl Try.underlying46) rfl ?_ | refine W.q (Ev.lenar (i := 2) (.t rfl) rfl Try.underlying46) rfl ?_ | refine W.q (Ev.lenar (i := 3) (.t rfl) rfl Try.underlying46) rfl ?_
  refine W.q (Ev.move .k) rfl ?_
  refine W.nil ?_
  refine W.then ?_
  refine W.block ?_
  refine W.loop (D := []) (ι := Nat) (fun i => [(10, true, .int (i : Int)), (9, true, .int ((l.map rav).length : Int)), (8, true, .sl 3 (l.map rav)), (0, true, .sl 3 (l.map rav))]) (fun _ => []) (fun i => i ≤ l.length) (fun i => l.length - i) 0 ⟨rfl, rfl, rfl, rfl, trivial⟩ (.refl _) (Nat.zero_le _) ?_
  intro i hi
  dsimp only at hi ⊢
  rcases (show i < l.length ∨ i = l.length from by omega) with hlt | hend
  · have hga := getD_mapG rav Rl.dfl l i hlt
    have hk := hl.all _ (getD_memG Rl.dfl l i hlt)
    have h1 := hl.one i hlt
    generalize l.getD i Rl.dfl = r at hga hk h1
    refine W.seq ?_
    refine W.region ?_
    refine W.q (Ev.lti (.t rfl) (.t rfl)) rfl ?_
    refine W.nil ?_
    refine W.then ?_
    refine W.seq ?_
    refine W.is (t := 11) (g := true) (av' := .lit (.bool true)) rfl (congrArg (fun b => AV.lit (.bool b)) (by exact decide_eq_true (by omega))) ?_
    refine W.condT (.t rfl) ?_
    refine W.skip ?_
    refine W.then ?_
    refine W.seq ?_
    refine W.block ?_
    refine W.seq ?_
    refine W.region ?_
    refine W.q (Ev.move (.t rfl)) rfl ?_
    refine W.q (Ev.at (E := 51) (.t rfl) (.t rfl) Try.underlying46 ty51 (fun _ => ⟨by omega, hga⟩) rfl rfl) rfl ?_
    first | refine W.q (Ev.lden (.t rfl) ag51 ty51 rfl rfl) rfl ?_ | refine W.q (Ev.ldbn 0 (.t rfl) rfl ag51 ty51 rfl) rfl ?_ | refine W.q (Ev.ldbn 1 (.t rfl) rfl ag51 ty51 rfl) rfl ?_ | refine W.q (Ev.ldbn 2 (.t rfl) rfl ag51 ty51 rfl) rfl ?_ | refine W.q (Ev.ldbn 3 (.t rfl) rfl ag51 ty51 rfl) rfl ?_
    refine W.alloc ty51 rfl rfl ?_
    intro b4
    refine W.q (Ev.assign (.t rfl)) rfl ?_
    first | refine W.stb 0 (.t rfl) (.t rfl) rfl ty51 rfl rfl rfl ?_ | refine W.stb 1 (.t rfl) (.t rfl) rfl ty51 rfl rfl rfl ?_ | refine W.stb 2 (.t rfl) (.t rfl) rfl ty51 rfl rfl rfl ?_ | refine W.stb 3 (.t rfl) (.t rfl) rfl ty51 rfl rfl rfl ?_
    refine W.nil ?_
    refine W.then ?_
    refine W.block ?_
    refine W.seq ?_
    refine W.region ?_
    first | refine W.q (Ev.fae (.t rfl) fa51_0 rfl) rfl ?_ | refine W.q (Ev.fab (.t rfl) fa51_0) rfl ?_ | refine W.q (Ev.faa (.t rfl) fa51_0) rfl ?_
    first | refine W.q (Ev.lde1 (.t rfl) ag9) rfl ?_ | refine W.q (Ev.ldb1 0 (.t rfl) rfl ag9 rfl) rfl ?_ | refine W.q (Ev.ldb1 1 (.t rfl) rfl ag9 rfl) rfl ?_ | refine W.q (Ev.ldb1 2 (.t rfl) rfl ag9 rfl) rfl ?_ | refine W.q (Ev.ldb1 3 (.t rfl) rfl ag9 rfl) rfl ?_
    refine W.callp (WName.c_Name r.name (by have := hk.nl; omega)) ⟨(.t rfl), trivial⟩ rfl ?_
    refine W.q (Ev.not (.t rfl)) rfl ?_
    refine W.q (Ev.assign (.t rfl)) rfl ?_
    refine W.nil ?_
    refine W.then ?_
    refine W.is (t := 15) (g := true) (av' := .lit (.bool false)) rfl (congrArg (fun b => AV.lit (.bool b)) (by rw [hk.n]; rfl)) ?_
    refine W.condF (.t rfl) ?_
    refine W.seq ?_
    refine W.region ?_
    first | refine W.q (Ev.fae (.t rfl) fa51_1 rfl) rfl ?_ | refine W.q (Ev.fab (.t rfl) fa51_1) rfl ?_ | refine W.q (Ev.faa (.t rfl) fa51_1) rfl ?_
    first | refine W.q (Ev.lde1 (.t rfl) ag3) rfl ?_ | refine W.q (Ev.ldb1 0 (.t rfl) rfl ag3 rfl) rfl ?_ | refine W.q (Ev.ldb1 1 (.t rfl) rfl ag3 rfl) rfl ?_ | refine W.q (Ev.ldb1 2 (.t rfl) rfl ag3 rfl) rfl ?_ | refine W.q (Ev.ldb1 3 (.t rfl) rfl ag3 rfl) rfl ?_
    refine W.q (Ev.lti (.t rfl) .k) rfl ?_
    refine W.q (Ev.move (.t rfl)) rfl ?_
    first | refine W.qgF rfl rfl (Ev.fae (.t rfl) fa51_1 rfl) rfl ?_ | refine W.qgF rfl rfl (Ev.fab (.t rfl) fa51_1) rfl ?_ | refine W.qgF rfl rfl (Ev.faa (.t rfl) fa51_1) rfl ?_
    first | refine W.qgF rfl rfl (Ev.lde1 (.c rfl) ag3) rfl ?_ | refine W.qgF rfl rfl (Ev.ldb1 0 (.c rfl) rfl ag3 rfl) rfl ?_ | refine W.qgF rfl rfl (Ev.ldb1 1 (.c rfl) rfl ag3 rfl) rfl ?_ | refine W.qgF rfl rfl (Ev.ldb1 2 (.c rfl) rfl ag3 rfl) rfl ?_ | refine W.qgF rfl rfl (Ev.ldb1 3 (.c rfl) rfl ag3 rfl) rfl ?_
    refine W.qgF rfl rfl (Ev.gti (.c rfl) .k) rfl ?_
    refine W.q (Ev.or (.t rfl) ⟨_, _, rfl, rfl, by first | (simp; done) | (intro hg_ hp_; simp [hp_]; done) | (simp <;> omega; done) | (simp_all; done) | grind⟩) rfl ?_
    refine W.q (Ev.assign (.t rfl)) rfl ?_
    refine W.nil ?_
    refine W.then ?_
    refine W.is (t := 20) (g := true) (av' := .lit (.bool false)) rfl (congrArg (fun b => AV.lit (.bool b)) (by have h1 := hk.a1; have h3 := hk.a3; simp; omega)) ?_
    refine W.condF (.t rfl) ?_
    refine W.seq ?_
    refine W.region ?_
    first | refine W.q (Ev.fae (.t rfl) fa51_1 rfl) rfl ?_ | refine W.q (Ev.fab (.t rfl) fa51_1) rfl ?_ | refine W.q (Ev.faa (.t rfl) fa51_1) rfl ?_
    first | refine W.q (Ev.lde1 (.t rfl) ag3) rfl ?_ | refine W.q (Ev.ldb1 0 (.t rfl) rfl ag3 rfl) rfl ?_ | refine W.q (Ev.ldb1 1 (.t rfl) rfl ag3 rfl) rfl ?_ | refine W.q (Ev.ldb1 2 (.t rfl) rfl ag3 rfl) rfl ?_ | refine W.q (Ev.ldb1 3 (.t rfl) rfl ag3 rfl) rfl ?_
    refine W.q (Ev.eqi (.t rfl) .k) rfl ?_
    refine W.q (Ev.move (.t rfl)) rfl ?_
    first | refine W.qgT rfl rfl (Ev.fae (.t rfl) fa51_2 rfl) rfl ?_ | refine W.qgT rfl rfl (Ev.fab (.t rfl) fa51_2) rfl ?_ | refine W.qgT rfl rfl (Ev.faa (.t rfl) fa51_2) rfl ?_
    first | refine W.qgT rfl rfl (Ev.lde1 (.c rfl) ag9) rfl ?_ | refine W.qgT rfl rfl (Ev.ldb1 0 (.c rfl) rfl ag9 rfl) rfl ?_ | refine W.qgT rfl rfl (Ev.ldb1 1 (.c rfl) rfl ag9 rfl) rfl ?_ | refine W.qgT rfl rfl (Ev.ldb1 2 (.c rfl) rfl ag9 rfl) rfl ?_ | refine W.qgT rfl rfl (Ev.ldb1 3 (.c rfl) rfl ag9 rfl) rfl ?_
    refine W.callgT (Min := []) (caps := []) (avs := [_]) rfl rfl (fun hg => WName.c_Name r.to (by have := hk.tl; omega)) (fun hg => .f) (fun hg => ⟨(.i rfl (fun _ => hg)), trivial⟩) rfl (.refl _) rfl ?_
    refine W.qgT rfl rfl (Ev.not (.c rfl)) rfl ?_
    refine W.q (Ev.and (.t rfl) ⟨_, _, rfl, rfl, by first | (simp; done) | (intro hg_ hp_; simp [hp_]; done) | (simp <;> omega; done) | (simp_all; done) | grind⟩) rfl ?_
    refine W.q (Ev.assign (.t rfl)) rfl ?_
    refine W.nil ?_
    refine W.then ?_
    refine W.is (t := 29) (g := true) (av' := .lit (.bool false)) rfl (congrArg (fun b => AV.lit (.bool b)) (by rcases Decidable.em (r.act = 1) with h | h; simp [h, hk.t h]; simp [h])) ?_
    refine W.condF (.t rfl) ?_
    refine W.seq ?_
    refine W.region ?_
    first | refine W.q (Ev.fae (.t rfl) fa51_1 rfl) rfl ?_ | refine W.q (Ev.fab (.t rfl) fa51_1) rfl ?_ | refine W.q (Ev.faa (.t rfl) fa51_1) rfl ?_
    first | refine W.q (Ev.lde1 (.t rfl) ag3) rfl ?_ | refine W.q (Ev.ldb1 0 (.t rfl) rfl ag3 rfl) rfl ?_ | refine W.q (Ev.ldb1 1 (.t rfl) rfl ag3 rfl) rfl ?_ | refine W.q (Ev.ldb1 2 (.t rfl) rfl ag3 rfl) rfl ?_ | refine W.q (Ev.ldb1 3 (.t rfl) rfl ag3 rfl) rfl ?_
    refine W.q (Ev.nei (.t rfl) .k) rfl ?_
    refine W.q (Ev.move (.t rfl)) rfl ?_
    first | refine W.qgT rfl rfl (Ev.fae (.t rfl) fa51_2 rfl) rfl ?_ | refine W.qgT rfl rfl (Ev.fab (.t rfl) fa51_2) rfl ?_ | refine W.qgT rfl rfl (Ev.faa (.t rfl) fa51_2) rfl ?_
    first | refine W.qgT rfl rfl (Ev.lde1 (.c rfl) ag9) rfl ?_ | refine W.qgT rfl rfl (Ev.ldb1 0 (.c rfl) rfl ag9 rfl) rfl ?_ | refine W.qgT rfl rfl (Ev.ldb1 1 (.c rfl) rfl ag9 rfl) rfl ?_ | refine W.qgT rfl rfl (Ev.ldb1 2 (.c rfl) rfl ag9 rfl) rfl ?_ | refine W.qgT rfl rfl (Ev.ldb1 3 (.c rfl) rfl ag9 rfl) rfl ?_
    refine W.qgT rfl rfl (Ev.nes (.c rfl) .k) rfl ?_
    refine W.q (Ev.and (.t rfl) ⟨_, _, rfl, rfl, by first | (simp; done) | (intro hg_ hp_; simp [hp_]; done) | (simp <;> omega; done) | (simp_all; done) | grind⟩) rfl ?_
    refine W.q (Ev.assign (.t rfl)) rfl ?_
    refine W.nil ?_
    refine W.then ?_
    refine W.is (t := 39) (g := true) (av' := .lit (.bool false)) rfl (congrArg (fun b => AV.lit (.bool b)) (by rcases Decidable.em (r.act = 1) with h | h; simp [h]; simp [h, hk.t0 h])) ?_
    refine W.condF (.t rfl) ?_
    refine W.seq ?_
    refine W.region ?_
    refine W.q (Ev.move (.t rfl)) rfl ?_
    refine W.q (Ev.move (.t rfl)) rfl ?_
    refine W.q (Ev.takesl (n := i) (.t rfl) Try.underlying46 ty51 (.t rfl) rfl (fun _ => by omega)) rfl ?_
    refine W.q (Ev.mkfn (caps := [.tmp 4]) (vs := [_]) ⟨(.t rfl), trivial⟩) rfl ?_
    refine W.call (c_ContainsFuncR (l.take i) 73 [.pointer (some ⟨b4, 0, none⟩)] [.box b4 51 [.str r.name, .int r.act, .str r.to]] (fun q => q.name == r.name) (fun d _ => c_Check1 d r b4) (by rw [List.length_take]; omega)) ⟨(.t rfl), (.t rfl), trivial⟩ (.refl _) rfl ?_
    rintro _ _ ⟨rfl, rfl⟩
    refine W.q (Ev.assign (.t rfl)) rfl ?_
    refine W.nil ?_
    refine W.then ?_
    refine W.is (t := 48) (g := true) (av' := .lit (.bool false)) rfl (congrArg (fun b => AV.lit (.bool b)) (by exact h1)) ?_
    refine W.condF (.t rfl) ?_
    refine W.skip ?_
    refine W.blk_normal ?_
    refine W.blk_normal ?_
    refine W.then ?_
    refine W.region ?_
    first | refine W.q (Ev.add (.t rfl) .k (fun _ => by omega)) rfl ?_ | refine W.q (Ev.addw (.t rfl) .k) rfl ?_
    refine W.q (Ev.move (.t rfl)) rfl ?_
    refine W.nil ?_
    refine W.then ?_
    refine W.reach (D := _) (i + 1) ⟨rfl, rfl, rfl, rfl, trivial⟩ (.refl _) ⟨by show i + 1 ≤ _; omega, by show _ - (i + 1) < _; omega⟩
  · skip
    refine W.seq ?_
    refine W.region ?_
    refine W.q (Ev.lti (.t rfl) (.t rfl)) rfl ?_
    refine W.nil ?_
    refine W.then ?_
    refine W.seq ?_
    refine W.is (t := 11) (g := true) (av' := .lit (.bool false)) rfl (congrArg (fun b => AV.lit (.bool b)) (by exact decide_eq_false (by omega))) ?_
    refine W.condF (.t rfl) ?_
    refine W.exit ?_
    refine W.then_exit ?_
    refine W.then_exit ?_
    refine W.blk_hit ?_
    refine W.then ?_
    refine W.seq ?_
    refine W.region ?_
    refine W.q (Ev.assign .k) rfl ?_
    refine W.nil ?_
    refine W.then ?_
    refine W.ret ?_
    refine W.retn (M' := []) (rs := [.tmp 2]) (avs := [_]) Try.results53 ⟨rfl, trivial⟩ rfl (.refl _) ?_
    exact ⟨rfl, rfl⟩

end WRules

end Go.Proofs.Yteepllfbnoaiaaa
