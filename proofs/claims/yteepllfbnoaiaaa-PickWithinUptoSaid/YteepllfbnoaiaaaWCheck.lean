/-
  Selectors that may be.
-/
import Derived.Test.YteepllfbnoaiaaaPick
import Derived.Test.YteepllfbnoaiaaaWName
import Derived.Test.YteepllfbnoaiaaaWAttr
import Derived.Test.YteepllfbnoaiaaaWClone
set_option linter.unusedVariables false
set_option linter.unusedSimpArgs false
set_option maxRecDepth 100000
namespace Go.Proofs.Yteepllfbnoaiaaa
open Go.Vl

namespace WCheck
theorem ty9 : Ty Try.prog 9 1 16 (.string ⟨#[]⟩) := Ty.of (by kernel_rfl)
theorem ty32 : Ty Try.prog 32 3 40 (.agg #[.string ⟨#[]⟩, .string ⟨#[]⟩, .bool false]) := Ty.of (by kernel_rfl)
theorem ty111 : Ty Try.prog 111 1 8 (.nilFunc) := Ty.of (by kernel_rfl)
theorem ag9 : IsAgg Try.prog 9 false := ⟨_, Try.underlying9, rfl⟩
theorem ag32 : IsAgg Try.prog 32 true := ⟨_, Try.underlying32, rfl⟩
theorem ag111 : IsAgg Try.prog 111 false := ⟨_, Try.underlying111, rfl⟩
theorem fa32_0 : FieldAt Try.prog 32 0 0 1 false := ⟨_, _, Try.underlying32, rfl, rfl, ty9.size, ag9, by decide⟩
theorem fa32_1 : FieldAt Try.prog 32 1 1 1 false := ⟨_, _, Try.underlying32, rfl, rfl, ty9.size, ag9, by decide⟩
theorem c_IndexFuncP (l : List Pk) (g : Nat) (caps : List Value) (M0 : List ME) (p : Pk → Bool) (hg : ∀ d ∈ l, FnC Try.prog g ([kav d] ++ caps.map .lit) M0 (fun r M => r = .bool (p d) ∧ M = M0)) (hn : l.length ≤ 1099511627776) : FnC Try.prog 88 [.sl 3 (l.map kav), .lit (.func (.func g) #[] caps.toArray)] M0 (fun r M => r = .int (idxI p l) ∧ M = M0) :=  by
  refine FnC.mk Try.func88 (by kernel_rfl) rfl Try.ntmps88 rfl (fun w0 F => ?_)
  have hnl : (l.map kav).length = l.length := List.length_map ..
  refine W.seq ?_
  refine W.region ?_
  refine W.q (Ev.assign .k) rfl ?_
  refine W.nil ?_
  refine W.then ?_
  refine W.seq ?_
  refine W.seq ?_
  refine W.region ?_
  refine W.q (Ev.move (.t rfl)) rfl ?_
  first | refine W.q (Ev.lensl (.t rfl) Try.underlying23) rfl ?_ | refine W.q (Ev.lenar (i := 0) (.t rfl) rfl Try.underlying23) rfl ?_ | refine W.q (Ev.lenar (i := 1) (.t rfl) rfl Try.underlying23) rfl ?_ | refine W.q (Ev.lenar (i := 2) (.t rfl) rfl Try.underlying23) rfl ?_ | refine W.q (Ev.lenar (i := 3) (.t rfl) rfl Try.underlying23) rfl ?_
  refine W.q (Ev.move .k) rfl ?_
  refine W.nil ?_
  refine W.then ?_
  refine W.block ?_
  refine W.loop (D := []) (ι := Nat) (fun i => [(8, true, .int (i : Int)), (7, true, .int ((l.map kav).length : Int)), (0, true, .sl 3 (l.map kav)), (1, true, .lit (.func (.func g) #[] caps.toArray))]) (fun _ => M0) (fun i => i ≤ l.length ∧ ∀ d ∈ l.take i, p d = false) (fun i => l.length - i) 0 ⟨rfl, rfl, rfl, rfl, trivial⟩ (List.Perm.of_eq (List.append_nil _).symm) ⟨Nat.zero_le _, by simp⟩ ?_
  rintro i ⟨hi1, hi2⟩
  dsimp only at hi1 hi2 ⊢
  rcases (show i < l.length ∨ i = l.length from by omega) with hlt | hend
  · have hga := getD_mapG kav Pk.dfl l i hlt
    refine W.seq ?_
    refine W.region ?_
    refine W.q (Ev.lti (.t rfl) (.t rfl)) rfl ?_
    refine W.nil ?_
    refine W.then ?_
    refine W.seq ?_
    refine W.is (t := 9) (g := true) (av' := .lit (.bool true)) rfl (congrArg (fun b => AV.lit (.bool b)) (by simp; omega)) ?_
    refine W.condT (.t rfl) ?_
    refine W.skip ?_
    refine W.then ?_
    refine W.seq ?_
    refine W.block ?_
    refine W.seq ?_
    refine W.region ?_
    refine W.q (Ev.move (.t rfl)) rfl ?_
    refine W.q (Ev.assign (.t rfl)) rfl ?_
    refine W.nil ?_
    refine W.then ?_
    refine W.seq ?_
    refine W.region ?_
    refine W.q (Ev.move (.t rfl)) rfl ?_
    refine W.q (Ev.move (.t rfl)) rfl ?_
    refine W.q (Ev.move (.t rfl)) rfl ?_
    refine W.q (Ev.at (E := 32) (.t rfl) (.t rfl) Try.underlying23 ty32 (fun _ => ⟨by omega, hga⟩) rfl rfl) rfl ?_
    first | refine W.q (Ev.lden (.t rfl) ag32 ty32 rfl rfl) rfl ?_ | refine W.q (Ev.ldbn 0 (.t rfl) rfl ag32 ty32 rfl) rfl ?_ | refine W.q (Ev.ldbn 1 (.t rfl) rfl ag32 ty32 rfl) rfl ?_ | refine W.q (Ev.ldbn 2 (.t rfl) rfl ag32 ty32 rfl) rfl ?_ | refine W.q (Ev.ldbn 3 (.t rfl) rfl ag32 ty32 rfl) rfl ?_
    refine W.callv (caps := caps) (avs := [_]) (hg (l.getD i Pk.dfl) (getD_memG Pk.dfl l i hlt)) (.t rfl) ⟨(.t rfl), trivial⟩ rfl ((List.Perm.of_eq (List.append_nil _).symm)) rfl ?_
    rintro _ M' ⟨rfl, hM⟩
    rw [hM, List.append_nil]
    refine W.nil ?_
    refine W.then ?_
    refine W.cond (.t rfl) (fun hc_t16 => ?_) (fun hc_t16 => ?_)
    · have hq := idxI_hit p Pk.dfl l i hlt hi2 hc_t16
      refine W.seq ?_
      refine W.region ?_
      refine W.q (Ev.move (.t rfl)) rfl ?_
      refine W.q (Ev.assign (.t rfl)) rfl ?_
      refine W.nil ?_
      refine W.then ?_
      refine W.ret ?_
      refine W.blk_ret ?_
      refine W.then_ret ?_
      refine W.then_ret ?_
      refine W.blk_ret ?_
      refine W.then_ret ?_
      refine W.retn (M' := M0) (D := []) (rs := [.tmp 4]) (avs := [_]) Try.results88 ⟨rfl, trivial⟩ rfl (List.Perm.of_eq (List.append_nil _).symm) ?_
      exact ⟨congrArg AV.int (by rw [hq]), rfl⟩
    · have hq : p (l.getD i Pk.dfl) = false := hc_t16
      refine W.skip ?_
      refine W.blk_normal ?_
      refine W.then ?_
      refine W.region ?_
      first | refine W.q (Ev.add (.t rfl) .k (fun _ => by omega)) rfl ?_ | refine W.q (Ev.addw (.t rfl) .k) rfl ?_
      refine W.q (Ev.move (.t rfl)) rfl ?_
      refine W.nil ?_
      refine W.then ?_
      refine W.reach (D := []) (i + 1) ⟨rfl, rfl, rfl, rfl, trivial⟩ (List.Perm.of_eq (List.append_nil _).symm) ⟨⟨by omega, ?_⟩, by omega⟩
      rw [take_getDG Pk.dfl l i hlt]
      intro d hd
      cases List.mem_append.1 hd with
      | inl h => exact hi2 d h
      | inr h => rw [List.mem_singleton.1 h]; exact hq
  · rw [List.take_of_length_le (by omega)] at hi2
    have hq := idxI_miss p l hi2
    refine W.seq ?_
    refine W.region ?_
    refine W.q (Ev.lti (.t rfl) (.t rfl)) rfl ?_
    refine W.nil ?_
    refine W.then ?_
    refine W.seq ?_
    refine W.is (t := 9) (g := true) (av' := .lit (.bool false)) rfl (congrArg (fun b => AV.lit (.bool b)) (by simp; omega)) ?_
    refine W.condF (.t rfl) ?_
    refine W.exit ?_
    refine W.then_exit ?_
    refine W.then_exit ?_
    refine W.blk_hit ?_
    refine W.then ?_
    refine W.seq ?_
    refine W.region ?_
    refine W.q (Ev.assign .k) rfl ?_
    refine W.nil ?_
    refine W.then ?_
    refine W.ret ?_
    refine W.retn (M' := M0) (D := []) (rs := [.tmp 4]) (avs := [_]) Try.results88 ⟨rfl, trivial⟩ rfl (List.Perm.of_eq (List.append_nil _).symm) ?_
    exact ⟨congrArg AV.int (by rw [hq]), rfl⟩

theorem c_ContainsFuncP (l : List Pk) (g : Nat) (caps : List Value) (M0 : List ME) (p : Pk → Bool) (hg : ∀ d ∈ l, FnC Try.prog g ([kav d] ++ caps.map .lit) M0 (fun r M => r = .bool (p d) ∧ M = M0)) (hn : l.length ≤ 1099511627776) : FnC Try.prog 67 [.sl 3 (l.map kav), .lit (.func (.func g) #[] caps.toArray)] M0 (fun r M => r = .bool (l.any p) ∧ M = M0) :=  by
  refine FnC.mk Try.func67 (by kernel_rfl) rfl Try.ntmps67 rfl (fun w0 F => ?_)
  refine W.seq ?_
  refine W.region ?_
  refine W.q (Ev.assign .k) rfl ?_
  refine W.nil ?_
  refine W.then ?_
  refine W.seq ?_
  refine W.region ?_
  refine W.q (Ev.move (.t rfl)) rfl ?_
  refine W.q (Ev.move (.t rfl)) rfl ?_
  refine W.call (c_IndexFuncP l g caps M0 p hg hn) ⟨(.t rfl), (.t rfl), trivial⟩ ((List.Perm.of_eq (List.append_nil _).symm)) rfl ?_
  rintro _ M' ⟨rfl, hM⟩
  rw [hM, List.append_nil]
  refine W.q (Ev.gei (.t rfl) .k) rfl ?_
  refine W.q (Ev.assign (.t rfl)) rfl ?_
  refine W.nil ?_
  refine W.then ?_
  refine W.ret ?_
  refine W.retn (M' := M0) (D := []) (rs := [.tmp 4]) (avs := [_]) Try.results67 ⟨rfl, trivial⟩ rfl (List.Perm.of_eq (List.append_nil _).symm) ?_
  exact ⟨congrArg AV.bool (idxI_any p l), rfl⟩

theorem c_check1 (s : List UInt8) (hs : s.length ≤ 1000) : FnP Try.prog 66 [.str s] (.bool (Pk.oddS s)) :=  by
  refine FnC.mk Try.func66 (by kernel_rfl) rfl Try.ntmps66 rfl (fun w0 F => ?_)
  refine W.seq ?_
  refine W.region ?_
  refine W.q (Ev.assign .k) rfl ?_
  refine W.nil ?_
  refine W.then ?_
  refine W.seq ?_
  refine W.region ?_
  refine W.q (Ev.move (.t rfl)) rfl ?_
  refine W.q (Ev.nes (.t rfl) .k) rfl ?_
  refine W.q (Ev.move (.t rfl)) rfl ?_
  refine W.qgT rfl rfl (Ev.move (.t rfl)) rfl ?_
  refine W.callgT (Min := []) (caps := []) (avs := [_]) rfl rfl (fun hg => WName.c_Name s (by omega)) (fun hg => .f) (fun hg => ⟨(.i rfl (fun _ => hg)), trivial⟩) rfl (.refl _) rfl ?_
  refine W.qgT rfl rfl (Ev.not (.c rfl)) rfl ?_
  refine W.q (Ev.and (.t rfl) ⟨_, _, rfl, rfl, by first | (simp; done) | (intro hg_ hp_; simp [hp_]; done) | (simp <;> omega; done) | (simp_all; done) | grind⟩) rfl ?_
  refine W.q (Ev.assign (.t rfl)) rfl ?_
  refine W.nil ?_
  refine W.then ?_
  refine W.ret ?_
  refine W.retn (M' := []) (rs := [.tmp 2]) (avs := [_]) Try.results66 ⟨rfl, trivial⟩ rfl (.refl _) ?_
  exact ⟨rfl, rfl⟩

theorem c_check2 (p : Pk) (h1 : p.name.length ≤ 1000) (h2 : p.attr.length ≤ 1000) (b : Nat) : FnC Try.prog 68 [kav p, .lit (.pointer (some ⟨b, 0, none⟩))] [.box b 111 [.lit (.func (.func 66) #[] #[])]] (fun r M => r = .bool (Pk.odd p) ∧ M = [.box b 111 [.lit (.func (.func 66) #[] #[])]]) :=  by
  refine FnC.mk Try.func68 (by kernel_rfl) rfl Try.ntmps68 rfl (fun w0 F => ?_)
  refine W.seq ?_
  refine W.region ?_
  refine W.box (.t rfl) rfl rfl ?_
  intro b2
  refine W.q (Ev.assign .k) rfl ?_
  refine W.nil ?_
  refine W.then ?_
  refine W.seq ?_
  refine W.region ?_
  first | refine W.q (Ev.lde1 (.t rfl) ag111) rfl ?_ | refine W.q (Ev.ldb1 0 (.t rfl) rfl ag111 rfl) rfl ?_ | refine W.q (Ev.ldb1 1 (.t rfl) rfl ag111 rfl) rfl ?_ | refine W.q (Ev.ldb1 2 (.t rfl) rfl ag111 rfl) rfl ?_ | refine W.q (Ev.ldb1 3 (.t rfl) rfl ag111 rfl) rfl ?_
  first | refine W.q (Ev.fae (.t rfl) fa32_0 rfl) rfl ?_ | refine W.q (Ev.fab (.t rfl) fa32_0) rfl ?_ | refine W.q (Ev.faa (.t rfl) fa32_0) rfl ?_
  first | refine W.q (Ev.lde1 (.t rfl) ag9) rfl ?_ | refine W.q (Ev.ldb1 0 (.t rfl) rfl ag9 rfl) rfl ?_ | refine W.q (Ev.ldb1 1 (.t rfl) rfl ag9 rfl) rfl ?_ | refine W.q (Ev.ldb1 2 (.t rfl) rfl ag9 rfl) rfl ?_ | refine W.q (Ev.ldb1 3 (.t rfl) rfl ag9 rfl) rfl ?_
  refine W.callv (caps := []) (avs := [_]) (c_check1 p.name (by omega)) (.t rfl) ⟨(.t rfl), trivial⟩ rfl (.refl _) rfl ?_
  rintro _ _ ⟨rfl, rfl⟩
  refine W.q (Ev.move (.t rfl)) rfl ?_
  first | refine W.qgF rfl rfl (Ev.lde1 (.t rfl) ag111) rfl ?_ | refine W.qgF rfl rfl (Ev.ldb1 0 (.t rfl) rfl ag111 rfl) rfl ?_ | refine W.qgF rfl rfl (Ev.ldb1 1 (.t rfl) rfl ag111 rfl) rfl ?_ | refine W.qgF rfl rfl (Ev.ldb1 2 (.t rfl) rfl ag111 rfl) rfl ?_ | refine W.qgF rfl rfl (Ev.ldb1 3 (.t rfl) rfl ag111 rfl) rfl ?_
  first | refine W.qgF rfl rfl (Ev.fae (.t rfl) fa32_1 rfl) rfl ?_ | refine W.qgF rfl rfl (Ev.fab (.t rfl) fa32_1) rfl ?_ | refine W.qgF rfl rfl (Ev.faa (.t rfl) fa32_1) rfl ?_
  first | refine W.qgF rfl rfl (Ev.lde1 (.c rfl) ag9) rfl ?_ | refine W.qgF rfl rfl (Ev.ldb1 0 (.c rfl) rfl ag9 rfl) rfl ?_ | refine W.qgF rfl rfl (Ev.ldb1 1 (.c rfl) rfl ag9 rfl) rfl ?_ | refine W.qgF rfl rfl (Ev.ldb1 2 (.c rfl) rfl ag9 rfl) rfl ?_ | refine W.qgF rfl rfl (Ev.ldb1 3 (.c rfl) rfl ag9 rfl) rfl ?_
  refine W.callgF (caps := []) (avs := [_]) rfl rfl (fun hg => c_check1 p.attr (by omega)) (fun hg => (.i rfl (fun _ => hg))) (fun hg => ⟨(.i rfl (fun _ => hg)), trivial⟩) rfl (.refl _) rfl ?_
  refine W.q (Ev.or (.t rfl) ⟨_, _, rfl, rfl, by first | (simp; done) | (intro hg_ hp_; simp [hp_]; done) | (simp <;> omega; done) | (simp_all; done) | grind⟩) rfl ?_
  refine W.q (Ev.assign (.t rfl)) rfl ?_
  refine W.nil ?_
  refine W.then ?_
  refine W.ret ?_
  refine W.retn (M' := [.box b 111 _]) (D := [_]) (rs := [.tmp 3]) (avs := [_]) Try.results68 ⟨rfl, trivial⟩ rfl (List.Perm.swap _ _ []) ?_
  exact ⟨rfl, rfl⟩

theorem c_check (l : List Pk) (h0 : 0 < l.length) (h1 : l.length ≤ 10) (hk : ∀ p ∈ l, p.ok) : FnP Try.prog 51 [.sl 3 (l.map kav)] (.int 0) :=  by
  refine FnC.mk Try.func51 (by kernel_rfl) rfl Try.ntmps51 rfl (fun w0 F => ?_)
  have hll : (l.map kav).length = l.length := List.length_map ..
  refine W.seq ?_
  refine W.region ?_
  refine W.q (Ev.assign .k) rfl ?_
  refine W.nil ?_
  refine W.then ?_
  refine W.seq ?_
  refine W.block ?_
  refine W.seq ?_
  refine W.region ?_
  refine W.q (Ev.move (.t rfl)) rfl ?_
  first | refine W.q (Ev.lensl (.t rfl) Try.underlying23) rfl ?_ | refine W.q (Ev.lenar (i := 0) (.t rfl) rfl Try.underlying23) rfl ?_ | refine W.q (Ev.lenar (i := 1) (.t rfl) rfl Try.underlying23) rfl ?_ | refine W.q (Ev.lenar (i := 2) (.t rfl) rfl Try.underlying23) rfl ?_ | refine W.q (Ev.lenar (i := 3) (.t rfl) rfl Try.underlying23) rfl ?_
  refine W.q (Ev.eqi (.t rfl) .k) rfl ?_
  refine W.q (Ev.assign (.t rfl)) rfl ?_
  refine W.nil ?_
  refine W.then ?_
  refine W.is (t := 4) (g := true) (av' := .lit (.bool false)) rfl (congrArg (fun b => AV.lit (.bool b)) (by exact beq_eq_false_iff_ne.2 (by omega))) ?_
  refine W.condF (.t rfl) ?_
  refine W.seq ?_
  refine W.region ?_
  refine W.q (Ev.move (.t rfl)) rfl ?_
  first | refine W.q (Ev.lensl (.t rfl) Try.underlying23) rfl ?_ | refine W.q (Ev.lenar (i := 0) (.t rfl) rfl Try.underlying23) rfl ?_ | refine W.q (Ev.lenar (i := 1) (.t rfl) rfl Try.underlying23) rfl ?_ | refine W.q (Ev.lenar (i := 2) (.t rfl) rfl Try.underlying23) rfl ?_ | refine W.q (Ev.lenar (i := 3) (.t rfl) rfl Try.underlying23) rfl ?_
  refine W.q (Ev.gti (.t rfl) .k) rfl ?_
  refine W.q (Ev.assign (.t rfl)) rfl ?_
  refine W.nil ?_
  refine W.then ?_
  refine W.is (t := 8) (g := true) (av' := .lit (.bool false)) rfl (congrArg (fun b => AV.lit (.bool b)) (by exact decide_eq_false (by omega))) ?_
  refine W.condF (.t rfl) ?_
  refine W.skip ?_
  refine W.blk_normal ?_
  refine W.then ?_
  refine W.seq ?_
  refine W.region ?_
  refine W.alloc ty111 rfl rfl ?_
  intro b3
  first | refine W.stb 0 (.t rfl) .f rfl ty111 rfl rfl rfl ?_ | refine W.stb 1 (.t rfl) .f rfl ty111 rfl rfl rfl ?_ | refine W.stb 2 (.t rfl) .f rfl ty111 rfl rfl rfl ?_ | refine W.stb 3 (.t rfl) .f rfl ty111 rfl rfl rfl ?_
  refine W.nil ?_
  refine W.then ?_
  refine W.seq ?_
  refine W.seq ?_
  refine W.region ?_
  refine W.q (Ev.move (.t rfl)) rfl ?_
  refine W.q (Ev.mkfn (caps := [.tmp 3]) (vs := [_]) ⟨(.t rfl), trivial⟩) rfl ?_
  refine W.call (c_ContainsFuncP l 68 [.pointer (some ⟨b3, 0, none⟩)] [.box b3 111 [.lit (.func (.func 66) #[] #[])]] Pk.odd (fun d hd => c_check2 d (hk d hd).n (hk d hd).a b3) (by omega)) ⟨(.t rfl), (.t rfl), trivial⟩ (.refl _) rfl ?_
  rintro _ _ ⟨rfl, rfl⟩
  refine W.nil ?_
  refine W.then ?_
  refine W.is (t := 14) (g := true) (av' := .lit (.bool false)) rfl (congrArg (fun b => AV.lit (.bool b)) (by exact Pk.odd_none l hk)) ?_
  refine W.condF (.t rfl) ?_
  refine W.skip ?_
  refine W.then ?_
  refine W.seq ?_
  refine W.region ?_
  refine W.q (Ev.assign .k) rfl ?_
  refine W.nil ?_
  refine W.then ?_
  refine W.ret ?_
  refine W.retn (M' := []) (D := _) (rs := [.tmp 2]) (avs := [_]) Try.results51 ⟨rfl, trivial⟩ rfl (.refl _) ?_
  exact ⟨rfl, rfl⟩

end WCheck

end Go.Proofs.Yteepllfbnoaiaaa
