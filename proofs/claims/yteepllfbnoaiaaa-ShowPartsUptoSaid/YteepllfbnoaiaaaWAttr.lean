/-
  Attributes that are looked for.
-/
import Derived.Test.YteepllfbnoaiaaaCallG
import Derived.Test.YteepllfbnoaiaaaBase
set_option linter.unusedVariables false
set_option linter.unusedSimpArgs false
set_option maxRecDepth 100000
namespace Go.Proofs.Yteepllfbnoaiaaa
open Go.Vl

namespace WAttr
theorem ty78 : Ty Try.prog 78 2 32 (.agg #[.string ⟨#[]⟩, .string ⟨#[]⟩]) := Ty.of (by kernel_rfl)
theorem ag78 : IsAgg Try.prog 78 true := ⟨_, Try.underlying78, rfl⟩
theorem c_IndexFunc (l : List Dc) (g : Nat) (caps : List Value) (M0 : List ME) (p : Dc → Bool) (hg : ∀ d ∈ l, FnC Try.prog g ([dav d] ++ caps.map .lit) M0 (fun r M => r = .bool (p d) ∧ M = M0)) (hn : l.length ≤ 1099511627776) : FnC Try.prog 93 [.sl 2 (l.map dav), .lit (.func (.func g) #[] caps.toArray)] M0 (fun r M => r = .int (idxI p l) ∧ M = M0) :=  by
  refine FnC.mk Try.func93 (by kernel_rfl) rfl Try.ntmps93 rfl (fun w0 F => ?_)
  have hnl : (l.map dav).length = l.length := List.length_map ..
  refine W.seq ?_
  refine W.region ?_
  refine W.q (Ev.assign .k) rfl ?_
  refine W.nil ?_
  refine W.then ?_
  refine W.seq ?_
  refine W.seq ?_
  refine W.region ?_
  refine W.q (Ev.move (.t rfl)) rfl ?_
  first | refine W.q (Ev.lensl (.t rfl) Try.underlying33) rfl ?_ | refine W.q (Ev.lenar (i := 0) (.t rfl) rfl Try.underlying33) rfl ?_ | refine W.q (Ev.lenar (i := 1) (.t rfl) rfl Try.underlying33) rfl ?_ | refine W.q (Ev.lenar (i := 2) (.t rfl) rfl Try.underlying33) rfl ?_ | refine W.q (Ev.lenar (i := 3) (.t rfl) rfl Try.underlying33) rfl ?_
  refine W.q (Ev.move .k) rfl ?_
  refine W.nil ?_
  refine W.then ?_
  refine W.block ?_
  refine W.loop (D := []) (ι := Nat) (fun i => [(8, true, .int (i : Int)), (7, true, .int ((l.map dav).length : Int)), (0, true, .sl 2 (l.map dav)), (1, true, .lit (.func (.func g) #[] caps.toArray))]) (fun _ => M0) (fun i => i ≤ l.length ∧ ∀ d ∈ l.take i, p d = false) (fun i => l.length - i) 0 ⟨rfl, rfl, rfl, rfl, trivial⟩ (List.Perm.of_eq (List.append_nil _).symm) ⟨Nat.zero_le _, by simp⟩ ?_
  rintro i ⟨hi1, hi2⟩
  dsimp only at hi1 hi2 ⊢
  rcases (show i < l.length ∨ i = l.length from by omega) with hlt | hend
  · have hga := getD_mapG dav ([], []) l i hlt
    refine W.seq ?_
    refine W.region ?_
    refine W.q (Ev.lti (.t rfl) (.t rfl)) rfl ?_
    refine W.nil ?_
    refine W.then ?_
    refine W.seq ?_
    refine W.is (t := 9) (g := true) (av' := .lit (.bool true)) rfl (congrArg (fun b => AV.lit (.bool b)) (by simp; omega)) ?_
    refine W.condT (.t rfl) ?_
    refine W.skip ?_
    refine W.then ?_
    refine W.seq ?_
    refine W.block ?_
    refine W.seq ?_
    refine W.region ?_
    refine W.q (Ev.move (.t rfl)) rfl ?_
    refine W.q (Ev.assign (.t rfl)) rfl ?_
    refine W.nil ?_
    refine W.then ?_
    refine W.seq ?_
    refine W.region ?_
    refine W.q (Ev.move (.t rfl)) rfl ?_
    refine W.q (Ev.move (.t rfl)) rfl ?_
    refine W.q (Ev.move (.t rfl)) rfl ?_
    refine W.q (Ev.at (E := 78) (.t rfl) (.t rfl) Try.underlying33 ty78 (fun _ => ⟨by omega, hga⟩) rfl rfl) rfl ?_
    first | refine W.q (Ev.lden (.t rfl) ag78 ty78 rfl rfl) rfl ?_ | refine W.q (Ev.ldbn 0 (.t rfl) rfl ag78 ty78 rfl) rfl ?_ | refine W.q (Ev.ldbn 1 (.t rfl) rfl ag78 ty78 rfl) rfl ?_ | refine W.q (Ev.ldbn 2 (.t rfl) rfl ag78 ty78 rfl) rfl ?_ | refine W.q (Ev.ldbn 3 (.t rfl) rfl ag78 ty78 rfl) rfl ?_
    refine W.callv (caps := caps) (avs := [_]) (hg (l.getD i ([], [])) (getD_memG ([], []) l i hlt)) (.t rfl) ⟨(.t rfl), trivial⟩ rfl ((List.Perm.of_eq (List.append_nil _).symm)) rfl ?_
    rintro _ M' ⟨rfl, hM⟩
    rw [hM, List.append_nil]
    refine W.nil ?_
    refine W.then ?_
    refine W.cond (.t rfl) (fun hc_t16 => ?_) (fun hc_t16 => ?_)
    · have hq := idxI_hit p ([], []) l i hlt hi2 hc_t16
      refine W.seq ?_
      refine W.region ?_
      refine W.q (Ev.move (.t rfl)) rfl ?_
      refine W.q (Ev.assign (.t rfl)) rfl ?_
      refine W.nil ?_
      refine W.then ?_
      refine W.ret ?_
      refine W.blk_ret ?_
      refine W.then_ret ?_
      refine W.then_ret ?_
      refine W.blk_ret ?_
      refine W.then_ret ?_
      refine W.retn (M' := M0) (D := []) (rs := [.tmp 4]) (avs := [_]) Try.results93 ⟨rfl, trivial⟩ rfl (List.Perm.of_eq (List.append_nil _).symm) ?_
      exact ⟨congrArg AV.int (by rw [hq]), rfl⟩
    · have hq : p (l.getD i ([], [])) = false := hc_t16
      refine W.skip ?_
      refine W.blk_normal ?_
      refine W.then ?_
      refine W.region ?_
      first | refine W.q (Ev.add (.t rfl) .k (fun _ => by omega)) rfl ?_ | refine W.q (Ev.addw (.t rfl) .k) rfl ?_
      refine W.q (Ev.move (.t rfl)) rfl ?_
      refine W.nil ?_
      refine W.then ?_
      refine W.reach (D := []) (i + 1) ⟨rfl, rfl, rfl, rfl, trivial⟩ (List.Perm.of_eq (List.append_nil _).symm) ⟨⟨by omega, ?_⟩, by omega⟩
      rw [take_getDG ([], []) l i hlt]
      intro d hd
      cases List.mem_append.1 hd with
      | inl h => exact hi2 d h
      | inr h => rw [List.mem_singleton.1 h]; exact hq
  · rw [List.take_of_length_le (by omega)] at hi2
    have hq := idxI_miss p l hi2
    refine W.seq ?_
    refine W.region ?_
    refine W.q (Ev.lti (.t rfl) (.t rfl)) rfl ?_
    refine W.nil ?_
    refine W.then ?_
    refine W.seq ?_
    refine W.is (t := 9) (g := true) (av' := .lit (.bool false)) rfl (congrArg (fun b => AV.lit (.bool b)) (by simp; omega)) ?_
    refine W.condF (.t rfl) ?_
    refine W.exit ?_
    refine W.then_exit ?_
    refine W.then_exit ?_
    refine W.blk_hit ?_
    refine W.then ?_
    refine W.seq ?_
    refine W.region ?_
    refine W.q (Ev.assign .k) rfl ?_
    refine W.nil ?_
    refine W.then ?_
    refine W.ret ?_
    refine W.retn (M' := M0) (D := []) (rs := [.tmp 4]) (avs := [_]) Try.results93 ⟨rfl, trivial⟩ rfl (List.Perm.of_eq (List.append_nil _).symm) ?_
    exact ⟨congrArg AV.int (by rw [hq]), rfl⟩

theorem c_ContainsFunc (l : List Dc) (g : Nat) (caps : List Value) (M0 : List ME) (p : Dc → Bool) (hg : ∀ d ∈ l, FnC Try.prog g ([dav d] ++ caps.map .lit) M0 (fun r M => r = .bool (p d) ∧ M = M0)) (hn : l.length ≤ 1099511627776) : FnC Try.prog 82 [.sl 2 (l.map dav), .lit (.func (.func g) #[] caps.toArray)] M0 (fun r M => r = .bool (l.any p) ∧ M = M0) :=  by
  refine FnC.mk Try.func82 (by kernel_rfl) rfl Try.ntmps82 rfl (fun w0 F => ?_)
  refine W.seq ?_
  refine W.region ?_
  refine W.q (Ev.assign .k) rfl ?_
  refine W.nil ?_
  refine W.then ?_
  refine W.seq ?_
  refine W.region ?_
  refine W.q (Ev.move (.t rfl)) rfl ?_
  refine W.q (Ev.move (.t rfl)) rfl ?_
  refine W.call (c_IndexFunc l g caps M0 p hg hn) ⟨(.t rfl), (.t rfl), trivial⟩ ((List.Perm.of_eq (List.append_nil _).symm)) rfl ?_
  rintro _ M' ⟨rfl, hM⟩
  rw [hM, List.append_nil]
  refine W.q (Ev.gei (.t rfl) .k) rfl ?_
  refine W.q (Ev.assign (.t rfl)) rfl ?_
  refine W.nil ?_
  refine W.then ?_
  refine W.ret ?_
  refine W.retn (M' := M0) (D := []) (rs := [.tmp 4]) (avs := [_]) Try.results82 ⟨rfl, trivial⟩ rfl (List.Perm.of_eq (List.append_nil _).symm) ?_
  exact ⟨congrArg AV.bool (idxI_any p l), rfl⟩

end WAttr

end Go.Proofs.Yteepllfbnoaiaaa
