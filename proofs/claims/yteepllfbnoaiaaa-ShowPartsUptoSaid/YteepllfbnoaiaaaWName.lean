/-
  Names.
-/
import Derived.Test.YteepllfbnoaiaaaCallG
import Derived.Test.YteepllfbnoaiaaaBase
set_option linter.unusedVariables false
set_option linter.unusedSimpArgs false
set_option maxRecDepth 100000
namespace Go.Proofs.Yteepllfbnoaiaaa
open Go.Vl

namespace WName

theorem c_indexFunc (s : List UInt8) (hs : s.length ≤ 17592186044416) (g : Nat) (caps : List Value) (M0 : List ME) (p : Int → Bool) (hg : ∀ r : Nat, FnC Try.prog g ([.lit (.int .i32 (r : Int))] ++ caps.map .lit) M0 (fun r' M => r' = .bool (p r) ∧ M = M0)) (tr : Bool) : FnC Try.prog 96 [.str s, .lit (.func (.func g) #[] caps.toArray), .bool tr] M0 (fun r M => M = M0 ∧ ∃ k : Int, r = .int k ∧ decide (0 ≤ k) = (runes s).any fun r => p r == tr) :=  by
  refine FnC.mk Try.func96 (by kernel_rfl) rfl Try.ntmps96 rfl (fun w0 F => ?_)
  refine W.seq ?_
  refine W.region ?_
  refine W.q (Ev.assign .k) rfl ?_
  refine W.nil ?_
  refine W.then ?_
  refine W.seq ?_
  refine W.seq ?_
  refine W.region ?_
  refine W.q (Ev.move (.t rfl)) rfl ?_
  refine W.rng (.t rfl) Try.underlying9 rfl ?_
  intro b10
  refine W.nil ?_
  refine W.then ?_
  refine W.block ?_
  refine W.loop (D := []) (ι := Nat) (fun q => [(10, true, .lit (.pointer (some ⟨b10, 0, none⟩))), (1, true, .lit (.func (.func g) #[] caps.toArray)), (2, true, .bool tr)]) (fun q => .obj b10 (.stringIter ⟨s.toArray⟩ q) :: M0) (fun q => q ≤ s.length ∧ ((runes s).any fun r => p r == tr) = ((runes (s.drop q)).any fun r => p r == tr)) (fun q => s.length - q) 0 ⟨rfl, rfl, rfl, trivial⟩ (by rw [List.append_nil]) ⟨Nat.zero_le _, by simp⟩ ?_
  rintro q ⟨hp1, hp2⟩
  dsimp only at hp1 hp2 ⊢
  have hle := dec_le (s.drop q)
  by_cases hp : q < s.length
  · have hw := dec_width (s.drop q) (by intro e; have := congrArg List.length e; simp at this; omega)
    rw [List.length_drop] at hw
    rw [runes_drop s q hp, List.any_cons] at hp2
    refine W.seq ?_
    refine W.region ?_
    first | refine W.nxtT 0 (.t rfl) rfl (by omega) rfl ?_ | refine W.nxtF 0 (.t rfl) rfl (by omega) rfl ?_ | refine W.nxtT 1 (.t rfl) rfl (by omega) rfl ?_ | refine W.nxtF 1 (.t rfl) rfl (by omega) rfl ?_ | refine W.nxtT 2 (.t rfl) rfl (by omega) rfl ?_ | refine W.nxtF 2 (.t rfl) rfl (by omega) rfl ?_ | refine W.nxtT 3 (.t rfl) rfl (by omega) rfl ?_ | refine W.nxtF 3 (.t rfl) rfl (by omega) rfl ?_
    refine W.q (Ev.extract (.t rfl) rfl) rfl ?_
    refine W.nil ?_
    refine W.then ?_
    refine W.seq ?_
    refine W.condT (.t rfl) ?_
    refine W.skip ?_
    refine W.then ?_
    refine W.block ?_
    refine W.seq ?_
    refine W.region ?_
    refine W.q (Ev.extract (.t rfl) rfl) rfl ?_
    refine W.q (Ev.extract (.t rfl) rfl) rfl ?_
    refine W.q (Ev.assign (.t rfl)) rfl ?_
    refine W.q (Ev.assign (.t rfl)) rfl ?_
    refine W.nil ?_
    refine W.then ?_
    refine W.seq ?_
    refine W.region ?_
    refine W.q (Ev.move (.t rfl)) rfl ?_
    refine W.q (Ev.move (.t rfl)) rfl ?_
    refine W.callv (caps := caps) (avs := [_]) (hg (dec (s.drop q)).1) (.t rfl) ⟨(.t rfl), trivial⟩ rfl (List.perm_append_comm (l₁ := [_])) rfl ?_
    rintro _ M' ⟨rfl, hM⟩
    rw [hM]
    refine W.q (Ev.move (.t rfl)) rfl ?_
    refine W.q (Ev.eqb (.t rfl) (.t rfl) Try.underlying4) rfl ?_
    refine W.nil ?_
    refine W.then ?_
    refine W.cond (.t rfl) (fun hc_t19 => ?_) (fun hc_t19 => ?_)
    · refine W.seq ?_
      refine W.region ?_
      refine W.q (Ev.move (.t rfl)) rfl ?_
      refine W.q (Ev.assign (.t rfl)) rfl ?_
      refine W.nil ?_
      refine W.then ?_
      refine W.ret ?_
      refine W.blk_ret ?_
      refine W.then_ret ?_
      refine W.blk_ret ?_
      refine W.then_ret ?_
      refine W.retn (M' := M0) (D := [_]) (rs := [.tmp 6]) (avs := [_]) Try.results96 ⟨rfl, trivial⟩ rfl (by first | exact .refl _ | exact List.perm_append_comm (l₁ := [_])) ?_
      refine ⟨rfl, _, rfl, ?_⟩
      rw [hp2]
      first | (rw [hc_t19, Bool.true_or]; simp; done) | simp
    · refine W.skip ?_
      refine W.blk_normal ?_
      refine W.then ?_
      refine W.reach (D := []) (q + (dec (s.drop q)).2) ⟨rfl, rfl, rfl, trivial⟩ (by rw [List.append_nil]; exact List.perm_append_comm (l₂ := [_])) ⟨⟨by omega, ?_⟩, by show _ - _ < _ - _; omega⟩
      rw [hp2, hc_t19, Bool.false_or]
  · have hsd : s.drop q = [] := List.drop_of_length_le (by omega)
    rw [hsd, runes_nil] at hp2
    refine W.seq ?_
    refine W.region ?_
    first | refine W.nxtT 0 (.t rfl) rfl (by omega) rfl ?_ | refine W.nxtF 0 (.t rfl) rfl (by omega) rfl ?_ | refine W.nxtT 1 (.t rfl) rfl (by omega) rfl ?_ | refine W.nxtF 1 (.t rfl) rfl (by omega) rfl ?_ | refine W.nxtT 2 (.t rfl) rfl (by omega) rfl ?_ | refine W.nxtF 2 (.t rfl) rfl (by omega) rfl ?_ | refine W.nxtT 3 (.t rfl) rfl (by omega) rfl ?_ | refine W.nxtF 3 (.t rfl) rfl (by omega) rfl ?_
    refine W.q (Ev.extract (.t rfl) rfl) rfl ?_
    refine W.nil ?_
    refine W.then ?_
    refine W.seq ?_
    refine W.condF (.t rfl) ?_
    refine W.exit ?_
    refine W.then_exit ?_
    refine W.then_exit ?_
    refine W.blk_hit ?_
    refine W.then ?_
    refine W.seq ?_
    refine W.region ?_
    refine W.q (Ev.assign .k) rfl ?_
    refine W.nil ?_
    refine W.then ?_
    refine W.ret ?_
    refine W.retn (M' := M0) (D := [_]) (rs := [.tmp 6]) (avs := [_]) Try.results96 ⟨rfl, trivial⟩ rfl (by first | exact .refl _ | exact List.perm_append_comm (l₁ := [_])) ?_
    refine ⟨rfl, _, rfl, ?_⟩
    rw [hp2]
    first | (rw [hc_t19, Bool.true_or]; simp; done) | simp

theorem c_IndexFunc (s : List UInt8) (hs : s.length ≤ 17592186044416) (g : Nat) (caps : List Value) (M0 : List ME) (p : Int → Bool) (hg : ∀ r : Nat, FnC Try.prog g ([.lit (.int .i32 (r : Int))] ++ caps.map .lit) M0 (fun r' M => r' = .bool (p r) ∧ M = M0)) : FnC Try.prog 92 [.str s, .lit (.func (.func g) #[] caps.toArray)] M0 (fun r M => M = M0 ∧ ∃ k : Int, r = .int k ∧ decide (0 ≤ k) = (runes s).any fun r => p r) :=  by
  refine FnC.mk Try.func92 (by kernel_rfl) rfl Try.ntmps92 rfl (fun w0 F => ?_)
  refine W.seq ?_
  refine W.region ?_
  refine W.q (Ev.assign .k) rfl ?_
  refine W.nil ?_
  refine W.then ?_
  refine W.seq ?_
  refine W.region ?_
  refine W.q (Ev.move (.t rfl)) rfl ?_
  refine W.q (Ev.move (.t rfl)) rfl ?_
  refine W.call (c_indexFunc s hs g caps M0 p hg true) ⟨(.t rfl), (.t rfl), .k, trivial⟩ ((List.Perm.of_eq (List.append_nil _).symm)) rfl ?_
  rintro _ M' ⟨hM, k, rfl, hk⟩
  rw [hM, List.append_nil]
  refine W.q (Ev.assign (.t rfl)) rfl ?_
  refine W.nil ?_
  refine W.then ?_
  refine W.ret ?_
  refine W.retn (M' := M0) (D := []) (rs := [.tmp 4]) (avs := [_]) Try.results92 ⟨rfl, trivial⟩ rfl (List.Perm.of_eq (List.append_nil _).symm) ?_
  exact ⟨rfl, k, rfl, by rw [hk]; simp⟩

theorem c_ContainsFunc (s : List UInt8) (hs : s.length ≤ 17592186044416) (g : Nat) (caps : List Value) (M0 : List ME) (p : Int → Bool) (hg : ∀ r : Nat, FnC Try.prog g ([.lit (.int .i32 (r : Int))] ++ caps.map .lit) M0 (fun r' M => r' = .bool (p r) ∧ M = M0)) : FnC Try.prog 80 [.str s, .lit (.func (.func g) #[] caps.toArray)] M0 (fun r M => r = .bool ((runes s).any fun r => p r) ∧ M = M0) :=  by
  refine FnC.mk Try.func80 (by kernel_rfl) rfl Try.ntmps80 rfl (fun w0 F => ?_)
  refine W.seq ?_
  refine W.region ?_
  refine W.q (Ev.assign .k) rfl ?_
  refine W.nil ?_
  refine W.then ?_
  refine W.seq ?_
  refine W.region ?_
  refine W.q (Ev.move (.t rfl)) rfl ?_
  refine W.q (Ev.move (.t rfl)) rfl ?_
  refine W.call (c_IndexFunc s hs g caps M0 p hg) ⟨(.t rfl), (.t rfl), trivial⟩ ((List.Perm.of_eq (List.append_nil _).symm)) rfl ?_
  rintro _ M' ⟨hM, k, rfl, hk⟩
  rw [hM, List.append_nil]
  refine W.q (Ev.gei (.t rfl) .k) rfl ?_
  refine W.q (Ev.assign (.t rfl)) rfl ?_
  refine W.nil ?_
  refine W.then ?_
  refine W.ret ?_
  refine W.retn (M' := M0) (D := []) (rs := [.tmp 4]) (avs := [_]) Try.results80 ⟨rfl, trivial⟩ rfl (List.Perm.of_eq (List.append_nil _).symm) ?_
  exact ⟨congrArg AV.bool hk, rfl⟩

theorem c_Name1 (r : Int) : FnP Try.prog 81 [.lit (.int .i32 r)] (.bool (!(nameCh r))) :=  by
  refine FnC.mk Try.func81 (by kernel_rfl) rfl Try.ntmps81 rfl (fun w0 F => ?_)
  refine W.seq ?_
  refine W.region ?_
  refine W.q (Ev.assign .k) rfl ?_
  refine W.nil ?_
  refine W.then ?_
  refine W.seq ?_
  refine W.region ?_
  refine W.q (Ev.move (.t rfl)) rfl ?_
  refine W.q (Ev.gei (.t rfl) .k) rfl ?_
  refine W.q (Ev.move (.t rfl)) rfl ?_
  refine W.qgT rfl rfl (Ev.move (.t rfl)) rfl ?_
  refine W.qgT rfl rfl (Ev.lei (.c rfl) .k) rfl ?_
  refine W.q (Ev.and (.t rfl) ⟨_, _, rfl, rfl, by first | (simp; done) | (intro hg_ hp_; simp [hp_]; done) | (simp <;> omega; done) | (simp_all; done) | grind⟩) rfl ?_
  refine W.q (Ev.move (.t rfl)) rfl ?_
  refine W.qgF rfl rfl (Ev.move (.t rfl)) rfl ?_
  refine W.qgF rfl rfl (Ev.gei (.c rfl) .k) rfl ?_
  refine W.qgF rfl rfl (Ev.move (.c rfl)) rfl ?_
  refine W.qgT' rfl rfl (Ev.move (.t rfl)) rfl ?_
  refine W.qgT' rfl rfl (Ev.lei (.c rfl) .k) rfl ?_
  refine W.qgF rfl rfl (Ev.and (.c rfl) ⟨_, _, rfl, rfl, by first | (simp; done) | (intro hg_ hp_; simp [hp_]; done) | (simp <;> omega; done) | (simp_all; done) | grind⟩) rfl ?_
  refine W.q (Ev.or (.t rfl) ⟨_, _, rfl, rfl, by first | (simp; done) | (intro hg_ hp_; simp [hp_]; done) | (simp <;> omega; done) | (simp_all; done) | grind⟩) rfl ?_
  refine W.q (Ev.move (.t rfl)) rfl ?_
  refine W.qgF rfl rfl (Ev.move (.t rfl)) rfl ?_
  refine W.qgF rfl rfl (Ev.eqi (.c rfl) .k) rfl ?_
  refine W.q (Ev.or (.t rfl) ⟨_, _, rfl, rfl, by first | (simp; done) | (intro hg_ hp_; simp [hp_]; done) | (simp <;> omega; done) | (simp_all; done) | grind⟩) rfl ?_
  refine W.q (Ev.not (.t rfl)) rfl ?_
  refine W.q (Ev.assign (.t rfl)) rfl ?_
  refine W.nil ?_
  refine W.then ?_
  refine W.ret ?_
  refine W.retn (M' := []) (rs := [.tmp 2]) (avs := [_]) Try.results81 ⟨rfl, trivial⟩ rfl (.refl _) ?_
  exact ⟨congrArg AV.bool rfl, rfl⟩

theorem c_Name (s : List UInt8) (hs : s.length ≤ 17592186044416) : FnP Try.prog 59 [.str s] (.bool (nameOk s)) :=  by
  refine FnC.mk Try.func59 (by kernel_rfl) rfl Try.ntmps59 rfl (fun w0 F => ?_)
  refine W.seq ?_
  refine W.region ?_
  refine W.q (Ev.assign .k) rfl ?_
  refine W.nil ?_
  refine W.then ?_
  refine W.seq ?_
  refine W.seq ?_
  refine W.region ?_
  refine W.q (Ev.move (.t rfl)) rfl ?_
  refine W.q (Ev.eqs (.t rfl) .k) rfl ?_
  refine W.q (Ev.move (.t rfl)) rfl ?_
  refine W.qgF rfl rfl (Ev.move (.t rfl)) rfl ?_
  refine W.qgF rfl rfl (Ev.lens (.c rfl) Try.underlying9) rfl ?_
  refine W.qgF rfl rfl (Ev.gti (.c rfl) .k) rfl ?_
  refine W.q (Ev.or (.t rfl) ⟨_, _, rfl, rfl, by first | (simp; done) | (intro hg_ hp_; simp [hp_]; done) | (simp <;> omega; done) | (simp_all; done) | grind⟩) rfl ?_
  refine W.q (Ev.move (.t rfl)) rfl ?_
  refine W.qgF rfl rfl (Ev.move (.t rfl)) rfl ?_
  refine W.qgF rfl rfl (Ev.ats' (.c rfl) .k Try.underlying9 (fun hg => by have h0 : s ≠ [] := (by rintro rfl; simp at hg); have := List.length_pos_iff.2 h0; omega)) rfl ?_
  refine W.qgF rfl rfl (Ev.lti (.c rfl) .k) rfl ?_
  refine W.q (Ev.or (.t rfl) ⟨_, _, rfl, rfl, by first | (simp; done) | (intro hg_ hp_; simp [hp_]; done) | (simp <;> omega; done) | (simp_all; done) | grind⟩) rfl ?_
  refine W.q (Ev.move (.t rfl)) rfl ?_
  refine W.qgF rfl rfl (Ev.move (.t rfl)) rfl ?_
  refine W.qgF rfl rfl (Ev.ats' (.c rfl) .k Try.underlying9 (fun hg => by have h0 : s ≠ [] := (by rintro rfl; simp at hg); have := List.length_pos_iff.2 h0; omega)) rfl ?_
  refine W.qgF rfl rfl (Ev.gti (.c rfl) .k) rfl ?_
  refine W.q (Ev.or (.t rfl) ⟨_, _, rfl, rfl, by first | (simp; done) | (intro hg_ hp_; simp [hp_]; done) | (simp <;> omega; done) | (simp_all; done) | grind⟩) rfl ?_
  refine W.nil ?_
  refine W.then ?_
  refine W.cond (.t rfl) (fun hc_t19 => ?_) (fun hc_t19 => ?_)
  · have hq : nameOk s = false := by have h := hc_t19; rw [show Int.toNat 0 = 0 from rfl] at h; simp only [nameOk, h, Bool.not_true, Bool.false_and]
    refine W.seq ?_
    refine W.region ?_
    refine W.q (Ev.assign .k) rfl ?_
    refine W.nil ?_
    refine W.then ?_
    refine W.ret ?_
    refine W.then_ret ?_
    refine W.retn (M' := []) (rs := [.tmp 2]) (avs := [_]) Try.results59 ⟨rfl, trivial⟩ rfl (.refl _) ?_
    first | exact ⟨congrArg AV.bool hq.symm, rfl⟩ | exact ⟨congrArg AV.bool (by have h := hc_t19; rw [show Int.toNat 0 = 0 from rfl] at h; simp only [nameOk, h, Bool.not_false, Bool.true_and]), rfl⟩
  · refine W.skip ?_
    refine W.then ?_
    refine W.seq ?_
    refine W.region ?_
    refine W.q (Ev.move (.t rfl)) rfl ?_
    refine W.call (c_ContainsFunc s hs 81 [] [] (fun r => !(nameCh r)) (fun r => c_Name1 r)) ⟨(.t rfl), .f, trivial⟩ (.refl _) rfl ?_
    rintro _ _ ⟨rfl, rfl⟩
    refine W.q (Ev.not (.t rfl)) rfl ?_
    refine W.q (Ev.assign (.t rfl)) rfl ?_
    refine W.nil ?_
    refine W.then ?_
    refine W.ret ?_
    refine W.retn (M' := []) (rs := [.tmp 2]) (avs := [_]) Try.results59 ⟨rfl, trivial⟩ rfl (.refl _) ?_
    first | exact ⟨congrArg AV.bool hq.symm, rfl⟩ | exact ⟨congrArg AV.bool (by have h := hc_t19; rw [show Int.toNat 0 = 0 from rfl] at h; simp only [nameOk, h, Bool.not_false, Bool.true_and]), rfl⟩

end WName

end Go.Proofs.Yteepllfbnoaiaaa
