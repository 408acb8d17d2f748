/-
  Merged: WName WSPart WNew WValid WToGoF WCheap.
-/
import Derived.Test.YtphlkdbglpcikaaGreatDoorG10
set_option linter.unusedVariables false
set_option linter.unusedSimpArgs false
set_option maxRecDepth 100000

section
namespace Go.Proofs.YtphlkdbglpcikaaGreatDoor
open Go.Vl
open Y
namespace WName
theorem c_indexFunc (s : List UInt8) (hs : s.length ≤ 17592186044416) (g : Nat) (caps : List Value) (M0 : List ME) (p : Int → Bool) (hg : ∀ r : Nat, FnC Tryz.prog g ([.lit (.int .i32 (r : Int))] ++ caps.map .lit) M0 (fun r' M => r' = .bool (p r) ∧ M = M0)) (tr : Bool) : FnC Tryz.prog 130 [.str s, .lit (.func (.func g) #[] caps.toArray), .bool tr] M0 (fun r M => M = M0 ∧ ∃ k : Int, r = .int k ∧ decide (0 ≤ k) = (runes s).any fun r => p r == tr) :=  by
 refine FnC.mk Tryz.func130 (by kernel_rfl) rfl Tryz.ntmps130 rfl (fun w0 F => ?_)
 refine W.s ?_; refine W.r ?_; refine W.q (.assign .k) rfl ?_; refine W.n ?_; refine W.h ?_; refine W.s ?_; refine W.s ?_; refine W.r ?_; refine W.q (.move (.t rfl)) rfl ?_; refine W.rng (.t rfl) Tryz.underlying9 rfl ?_; intro b10; refine W.n ?_; refine W.h ?_; refine W.b ?_; refine W.loop (D := []) (ι := Nat) (fun q => [(10, true, .lit (.pointer (some ⟨b10, 0, none⟩))), (1, true, .lit (.func (.func g) #[] caps.toArray)), (2, true, .bool tr)]) (fun q => .obj b10 (.stringIter ⟨s.toArray⟩ q) :: M0) (fun q => q ≤ s.length ∧ ((runes s).any fun r => p r == tr) = ((runes (s.drop q)).any fun r => p r == tr)) (fun q => s.length - q) 0 ⟨rfl, rfl, rfl, trivial⟩ (by rw [List.append_nil]) ⟨Nat.zero_le _, by simp⟩ ?_
 rintro q ⟨hp1, hp2⟩
 dsimp only at hp1 hp2 ⊢
 have hle := dec_le (s.drop q)
 by_cases hp : q < s.length
 ·have hw := dec_width (s.drop q) (by intro e; have := congrArg List.length e; simp at this; omega)
  rw [List.length_drop] at hw
  rw [runes_drop s q hp, List.any_cons] at hp2
  refine W.s (.r ?_)
  first | refine W.nxtT 0 (.t rfl) rfl (by omega) rfl ?_ | refine W.nxtF 0 (.t rfl) rfl (by omega) rfl ?_ | refine W.nxtT 1 (.t rfl) rfl (by omega) rfl ?_ | refine W.nxtF 1 (.t rfl) rfl (by omega) rfl ?_ | refine W.nxtT 2 (.t rfl) rfl (by omega) rfl ?_ | refine W.nxtF 2 (.t rfl) rfl (by omega) rfl ?_ | refine W.nxtT 3 (.t rfl) rfl (by omega) rfl ?_ | refine W.nxtF 3 (.t rfl) rfl (by omega) rfl ?_
  refine W.q (.extract (.t rfl) rfl) rfl (.n (.h (.s (.condT (.t rfl) (.k (.h (.b (.s (.r (.q (.extract (.t rfl) rfl) rfl (.q (.extract (.t rfl) rfl) rfl (.asg rfl rfl (.asg rfl rfl (.n (.h (.s (.r (.mv rfl rfl (.mv rfl rfl ?_))))))))))))))))))); refine W.callv (caps := caps) (avs := [_]) (hg (dec (s.drop q)).1) (.t rfl) ⟨(.t rfl), trivial⟩ rfl (List.perm_append_comm (l₁ := [_])) rfl ?_
  rintro _ M' ⟨rfl, hM⟩
  rw [hM]
  refine W.q (.move (.t rfl)) rfl ?_; refine W.q (.eqb (.t rfl) (.t rfl) Tryz.underlying4) rfl ?_; refine W.n ?_; refine W.h ?_; refine W.cond (.t rfl) (fun hc_t19 => ?_) (fun hc_t19 => ?_)
  ·refine W.s ?_
   refine W.r (.mv rfl rfl (.asg rfl rfl (.n (.h ?_)))); refine W.ret ?_; refine W.br (.hr (.br (.hr ?_))); refine W.retn (M' := M0) (D := [_]) (rs := [.tmp 6]) (avs := [_]) Tryz.results130 ⟨rfl, trivial⟩ rfl (by first | exact .refl _ | exact List.perm_append_comm (l₁ := [_])) ?_
   refine ⟨rfl, _, rfl, ?_⟩
   rw [hp2]
   first | (rw [hc_t19, Bool.true_or]; simp; done) | simp
  ·refine W.k ?_
   refine W.bn ?_; refine W.h ?_; refine W.reach (D := []) (q + (dec (s.drop q)).2) ⟨rfl, rfl, rfl, trivial⟩ (by rw [List.append_nil]; exact List.perm_append_comm (l₂ := [_])) ⟨⟨by omega, ?_⟩, by show _ - _ < _ - _; omega⟩
   rw [hp2, hc_t19, Bool.false_or]
 ·have hsd : s.drop q = [] := List.drop_of_length_le (by omega)
  rw [hsd, runes_nil] at hp2
  refine W.s (.r ?_)
  first | refine W.nxtT 0 (.t rfl) rfl (by omega) rfl ?_ | refine W.nxtF 0 (.t rfl) rfl (by omega) rfl ?_ | refine W.nxtT 1 (.t rfl) rfl (by omega) rfl ?_ | refine W.nxtF 1 (.t rfl) rfl (by omega) rfl ?_ | refine W.nxtT 2 (.t rfl) rfl (by omega) rfl ?_ | refine W.nxtF 2 (.t rfl) rfl (by omega) rfl ?_ | refine W.nxtT 3 (.t rfl) rfl (by omega) rfl ?_ | refine W.nxtF 3 (.t rfl) rfl (by omega) rfl ?_
  refine W.q (.extract (.t rfl) rfl) rfl (.n (.h (.s (.condF (.t rfl) (.ex (.he (.he (.bh (.h (.s (.r (.q (.assign .k) rfl (.n (.h ?_)))))))))))))); refine W.ret ?_; refine W.retn (M' := M0) (D := [_]) (rs := [.tmp 6]) (avs := [_]) Tryz.results130 ⟨rfl, trivial⟩ rfl (by first | exact .refl _ | exact List.perm_append_comm (l₁ := [_])) ?_
  refine ⟨rfl, _, rfl, ?_⟩
  rw [hp2]
  first | (rw [hc_t19, Bool.true_or]; simp; done) | simp
theorem c_IndexFunc (s : List UInt8) (hs : s.length ≤ 17592186044416) (g : Nat) (caps : List Value) (M0 : List ME) (p : Int → Bool) (hg : ∀ r : Nat, FnC Tryz.prog g ([.lit (.int .i32 (r : Int))] ++ caps.map .lit) M0 (fun r' M => r' = .bool (p r) ∧ M = M0)) : FnC Tryz.prog 113 [.str s, .lit (.func (.func g) #[] caps.toArray)] M0 (fun r M => M = M0 ∧ ∃ k : Int, r = .int k ∧ decide (0 ≤ k) = (runes s).any fun r => p r) :=  by
 refine FnC.mk Tryz.func113 (by kernel_rfl) rfl Tryz.ntmps113 rfl (fun w0 F => ?_)
 refine W.s (.r (.q (.assign .k) rfl (.n (.h (.s (.r (.mv rfl rfl (.mv rfl rfl ?_)))))))); refine W.call (c_indexFunc s hs g caps M0 p hg true) ⟨(.t rfl), (.t rfl), .k, trivial⟩ ((List.Perm.of_eq (List.append_nil _).symm)) rfl ?_
 rintro _ M' ⟨hM, k, rfl, hk⟩
 rw [hM, List.append_nil]
 refine W.asg rfl rfl (.n (.h ?_)); refine W.ret ?_; refine W.retn (M' := M0) (D := []) (rs := [.tmp 4]) (avs := [_]) Tryz.results113 ⟨rfl, trivial⟩ rfl (List.Perm.of_eq (List.append_nil _).symm) ?_
 exact ⟨rfl, k, rfl, by rw [hk]; simp⟩
theorem c_ContainsFunc (s : List UInt8) (hs : s.length ≤ 17592186044416) (g : Nat) (caps : List Value) (M0 : List ME) (p : Int → Bool) (hg : ∀ r : Nat, FnC Tryz.prog g ([.lit (.int .i32 (r : Int))] ++ caps.map .lit) M0 (fun r' M => r' = .bool (p r) ∧ M = M0)) : FnC Tryz.prog 83 [.str s, .lit (.func (.func g) #[] caps.toArray)] M0 (fun r M => r = .bool ((runes s).any fun r => p r) ∧ M = M0) :=  by
 refine FnC.mk Tryz.func83 (by kernel_rfl) rfl Tryz.ntmps83 rfl (fun w0 F => ?_)
 refine W.s (.r (.q (.assign .k) rfl (.n (.h (.s (.r (.mv rfl rfl (.mv rfl rfl ?_)))))))); refine W.call (c_IndexFunc s hs g caps M0 p hg) ⟨(.t rfl), (.t rfl), trivial⟩ ((List.Perm.of_eq (List.append_nil _).symm)) rfl ?_
 rintro _ M' ⟨hM, k, rfl, hk⟩
 rw [hM, List.append_nil]
 refine W.q (.gei (.t rfl) .k) rfl (.asg rfl rfl (.n (.h ?_))); refine W.ret ?_; refine W.retn (M' := M0) (D := []) (rs := [.tmp 4]) (avs := [_]) Tryz.results83 ⟨rfl, trivial⟩ rfl (List.Perm.of_eq (List.append_nil _).symm) ?_
 exact ⟨congrArg AV.bool hk, rfl⟩
theorem c_Name1 (r : Int) : FnP Tryz.prog 84 [.lit (.int .i32 r)] (.bool (!(nameCh r))) :=  by
 refine FnC.mk Tryz.func84 (by kernel_rfl) rfl Tryz.ntmps84 rfl (fun w0 F => ?_)
 refine W.s ?_; refine W.r ?_; refine W.q (.assign .k) rfl ?_; refine W.n ?_; refine W.h ?_; refine W.s ?_; refine W.r ?_; refine W.q (.move (.t rfl)) rfl ?_; refine W.q (.gei (.t rfl) .k) rfl ?_; refine W.q (.move (.t rfl)) rfl ?_; refine W.qgT rfl rfl (.move (.t rfl)) rfl ?_; refine W.qgT rfl rfl (.lei (.c rfl) .k) rfl ?_; refine W.q (.and (.t rfl) ⟨_, _, rfl, rfl, by first | (simp; done) | (intro hg_ hp_; simp [hp_]; done) | (simp <;> omega; done) | (simp_all; done) | grind⟩) rfl ?_; refine W.q (.move (.t rfl)) rfl ?_; refine W.qgF rfl rfl (.move (.t rfl)) rfl ?_; refine W.qgF rfl rfl (.gei (.c rfl) .k) rfl ?_; refine W.qgF rfl rfl (.move (.c rfl)) rfl ?_; refine W.qgT' rfl rfl (.move (.t rfl)) rfl ?_; refine W.qgT' rfl rfl (.lei (.c rfl) .k) rfl ?_; refine W.qgF rfl rfl (.and (.c rfl) ⟨_, _, rfl, rfl, by first | (simp; done) | (intro hg_ hp_; simp [hp_]; done) | (simp <;> omega; done) | (simp_all; done) | grind⟩) rfl ?_; refine W.q (.or (.t rfl) ⟨_, _, rfl, rfl, by first | (simp; done) | (intro hg_ hp_; simp [hp_]; done) | (simp <;> omega; done) | (simp_all; done) | grind⟩) rfl ?_; refine W.q (.move (.t rfl)) rfl ?_; refine W.qgF rfl rfl (.move (.t rfl)) rfl ?_; refine W.qgF rfl rfl (.eqi (.c rfl) .k) rfl ?_; refine W.q (.or (.t rfl) ⟨_, _, rfl, rfl, by first | (simp; done) | (intro hg_ hp_; simp [hp_]; done) | (simp <;> omega; done) | (simp_all; done) | grind⟩) rfl ?_; refine W.q (.not (.t rfl)) rfl ?_; refine W.q (.assign (.t rfl)) rfl ?_; refine W.n ?_; refine W.h ?_; refine W.ret ?_; refine W.retn (M' := []) (rs := [.tmp 2]) (avs := [_]) Tryz.results84 ⟨rfl, trivial⟩ rfl (.refl _) ?_
 exact ⟨congrArg AV.bool rfl, rfl⟩
theorem c_Name (s : List UInt8) (hs : s.length ≤ 17592186044416) : FnP Tryz.prog 46 [.str s] (.bool (nameOk s)) :=  by
 refine FnC.mk Tryz.func46 (by kernel_rfl) rfl Tryz.ntmps46 rfl (fun w0 F => ?_)
 refine W.s ?_; refine W.r ?_; refine W.q (.assign .k) rfl ?_; refine W.n ?_; refine W.h ?_; refine W.s ?_; refine W.s ?_; refine W.r ?_; refine W.q (.move (.t rfl)) rfl ?_; refine W.q (.eqs (.t rfl) .k) rfl ?_; refine W.q (.move (.t rfl)) rfl ?_; refine W.qgF rfl rfl (.move (.t rfl)) rfl ?_; refine W.qgF rfl rfl (.lens (.c rfl) Tryz.underlying9) rfl ?_; refine W.qgF rfl rfl (.gti (.c rfl) .k) rfl ?_; refine W.q (.or (.t rfl) ⟨_, _, rfl, rfl, by first | (simp; done) | (intro hg_ hp_; simp [hp_]; done) | (simp <;> omega; done) | (simp_all; done) | grind⟩) rfl ?_; refine W.q (.move (.t rfl)) rfl ?_; refine W.qgF rfl rfl (.move (.t rfl)) rfl ?_; refine W.qgF rfl rfl (.ats' (.c rfl) .k Tryz.underlying9 (fun hg => by have h0 : s ≠ [] := (by rintro rfl; simp at hg); have := List.length_pos_iff.2 h0; omega)) rfl ?_; refine W.qgF rfl rfl (.lti (.c rfl) .k) rfl ?_; refine W.q (.or (.t rfl) ⟨_, _, rfl, rfl, by first | (simp; done) | (intro hg_ hp_; simp [hp_]; done) | (simp <;> omega; done) | (simp_all; done) | grind⟩) rfl ?_; refine W.q (.move (.t rfl)) rfl ?_; refine W.qgF rfl rfl (.move (.t rfl)) rfl ?_; refine W.qgF rfl rfl (.ats' (.c rfl) .k Tryz.underlying9 (fun hg => by have h0 : s ≠ [] := (by rintro rfl; simp at hg); have := List.length_pos_iff.2 h0; omega)) rfl ?_; refine W.qgF rfl rfl (.gti (.c rfl) .k) rfl ?_; refine W.q (.or (.t rfl) ⟨_, _, rfl, rfl, by first | (simp; done) | (intro hg_ hp_; simp [hp_]; done) | (simp <;> omega; done) | (simp_all; done) | grind⟩) rfl ?_; refine W.n ?_; refine W.h ?_; refine W.cond (.t rfl) (fun hc_t19 => ?_) (fun hc_t19 => ?_)
 ·have hq : nameOk s = false := by have h := hc_t19; rw [show Int.toNat 0 = 0 from rfl] at h; simp only [nameOk, h, Bool.not_true, Bool.false_and]
  refine W.s (.r (.q (.assign .k) rfl (.n (.h ?_)))); refine W.ret ?_; refine W.hr ?_; refine W.retn (M' := []) (rs := [.tmp 2]) (avs := [_]) Tryz.results46 ⟨rfl, trivial⟩ rfl (.refl _) ?_
  first | exact ⟨congrArg AV.bool hq.symm, rfl⟩ | exact ⟨congrArg AV.bool (by have h := hc_t19; rw [show Int.toNat 0 = 0 from rfl] at h; simp only [nameOk, h, Bool.not_false, Bool.true_and]), rfl⟩
 ·refine W.k ?_
  refine W.h (.s (.r (.mv rfl rfl ?_))); refine W.call (c_ContainsFunc s hs 84 [] [] (fun r => !(nameCh r)) (fun r => c_Name1 r)) ⟨(.t rfl), .f, trivial⟩ (.refl _) rfl ?_
  rintro _ _ ⟨rfl, rfl⟩
  refine W.q (.not (.t rfl)) rfl (.asg rfl rfl (.n (.h ?_))); refine W.ret ?_; refine W.retn (M' := []) (rs := [.tmp 2]) (avs := [_]) Tryz.results46 ⟨rfl, trivial⟩ rfl (.refl _) ?_
  first | exact ⟨congrArg AV.bool hq.symm, rfl⟩ | exact ⟨congrArg AV.bool (by have h := hc_t19; rw [show Int.toNat 0 = 0 from rfl] at h; simp only [nameOk, h, Bool.not_false, Bool.true_and]), rfl⟩
end WName
end Go.Proofs.YtphlkdbglpcikaaGreatDoor
end
section
namespace Go.Proofs.YtphlkdbglpcikaaGreatDoor
open Go.Vl
open Y
namespace WSPart
set_option maxHeartbeats 1000000 in
theorem c_form (t : Tp) (h : Sch.formB t = true) : FnP Tryz.prog 49 [tpv t] (.bool true) :=  by
 refine FnC.mk Tryz.func49 (by kernel_rfl) rfl Tryz.ntmps49 rfl (fun w0 F => ?_)
 refine W.s ?_; refine W.r ?_; refine W.box (.t rfl) rfl rfl ?_; intro b1; refine W.q (.assign .k) rfl ?_; refine W.n ?_; refine W.h ?_; refine W.s ?_; refine W.s ?_; refine W.r ?_
 refine W.q (.fab (.t rfl) fa28_0) rfl (.q (.ldb1 0 (.t rfl) rfl ag9 rfl) rfl ?_)
 refine W.n ?_; refine W.h ?_; refine W.b ?_; refine W.s ?_; refine W.r ?_; refine W.q (.eqs (.t rfl) .k) rfl ?_; refine W.q (.assign (.t rfl)) rfl ?_; refine W.n ?_; refine W.h ?_; refine W.cond (.t rfl) (fun hc_t5 => ?_) (fun hc_t5 => ?_)
 ·skip
  refine W.s (.r (.q (.fab (.t rfl) fa28_1) rfl (.q (.ldb1 0 (.t rfl) rfl ag9 rfl) rfl (.q (.eqs (.t rfl) .k) rfl (.mv rfl rfl (.qgT rfl rfl (.fab (.t rfl) fa28_2) rfl (.qgT rfl rfl (.ldb1 0 (.c rfl) rfl ag26 rfl) rfl (.qgT rfl rfl (.lensl (.c rfl) Tryz.underlying26) rfl (.qgT rfl rfl (.eqi (.c rfl) .k) rfl ?_))))))))); refine W.q (.and (.t rfl) ⟨_, _, rfl, rfl, by ((simp; done))⟩) rfl ?_; refine W.asg rfl rfl (.n (.h ?_)); refine W.ret ?_; refine W.br (.hr ?_); refine W.retn (M' := []) (D := _) (rs := [.tmp 2]) (avs := [_]) Tryz.results49 ⟨rfl, trivial⟩ rfl (.refl _) ?_
  exact ⟨congrArg AV.bool (by ((unfold Sch.formB at h; simp_all; done))), rfl⟩
 ·skip
  refine W.s ?_; refine W.s ?_; refine W.r ?_; refine W.q (.eqs (.t rfl) .k) rfl ?_; refine W.q (.assign (.t rfl)) rfl ?_; refine W.n ?_; refine W.h ?_; refine W.cond (.t rfl) (fun hc_t16 => ?_) (fun hc_t16 => ?_)
  ·skip
   refine W.k ?_; refine W.h ?_; refine W.cond (.t rfl) (fun hc_t16 => ?_) (fun hc_t16 => ?_)
   ·skip
    refine W.s (.r (.q (.assign .k) rfl (.n (.h ?_)))); refine W.ret ?_; refine W.br (.hr ?_); refine W.retn (M' := []) (D := _) (rs := [.tmp 2]) (avs := [_]) Tryz.results49 ⟨rfl, trivial⟩ rfl (.refl _) ?_
    exact ⟨congrArg AV.bool (by ((unfold Sch.formB at h; simp_all; done))), rfl⟩
   ·skip
    refine W.s ?_; refine W.s ?_; refine W.r ?_; refine W.q (.eqs (.t rfl) .k) rfl ?_; refine W.q (.assign (.t rfl)) rfl ?_; refine W.n ?_; refine W.h ?_; refine W.cond (.t rfl) (fun hc_t21 => ?_) (fun hc_t21 => ?_)
    ·skip
     refine W.k ?_; refine W.h ?_; refine W.cond (.t rfl) (fun hc_t21 => ?_) (fun hc_t21 => ?_)
     ·skip
      refine W.s (.r (.q (.fab (.t rfl) fa28_1) rfl (.q (.ldb1 0 (.t rfl) rfl ag9 rfl) rfl (.q (.eqs (.t rfl) .k) rfl (.asg rfl rfl (.n (.h ?_))))))); refine W.ret ?_; refine W.br (.hr ?_); refine W.retn (M' := []) (D := _) (rs := [.tmp 2]) (avs := [_]) Tryz.results49 ⟨rfl, trivial⟩ rfl (.refl _) ?_
      exact ⟨congrArg AV.bool (by ((unfold Sch.formB at h; simp_all; done))), rfl⟩
     ·skip
      refine W.k (.bn (.h (.s (.r (.q (.assign .k) rfl (.n (.h ?_))))))); refine W.ret ?_; refine W.retn (M' := []) (D := _) (rs := [.tmp 2]) (avs := [_]) Tryz.results49 ⟨rfl, trivial⟩ rfl (.refl _) ?_
      exact ⟨congrArg AV.bool (by (rfl)), rfl⟩
    ·skip
     refine W.s ?_; refine W.r ?_; refine W.q (.eqs (.t rfl) .k) rfl ?_; refine W.q (.assign (.t rfl)) rfl ?_; refine W.n ?_; refine W.h ?_; refine W.cond (.t rfl) (fun hc_t21 => ?_) (fun hc_t21 => ?_)
     ·skip
      refine W.k ?_; refine W.h ?_; refine W.cond (.t rfl) (fun hc_t21 => ?_) (fun hc_t21 => ?_)
      ·skip
       refine W.s (.r (.q (.fab (.t rfl) fa28_1) rfl (.q (.ldb1 0 (.t rfl) rfl ag9 rfl) rfl (.q (.eqs (.t rfl) .k) rfl (.asg rfl rfl (.n (.h ?_))))))); refine W.ret ?_; refine W.br (.hr ?_); refine W.retn (M' := []) (D := _) (rs := [.tmp 2]) (avs := [_]) Tryz.results49 ⟨rfl, trivial⟩ rfl (.refl _) ?_
       exact ⟨congrArg AV.bool (by ((unfold Sch.formB at h; simp_all; done))), rfl⟩
      ·skip
       refine W.k (.bn (.h (.s (.r (.q (.assign .k) rfl (.n (.h ?_))))))); refine W.ret ?_; refine W.retn (M' := []) (D := _) (rs := [.tmp 2]) (avs := [_]) Tryz.results49 ⟨rfl, trivial⟩ rfl (.refl _) ?_
       exact ⟨congrArg AV.bool (by (rfl)), rfl⟩
     ·skip
      refine W.s ?_; refine W.r ?_; refine W.q (.eqs (.t rfl) .k) rfl ?_; refine W.q (.assign (.t rfl)) rfl ?_; refine W.n ?_; refine W.h ?_; refine W.cond (.t rfl) (fun hc_t21 => ?_) (fun hc_t21 => ?_)
      ·skip
       refine W.k ?_; refine W.h ?_; refine W.cond (.t rfl) (fun hc_t21 => ?_) (fun hc_t21 => ?_)
       ·skip
        refine W.s (.r (.q (.fab (.t rfl) fa28_1) rfl (.q (.ldb1 0 (.t rfl) rfl ag9 rfl) rfl (.q (.eqs (.t rfl) .k) rfl (.asg rfl rfl (.n (.h ?_))))))); refine W.ret ?_; refine W.br (.hr ?_); refine W.retn (M' := []) (D := _) (rs := [.tmp 2]) (avs := [_]) Tryz.results49 ⟨rfl, trivial⟩ rfl (.refl _) ?_
        exact ⟨congrArg AV.bool (by ((unfold Sch.formB at h; simp_all; done))), rfl⟩
       ·skip
        refine W.k (.bn (.h (.s (.r (.q (.assign .k) rfl (.n (.h ?_))))))); refine W.ret ?_; refine W.retn (M' := []) (D := _) (rs := [.tmp 2]) (avs := [_]) Tryz.results49 ⟨rfl, trivial⟩ rfl (.refl _) ?_
        exact ⟨congrArg AV.bool (by (rfl)), rfl⟩
      ·skip
       refine W.r ?_; refine W.q (.eqs (.t rfl) .k) rfl ?_; refine W.q (.assign (.t rfl)) rfl ?_; refine W.n ?_; refine W.h ?_; refine W.cond (.t rfl) (fun hc_t21 => ?_) (fun hc_t21 => ?_)
       ·skip
        refine W.s (.r (.q (.fab (.t rfl) fa28_1) rfl (.q (.ldb1 0 (.t rfl) rfl ag9 rfl) rfl (.q (.eqs (.t rfl) .k) rfl (.asg rfl rfl (.n (.h ?_))))))); refine W.ret ?_; refine W.br (.hr ?_); refine W.retn (M' := []) (D := _) (rs := [.tmp 2]) (avs := [_]) Tryz.results49 ⟨rfl, trivial⟩ rfl (.refl _) ?_
        exact ⟨congrArg AV.bool (by ((unfold Sch.formB at h; simp_all; done))), rfl⟩
       ·skip
        refine W.k (.bn (.h (.s (.r (.q (.assign .k) rfl (.n (.h ?_))))))); refine W.ret ?_; refine W.retn (M' := []) (D := _) (rs := [.tmp 2]) (avs := [_]) Tryz.results49 ⟨rfl, trivial⟩ rfl (.refl _) ?_
        exact ⟨congrArg AV.bool (by (rfl)), rfl⟩
  ·skip
   refine W.s ?_; refine W.r ?_; refine W.q (.eqs (.t rfl) .k) rfl ?_; refine W.q (.assign (.t rfl)) rfl ?_; refine W.n ?_; refine W.h ?_; refine W.cond (.t rfl) (fun hc_t16 => ?_) (fun hc_t16 => ?_)
   ·skip
    refine W.k ?_; refine W.h ?_; refine W.cond (.t rfl) (fun hc_t16 => ?_) (fun hc_t16 => ?_)
    ·skip
     refine W.s (.r (.q (.assign .k) rfl (.n (.h ?_)))); refine W.ret ?_; refine W.br (.hr ?_); refine W.retn (M' := []) (D := _) (rs := [.tmp 2]) (avs := [_]) Tryz.results49 ⟨rfl, trivial⟩ rfl (.refl _) ?_
     exact ⟨congrArg AV.bool (by ((unfold Sch.formB at h; simp_all; done))), rfl⟩
    ·skip
     refine W.s ?_; refine W.s ?_; refine W.r ?_; refine W.q (.eqs (.t rfl) .k) rfl ?_; refine W.q (.assign (.t rfl)) rfl ?_; refine W.n ?_; refine W.h ?_; refine W.cond (.t rfl) (fun hc_t21 => ?_) (fun hc_t21 => ?_)
     ·skip
      refine W.k ?_; refine W.h ?_; refine W.cond (.t rfl) (fun hc_t21 => ?_) (fun hc_t21 => ?_)
      ·skip
       refine W.s (.r (.q (.fab (.t rfl) fa28_1) rfl (.q (.ldb1 0 (.t rfl) rfl ag9 rfl) rfl (.q (.eqs (.t rfl) .k) rfl (.asg rfl rfl (.n (.h ?_))))))); refine W.ret ?_; refine W.br (.hr ?_); refine W.retn (M' := []) (D := _) (rs := [.tmp 2]) (avs := [_]) Tryz.results49 ⟨rfl, trivial⟩ rfl (.refl _) ?_
       exact ⟨congrArg AV.bool (by ((unfold Sch.formB at h; simp_all; done))), rfl⟩
      ·skip
       refine W.k (.bn (.h (.s (.r (.q (.assign .k) rfl (.n (.h ?_))))))); refine W.ret ?_; refine W.retn (M' := []) (D := _) (rs := [.tmp 2]) (avs := [_]) Tryz.results49 ⟨rfl, trivial⟩ rfl (.refl _) ?_
       exact ⟨congrArg AV.bool (by (rfl)), rfl⟩
     ·skip
      refine W.s ?_; refine W.r ?_; refine W.q (.eqs (.t rfl) .k) rfl ?_; refine W.q (.assign (.t rfl)) rfl ?_; refine W.n ?_; refine W.h ?_; refine W.cond (.t rfl) (fun hc_t21 => ?_) (fun hc_t21 => ?_)
      ·skip
       refine W.k ?_; refine W.h ?_; refine W.cond (.t rfl) (fun hc_t21 => ?_) (fun hc_t21 => ?_)
       ·skip
        refine W.s (.r (.q (.fab (.t rfl) fa28_1) rfl (.q (.ldb1 0 (.t rfl) rfl ag9 rfl) rfl (.q (.eqs (.t rfl) .k) rfl (.asg rfl rfl (.n (.h ?_))))))); refine W.ret ?_; refine W.br (.hr ?_); refine W.retn (M' := []) (D := _) (rs := [.tmp 2]) (avs := [_]) Tryz.results49 ⟨rfl, trivial⟩ rfl (.refl _) ?_
        exact ⟨congrArg AV.bool (by ((unfold Sch.formB at h; simp_all; done))), rfl⟩
       ·skip
        refine W.k (.bn (.h (.s (.r (.q (.assign .k) rfl (.n (.h ?_))))))); refine W.ret ?_; refine W.retn (M' := []) (D := _) (rs := [.tmp 2]) (avs := [_]) Tryz.results49 ⟨rfl, trivial⟩ rfl (.refl _) ?_
        exact ⟨congrArg AV.bool (by (rfl)), rfl⟩
      ·skip
       refine W.s ?_; refine W.r ?_; refine W.q (.eqs (.t rfl) .k) rfl ?_; refine W.q (.assign (.t rfl)) rfl ?_; refine W.n ?_; refine W.h ?_; refine W.cond (.t rfl) (fun hc_t21 => ?_) (fun hc_t21 => ?_)
       ·skip
        refine W.k ?_; refine W.h ?_; refine W.cond (.t rfl) (fun hc_t21 => ?_) (fun hc_t21 => ?_)
        ·skip
         refine W.s (.r (.q (.fab (.t rfl) fa28_1) rfl (.q (.ldb1 0 (.t rfl) rfl ag9 rfl) rfl (.q (.eqs (.t rfl) .k) rfl (.asg rfl rfl (.n (.h ?_))))))); refine W.ret ?_; refine W.br (.hr ?_); refine W.retn (M' := []) (D := _) (rs := [.tmp 2]) (avs := [_]) Tryz.results49 ⟨rfl, trivial⟩ rfl (.refl _) ?_
         exact ⟨congrArg AV.bool (by ((unfold Sch.formB at h; simp_all; done))), rfl⟩
        ·skip
         refine W.k (.bn (.h (.s (.r (.q (.assign .k) rfl (.n (.h ?_))))))); refine W.ret ?_; refine W.retn (M' := []) (D := _) (rs := [.tmp 2]) (avs := [_]) Tryz.results49 ⟨rfl, trivial⟩ rfl (.refl _) ?_
         exact ⟨congrArg AV.bool (by (rfl)), rfl⟩
       ·skip
        refine W.r ?_; refine W.q (.eqs (.t rfl) .k) rfl ?_; refine W.q (.assign (.t rfl)) rfl ?_; refine W.n ?_; refine W.h ?_; refine W.cond (.t rfl) (fun hc_t21 => ?_) (fun hc_t21 => ?_)
        ·skip
         refine W.s (.r (.q (.fab (.t rfl) fa28_1) rfl (.q (.ldb1 0 (.t rfl) rfl ag9 rfl) rfl (.q (.eqs (.t rfl) .k) rfl (.asg rfl rfl (.n (.h ?_))))))); refine W.ret ?_; refine W.br (.hr ?_); refine W.retn (M' := []) (D := _) (rs := [.tmp 2]) (avs := [_]) Tryz.results49 ⟨rfl, trivial⟩ rfl (.refl _) ?_
         exact ⟨congrArg AV.bool (by ((unfold Sch.formB at h; simp_all; done))), rfl⟩
        ·skip
         refine W.k (.bn (.h (.s (.r (.q (.assign .k) rfl (.n (.h ?_))))))); refine W.ret ?_; refine W.retn (M' := []) (D := _) (rs := [.tmp 2]) (avs := [_]) Tryz.results49 ⟨rfl, trivial⟩ rfl (.refl _) ?_
         exact ⟨congrArg AV.bool (by (rfl)), rfl⟩
   ·skip
    refine W.s ?_; refine W.r ?_; refine W.q (.eqs (.t rfl) .k) rfl ?_; refine W.q (.assign (.t rfl)) rfl ?_; refine W.n ?_; refine W.h ?_; refine W.cond (.t rfl) (fun hc_t16 => ?_) (fun hc_t16 => ?_)
    ·skip
     refine W.k ?_; refine W.h ?_; refine W.cond (.t rfl) (fun hc_t16 => ?_) (fun hc_t16 => ?_)
     ·skip
      refine W.s (.r (.q (.assign .k) rfl (.n (.h ?_)))); refine W.ret ?_; refine W.br (.hr ?_); refine W.retn (M' := []) (D := _) (rs := [.tmp 2]) (avs := [_]) Tryz.results49 ⟨rfl, trivial⟩ rfl (.refl _) ?_
      exact ⟨congrArg AV.bool (by ((unfold Sch.formB at h; simp_all; done))), rfl⟩
     ·skip
      refine W.s ?_; refine W.s ?_; refine W.r ?_; refine W.q (.eqs (.t rfl) .k) rfl ?_; refine W.q (.assign (.t rfl)) rfl ?_; refine W.n ?_; refine W.h ?_; refine W.cond (.t rfl) (fun hc_t21 => ?_) (fun hc_t21 => ?_)
      ·skip
       refine W.k ?_; refine W.h ?_; refine W.cond (.t rfl) (fun hc_t21 => ?_) (fun hc_t21 => ?_)
       ·skip
        refine W.s (.r (.q (.fab (.t rfl) fa28_1) rfl (.q (.ldb1 0 (.t rfl) rfl ag9 rfl) rfl (.q (.eqs (.t rfl) .k) rfl (.asg rfl rfl (.n (.h ?_))))))); refine W.ret ?_; refine W.br (.hr ?_); refine W.retn (M' := []) (D := _) (rs := [.tmp 2]) (avs := [_]) Tryz.results49 ⟨rfl, trivial⟩ rfl (.refl _) ?_
        exact ⟨congrArg AV.bool (by ((unfold Sch.formB at h; simp_all; done))), rfl⟩
       ·skip
        refine W.k (.bn (.h (.s (.r (.q (.assign .k) rfl (.n (.h ?_))))))); refine W.ret ?_; refine W.retn (M' := []) (D := _) (rs := [.tmp 2]) (avs := [_]) Tryz.results49 ⟨rfl, trivial⟩ rfl (.refl _) ?_
        exact ⟨congrArg AV.bool (by (rfl)), rfl⟩
      ·skip
       refine W.s ?_; refine W.r ?_; refine W.q (.eqs (.t rfl) .k) rfl ?_; refine W.q (.assign (.t rfl)) rfl ?_; refine W.n ?_; refine W.h ?_; refine W.cond (.t rfl) (fun hc_t21 => ?_) (fun hc_t21 => ?_)
       ·skip
        refine W.k ?_; refine W.h ?_; refine W.cond (.t rfl) (fun hc_t21 => ?_) (fun hc_t21 => ?_)
        ·skip
         refine W.s (.r (.q (.fab (.t rfl) fa28_1) rfl (.q (.ldb1 0 (.t rfl) rfl ag9 rfl) rfl (.q (.eqs (.t rfl) .k) rfl (.asg rfl rfl (.n (.h ?_))))))); refine W.ret ?_; refine W.br (.hr ?_); refine W.retn (M' := []) (D := _) (rs := [.tmp 2]) (avs := [_]) Tryz.results49 ⟨rfl, trivial⟩ rfl (.refl _) ?_
         exact ⟨congrArg AV.bool (by ((unfold Sch.formB at h; simp_all; done))), rfl⟩
        ·skip
         refine W.k (.bn (.h (.s (.r (.q (.assign .k) rfl (.n (.h ?_))))))); refine W.ret ?_; refine W.retn (M' := []) (D := _) (rs := [.tmp 2]) (avs := [_]) Tryz.results49 ⟨rfl, trivial⟩ rfl (.refl _) ?_
         exact ⟨congrArg AV.bool (by (rfl)), rfl⟩
       ·skip
        refine W.s ?_; refine W.r ?_; refine W.q (.eqs (.t rfl) .k) rfl ?_; refine W.q (.assign (.t rfl)) rfl ?_; refine W.n ?_; refine W.h ?_; refine W.cond (.t rfl) (fun hc_t21 => ?_) (fun hc_t21 => ?_)
        ·skip
         refine W.k ?_; refine W.h ?_; refine W.cond (.t rfl) (fun hc_t21 => ?_) (fun hc_t21 => ?_)
         ·skip
          refine W.s (.r (.q (.fab (.t rfl) fa28_1) rfl (.q (.ldb1 0 (.t rfl) rfl ag9 rfl) rfl (.q (.eqs (.t rfl) .k) rfl (.asg rfl rfl (.n (.h ?_))))))); refine W.ret ?_; refine W.br (.hr ?_); refine W.retn (M' := []) (D := _) (rs := [.tmp 2]) (avs := [_]) Tryz.results49 ⟨rfl, trivial⟩ rfl (.refl _) ?_
          exact ⟨congrArg AV.bool (by ((unfold Sch.formB at h; simp_all; done))), rfl⟩
         ·skip
          refine W.k (.bn (.h (.s (.r (.q (.assign .k) rfl (.n (.h ?_))))))); refine W.ret ?_; refine W.retn (M' := []) (D := _) (rs := [.tmp 2]) (avs := [_]) Tryz.results49 ⟨rfl, trivial⟩ rfl (.refl _) ?_
          exact ⟨congrArg AV.bool (by (rfl)), rfl⟩
        ·skip
         refine W.r ?_; refine W.q (.eqs (.t rfl) .k) rfl ?_; refine W.q (.assign (.t rfl)) rfl ?_; refine W.n ?_; refine W.h ?_; refine W.cond (.t rfl) (fun hc_t21 => ?_) (fun hc_t21 => ?_)
         ·skip
          refine W.s (.r (.q (.fab (.t rfl) fa28_1) rfl (.q (.ldb1 0 (.t rfl) rfl ag9 rfl) rfl (.q (.eqs (.t rfl) .k) rfl (.asg rfl rfl (.n (.h ?_))))))); refine W.ret ?_; refine W.br (.hr ?_); refine W.retn (M' := []) (D := _) (rs := [.tmp 2]) (avs := [_]) Tryz.results49 ⟨rfl, trivial⟩ rfl (.refl _) ?_
          exact ⟨congrArg AV.bool (by ((unfold Sch.formB at h; simp_all; done))), rfl⟩
         ·skip
          refine W.k (.bn (.h (.s (.r (.q (.assign .k) rfl (.n (.h ?_))))))); refine W.ret ?_; refine W.retn (M' := []) (D := _) (rs := [.tmp 2]) (avs := [_]) Tryz.results49 ⟨rfl, trivial⟩ rfl (.refl _) ?_
          exact ⟨congrArg AV.bool (by (rfl)), rfl⟩
    ·skip
     refine W.r ?_; refine W.q (.eqs (.t rfl) .k) rfl ?_; refine W.q (.assign (.t rfl)) rfl ?_; refine W.n ?_; refine W.h ?_; refine W.cond (.t rfl) (fun hc_t16 => ?_) (fun hc_t16 => ?_)
     ·skip
      refine W.s (.r (.q (.assign .k) rfl (.n (.h ?_)))); refine W.ret ?_; refine W.br (.hr ?_); refine W.retn (M' := []) (D := _) (rs := [.tmp 2]) (avs := [_]) Tryz.results49 ⟨rfl, trivial⟩ rfl (.refl _) ?_
      exact ⟨congrArg AV.bool (by ((unfold Sch.formB at h; simp_all; done))), rfl⟩
     ·skip
      refine W.s ?_; refine W.s ?_; refine W.r ?_; refine W.q (.eqs (.t rfl) .k) rfl ?_; refine W.q (.assign (.t rfl)) rfl ?_; refine W.n ?_; refine W.h ?_; refine W.cond (.t rfl) (fun hc_t21 => ?_) (fun hc_t21 => ?_)
      ·skip
       refine W.k ?_; refine W.h ?_; refine W.cond (.t rfl) (fun hc_t21 => ?_) (fun hc_t21 => ?_)
       ·skip
        refine W.s (.r (.q (.fab (.t rfl) fa28_1) rfl (.q (.ldb1 0 (.t rfl) rfl ag9 rfl) rfl (.q (.eqs (.t rfl) .k) rfl (.asg rfl rfl (.n (.h ?_))))))); refine W.ret ?_; refine W.br (.hr ?_); refine W.retn (M' := []) (D := _) (rs := [.tmp 2]) (avs := [_]) Tryz.results49 ⟨rfl, trivial⟩ rfl (.refl _) ?_
        exact ⟨congrArg AV.bool (by ((unfold Sch.formB at h; simp_all; done))), rfl⟩
       ·skip
        refine W.k (.bn (.h (.s (.r (.q (.assign .k) rfl (.n (.h ?_))))))); refine W.ret ?_; refine W.retn (M' := []) (D := _) (rs := [.tmp 2]) (avs := [_]) Tryz.results49 ⟨rfl, trivial⟩ rfl (.refl _) ?_
        exact ⟨congrArg AV.bool (by (rfl)), rfl⟩
      ·skip
       refine W.s ?_; refine W.r ?_; refine W.q (.eqs (.t rfl) .k) rfl ?_; refine W.q (.assign (.t rfl)) rfl ?_; refine W.n ?_; refine W.h ?_; refine W.cond (.t rfl) (fun hc_t21 => ?_) (fun hc_t21 => ?_)
       ·skip
        refine W.k ?_; refine W.h ?_; refine W.cond (.t rfl) (fun hc_t21 => ?_) (fun hc_t21 => ?_)
        ·skip
         refine W.s (.r (.q (.fab (.t rfl) fa28_1) rfl (.q (.ldb1 0 (.t rfl) rfl ag9 rfl) rfl (.q (.eqs (.t rfl) .k) rfl (.asg rfl rfl (.n (.h ?_))))))); refine W.ret ?_; refine W.br (.hr ?_); refine W.retn (M' := []) (D := _) (rs := [.tmp 2]) (avs := [_]) Tryz.results49 ⟨rfl, trivial⟩ rfl (.refl _) ?_
         exact ⟨congrArg AV.bool (by ((unfold Sch.formB at h; simp_all; done))), rfl⟩
        ·skip
         refine W.k (.bn (.h (.s (.r (.q (.assign .k) rfl (.n (.h ?_))))))); refine W.ret ?_; refine W.retn (M' := []) (D := _) (rs := [.tmp 2]) (avs := [_]) Tryz.results49 ⟨rfl, trivial⟩ rfl (.refl _) ?_
         exact ⟨congrArg AV.bool (by (rfl)), rfl⟩
       ·skip
        refine W.s ?_; refine W.r ?_; refine W.q (.eqs (.t rfl) .k) rfl ?_; refine W.q (.assign (.t rfl)) rfl ?_; refine W.n ?_; refine W.h ?_; refine W.cond (.t rfl) (fun hc_t21 => ?_) (fun hc_t21 => ?_)
        ·skip
         refine W.k ?_; refine W.h ?_; refine W.cond (.t rfl) (fun hc_t21 => ?_) (fun hc_t21 => ?_)
         ·skip
          refine W.s (.r (.q (.fab (.t rfl) fa28_1) rfl (.q (.ldb1 0 (.t rfl) rfl ag9 rfl) rfl (.q (.eqs (.t rfl) .k) rfl (.asg rfl rfl (.n (.h ?_))))))); refine W.ret ?_; refine W.br (.hr ?_); refine W.retn (M' := []) (D := _) (rs := [.tmp 2]) (avs := [_]) Tryz.results49 ⟨rfl, trivial⟩ rfl (.refl _) ?_
          exact ⟨congrArg AV.bool (by ((unfold Sch.formB at h; simp_all; done))), rfl⟩
         ·skip
          refine W.k (.bn (.h (.s (.r (.q (.assign .k) rfl (.n (.h ?_))))))); refine W.ret ?_; refine W.retn (M' := []) (D := _) (rs := [.tmp 2]) (avs := [_]) Tryz.results49 ⟨rfl, trivial⟩ rfl (.refl _) ?_
          exact ⟨congrArg AV.bool (by (rfl)), rfl⟩
        ·skip
         refine W.r ?_; refine W.q (.eqs (.t rfl) .k) rfl ?_; refine W.q (.assign (.t rfl)) rfl ?_; refine W.n ?_; refine W.h ?_; refine W.cond (.t rfl) (fun hc_t21 => ?_) (fun hc_t21 => ?_)
         ·skip
          refine W.s (.r (.q (.fab (.t rfl) fa28_1) rfl (.q (.ldb1 0 (.t rfl) rfl ag9 rfl) rfl (.q (.eqs (.t rfl) .k) rfl (.asg rfl rfl (.n (.h ?_))))))); refine W.ret ?_; refine W.br (.hr ?_); refine W.retn (M' := []) (D := _) (rs := [.tmp 2]) (avs := [_]) Tryz.results49 ⟨rfl, trivial⟩ rfl (.refl _) ?_
          exact ⟨congrArg AV.bool (by ((unfold Sch.formB at h; simp_all; done))), rfl⟩
         ·skip
          refine W.k (.bn (.h (.s (.r (.q (.assign .k) rfl (.n (.h ?_))))))); refine W.ret ?_; refine W.retn (M' := []) (D := _) (rs := [.tmp 2]) (avs := [_]) Tryz.results49 ⟨rfl, trivial⟩ rfl (.refl _) ?_
          exact ⟨congrArg AV.bool (by (rfl)), rfl⟩
theorem c_attrs1 (s : List UInt8) (h : s.length ≤ 1000) : FnP Tryz.prog 87 [.str s] (.bool (!(nameOk s))) :=  by
 refine FnC.mk Tryz.func87 (by kernel_rfl) rfl Tryz.ntmps87 rfl (fun w0 F => ?_)
 refine W.s (.r (.q (.assign .k) rfl (.n (.h (.s (.r (.mv rfl rfl ?_))))))); refine W.callp (WName.c_Name s (by omega)) ⟨(.t rfl), trivial⟩ rfl ?_; refine W.q (.not (.t rfl)) rfl (.asg rfl rfl (.n (.h ?_))); refine W.ret ?_; refine W.retn (M' := []) (D := _) (rs := [.tmp 2]) (avs := [_]) Tryz.results87 ⟨rfl, trivial⟩ rfl (.refl _) ?_
 exact ⟨rfl, rfl⟩
theorem c_attrs (l : List (List UInt8)) (h : Sch.attrsB l = true) : FnP Tryz.prog 50 [.sl 1 (l.map AV.str)] (.int 0) :=  by
 refine FnC.mk Tryz.func50 (by kernel_rfl) rfl Tryz.ntmps50 rfl (fun w0 F => ?_)
 have hll : (l.map AV.str).length = l.length := List.length_map ..
 simp only [Sch.attrsB, Bool.and_eq_true, decide_eq_true_eq] at h
 obtain ⟨⟨hall, hlen⟩, hdup⟩ := h
 have hal := List.all_eq_true.1 hall
 have hany : (l.any fun s => !(nameOk s)) = false := by rw [List.any_eq_false]; intro s hs; have := hal s hs; simp only [Bool.and_eq_true] at this; rw [this.1]; decide
 refine W.s (.r (.q (.assign .k) rfl (.n (.h (.s (.s (.r (.mv rfl rfl ?_)))))))); refine W.call (WSLib.c_ContainsFuncS l 87 [] [] (fun s => !(nameOk s)) (fun s hs => c_attrs1 s (by have := hal s hs; simp only [Bool.and_eq_true, decide_eq_true_eq] at this; exact this.2)) (by omega)) ⟨(.t rfl), .f, trivial⟩ (.refl _) rfl ?_
 rintro _ _ ⟨rfl, rfl⟩
 refine W.n (.h ?_); refine W.isb 6 false rfl (by exact hany) ?_; refine W.condF (.t rfl) (.k (.h (.s (.s (.r (.mv rfl rfl (.q (.lensl (.t rfl) Tryz.underlying26) rfl (.q (.gti (.t rfl) .k) rfl (.n (.h ?_)))))))))); refine W.isb 9 false rfl (by exact decide_eq_false (by omega)) ?_; refine W.condF (.t rfl) (.k (.h (.s (.s (.r (.mv rfl rfl (.q (.lensl (.t rfl) Tryz.underlying26) rfl ?_)))))))
 refine W.q (.move .k) rfl ?_; refine W.n ?_; refine W.h ?_; refine W.b ?_; refine W.loop (D := []) (ι := Nat) (fun i => [(12, true, .int (i : Int)), (11, true, .int ((l.map AV.str).length : Int)), (10, true, .sl 1 (l.map AV.str)), (0, true, .sl 1 (l.map AV.str))]) (fun _ => []) (fun i => i ≤ l.length) (fun i => l.length - i) 0 ⟨rfl, rfl, rfl, rfl, trivial⟩ (.refl _) (Nat.zero_le _) ?_; intro i hi
 dsimp only at hi ⊢
 rcases (show i < l.length ∨ i = l.length from by omega) with hlt | hend
 ·have hga := getD_mapG AV.str [] l i hlt
  have h1 : ((l.take i).any fun s => l.getD i [] == s) = false := by simpa using List.all_eq_true.1 hdup i (List.mem_range.2 hlt)
  refine W.s (.r (.q (.lti (.t rfl) (.t rfl)) rfl (.n (.h (.s ?_))))); refine W.isb 13 true rfl (by exact decide_eq_true (by omega)) ?_; refine W.condT (.t rfl) (.k (.h (.s (.b (.s (.r (.mv rfl rfl ?_))))))); refine W.q (.at (E := 9) (.t rfl) (.t rfl) Tryz.underlying26 ty9 (fun _ => ⟨by omega, hga⟩) rfl rfl) rfl ?_; refine W.q (.lde1 (.t rfl) ag9) rfl (.asg rfl rfl (.asg rfl rfl (.n (.h (.s (.r (.mv rfl rfl (.mv rfl rfl ?_)))))))); refine W.q (.takesl (n := i) (.t rfl) Tryz.underlying26 ty9 (.t rfl) rfl (fun _ => by omega)) rfl ?_; refine W.mv rfl rfl ?_; refine W.callp (WSLib.c_Contains (l.take i) (l.getD i []) (by rw [List.length_take]; omega)) ⟨(.t rfl), (.t rfl), trivial⟩ rfl ?_; refine W.n (.h ?_); refine W.isb 21 false rfl (by exact h1) ?_; refine W.condF (.t rfl) (.k (.bn (.h (.r (.q (.add (.t rfl) .k (fun _ => by omega)) rfl ?_)))))
  refine W.q (.move (.t rfl)) rfl ?_; refine W.n ?_; refine W.h ?_; refine W.reach (D := _) (i + 1) ⟨rfl, rfl, rfl, rfl, trivial⟩ (.refl _) ⟨by show i + 1 ≤ _; omega, by show _ - (i + 1) < _; omega⟩
 ·skip
  refine W.s (.r (.q (.lti (.t rfl) (.t rfl)) rfl (.n (.h (.s ?_))))); refine W.isb 13 false rfl (by exact decide_eq_false (by omega)) ?_; refine W.condF (.t rfl) (.ex (.he (.he (.bh (.h (.s (.r (.q (.assign .k) rfl (.n (.h ?_)))))))))); refine W.ret ?_; refine W.retn (M' := []) (D := _) (rs := [.tmp 2]) (avs := [_]) Tryz.results50 ⟨rfl, trivial⟩ rfl (.refl _) ?_
  exact ⟨rfl, rfl⟩
theorem c_lastText (ts : List Tp) (h : ts.length ≤ 1099511627776) : FnP Tryz.prog 52 [.sl 3 (ts.map tpv)] (.int (Sch.lastT ts)) :=  by
 refine FnC.mk Tryz.func52 (by kernel_rfl) rfl Tryz.ntmps52 rfl (fun w0 F => ?_)
 have hnl : (ts.map tpv).length = ts.length := List.length_map ..
 refine W.s (.r (.q (.assign .k) rfl (.n (.h (.s (.r (.q (.assign .k) rfl (.n (.h (.s (.s (.r (.mv rfl rfl (.q (.lensl (.t rfl) Tryz.underlying23) rfl ?_))))))))))))))
 refine W.q (.move .k) rfl ?_; refine W.n ?_; refine W.h ?_; refine W.b ?_; refine W.loop (D := []) (ι := Nat) (fun i => [(8, true, .int (i : Int)), (7, true, .int ((ts.map tpv).length : Int)), (6, true, .sl 3 (ts.map tpv)), (3, true, .int (Sch.lastG ts i))]) (fun _ => []) (fun i => i ≤ ts.length) (fun i => ts.length - i) 0 ⟨rfl, rfl, rfl, rfl, trivial⟩ (.refl _) (Nat.zero_le _) ?_; intro i hi
 dsimp only at hi ⊢
 rcases (show i < ts.length ∨ i = ts.length from by omega) with hlt | hend
 ·have hga := getD_mapG tpv ⟨[], [], []⟩ ts i hlt
  refine W.s (.r (.q (.lti (.t rfl) (.t rfl)) rfl (.n (.h (.s ?_))))); refine W.isb 9 true rfl (by exact decide_eq_true (by omega)) ?_; refine W.condT (.t rfl) (.k (.h (.s (.b (.s (.r (.mv rfl rfl ?_))))))); refine W.q (.at (E := 28) (.t rfl) (.t rfl) Tryz.underlying23 ty28 (fun _ => ⟨by omega, hga⟩) rfl rfl) rfl ?_; refine W.q (.lden (.t rfl) ag28 ty28 rfl rfl) rfl ?_
  refine W.alloc ty28 rfl rfl ?_; intro b5; refine W.q (.assign (.t rfl)) rfl ?_
  refine W.stb 0 (.t rfl) (.t rfl) rfl ty28 rfl rfl rfl (.n (.h (.s (.r (.q (.fab (.t rfl) fa28_0) rfl (.q (.ldb1 0 (.t rfl) rfl ag9 rfl) rfl ?_))))))
  refine W.q (.eqs (.t rfl) .k) rfl ?_; refine W.n ?_; refine W.h ?_; refine W.cond (.t rfl) (fun hc_t15 => ?_) (fun hc_t15 => ?_)
  ·have hnx : Sch.lastG ts (i + 1) = (i : Int) := by rw [Sch.lastG_succ]; exact if_pos (eq_of_beq hc_t15)
   refine W.r (.mv rfl rfl (.asg rfl rfl (.n (.bn (.h (.r (.q (.add (.t rfl) .k (fun _ => by omega)) rfl ?_)))))))
   refine W.q (.move (.t rfl)) rfl ?_; refine W.n ?_; refine W.h ?_; refine W.is (t := 3) (av' := .int (Sch.lastG ts (i + 1))) rfl (congrArg AV.int hnx.symm) ?_; refine W.reach (D := [_]) (i + 1) ⟨rfl, rfl, rfl, rfl, trivial⟩ (.refl _) ⟨by show i + 1 ≤ _; omega, by show _ - (i + 1) < _; omega⟩
  ·have hnx : Sch.lastG ts (i + 1) = Sch.lastG ts i := by rw [Sch.lastG_succ]; exact if_neg (beq_eq_false_iff_ne.1 hc_t15)
   refine W.k (.bn (.h (.r (.q (.add (.t rfl) .k (fun _ => by omega)) rfl ?_))))
   refine W.q (.move (.t rfl)) rfl ?_; refine W.n ?_; refine W.h ?_; refine W.is (t := 3) (av' := .int (Sch.lastG ts (i + 1))) rfl (congrArg AV.int hnx.symm) ?_; refine W.reach (D := [_]) (i + 1) ⟨rfl, rfl, rfl, rfl, trivial⟩ (.refl _) ⟨by show i + 1 ≤ _; omega, by show _ - (i + 1) < _; omega⟩
 ·rw [hend]
  refine W.s (.r (.q (.lti (.t rfl) (.t rfl)) rfl (.n (.h (.s ?_))))); refine W.isb 9 false rfl (by exact decide_eq_false (by omega)) ?_; refine W.condF (.t rfl) (.ex (.he (.he (.bh (.h (.s (.r (.mv rfl rfl (.asg rfl rfl (.n (.h ?_))))))))))); refine W.ret ?_; refine W.retn (M' := []) (D := _) (rs := [.tmp 2]) (avs := [_]) Tryz.results52 ⟨rfl, trivial⟩ rfl (.refl _) ?_
  exact ⟨rfl, rfl⟩
theorem c_New1 (u t : Tp) (b : Nat) : FnC Tryz.prog 48 [tpv u, .lit (.pointer (some ⟨b, 0, none⟩))] [.box b 28 [.str t.name, .str t.content, .sl 1 (t.attrs.map AV.str)]] (fun x M => x = .bool (u.name == t.name) ∧ M = [.box b 28 [.str t.name, .str t.content, .sl 1 (t.attrs.map AV.str)]]) :=  by
 refine FnC.mk Tryz.func48 (by kernel_rfl) rfl Tryz.ntmps48 rfl (fun w0 F => ?_)
 refine W.s ?_; refine W.r ?_; refine W.box (.t rfl) rfl rfl ?_; intro b2; refine W.q (.assign .k) rfl ?_; refine W.n ?_; refine W.h ?_; refine W.s ?_; refine W.r ?_
 refine W.q (.fab (.t rfl) fa28_0) rfl (.q (.ldb1 0 (.t rfl) rfl ag9 rfl) rfl (.q (.fab (.t rfl) fa28_0) rfl (.q (.ldb1 1 (.t rfl) rfl ag9 rfl) rfl (.q (.eqs (.t rfl) (.t rfl)) rfl (.asg rfl rfl (.n (.h ?_))))))); refine W.ret ?_; refine W.retn (M' := [.box b 28 _]) (D := [_]) (rs := [.tmp 3]) (avs := [_]) Tryz.results48 ⟨rfl, trivial⟩ rfl (List.Perm.swap _ _ []) ?_
 exact ⟨rfl, rfl⟩
theorem c_New2 (n : Int) : FnP Tryz.prog 55 [.int n] (.bool (n == 0 || decide (150 < n))) :=  by
 refine FnC.mk Tryz.func55 (by kernel_rfl) rfl Tryz.ntmps55 rfl (fun w0 F => ?_)
 refine W.s (.r (.q (.assign .k) rfl (.n (.h (.s (.r (.mv rfl rfl (.q (.eqi (.t rfl) .k) rfl (.mv rfl rfl (.qgF rfl rfl (.move (.t rfl)) rfl (.qgF rfl rfl (.gti (.c rfl) .k) rfl ?_))))))))))); refine W.q (.or (.t rfl) ⟨_, _, rfl, rfl, by ((simp; done))⟩) rfl ?_; refine W.asg rfl rfl (.n (.h ?_)); refine W.ret ?_; refine W.retn (M' := []) (rs := [.tmp 2]) (avs := [_]) Tryz.results55 ⟨rfl, trivial⟩ rfl (.refl _) ?_
 exact ⟨rfl, rfl⟩
end WSPart
end Go.Proofs.YtphlkdbglpcikaaGreatDoor
end
section
namespace Go.Proofs.YtphlkdbglpcikaaGreatDoor
open Go.Vl
open Y
namespace WNew
theorem c_New (ts : List Tp) (as_ : List Au) (hg : Sch.Good ts as_) (fin : List Int) (hfin : Sch.sizesOf ts as_ = some fin) (hall : (fin.any fun n => n == 0 || decide (150 < n)) = false) (M0 : List ME) (hI : ∀ n : Int, -1 ≤ n → n < 100 → FnC Tryz.prog 107 [.int n] M0 (fun r M => r = .str (itoa n) ∧ M = M0)) : FnC Tryz.prog 30 [.sl 3 (ts.map tpv)] M0 (fun r M => ∃ b, r = .tup [.lit (.pointer (some ⟨b, 0, none⟩)), .int 0] ∧ M = .box b 76 [.sl 3 (ts.map tpv), .sl 2 (as_.map Au.avx), .sl 1 (fin.map AV.int)] :: M0) :=  by
 refine FnC.mk Tryz.func30 (by kernel_rfl) rfl Tryz.ntmps30 rfl (fun w0 F => ?_)
 have hnl : (ts.map tpv).length = ts.length := List.length_map ..
 have hlen := hg.len
 have hpos := hg.pos
 have hfl : fin.length ≤ 8 := by
  have := Sch.mso_len 10 _ _ hfin
  rw [List.length_replicate] at this; omega
 refine W.s (.r (.q (.assign .k) rfl (.q (.assign .k) rfl (.n (.h (.s (.s (.r (.mv rfl rfl (.q (.lensl (.t rfl) Tryz.underlying23) rfl (.q (.lti (.t rfl) .k) rfl (.mv rfl rfl (.qgF rfl rfl (.move (.t rfl)) rfl (.qgF rfl rfl (.lensl (.c rfl) Tryz.underlying23) rfl ?_))))))))))))))
 refine W.qgF rfl rfl (.gti (.c rfl) .k) rfl ?_; refine W.q (.or (.t rfl) ⟨_, _, rfl, rfl, by ((simp; done))⟩) rfl ?_; refine W.n ?_; refine W.h ?_; refine W.isb 17 false rfl (by simp; omega) ?_; refine W.condF (.t rfl) ?_; refine W.k ?_; refine W.h ?_; refine W.s ?_; refine W.r ?_; refine W.q (.move (.t rfl)) rfl ?_; refine W.q (.build ty76 st76 rfl (fun hg => ⟨_, _, _, rfl, (.t rfl), rfl, rfl, rfl, rfl⟩)) rfl ?_; refine W.box (.t rfl) rfl rfl ?_; intro b20; refine W.q (.assign (.t rfl)) rfl ?_; refine W.n ?_; refine W.h ?_; refine W.s ?_; refine W.s ?_; refine W.r ?_; refine W.q (.move (.t rfl)) rfl ?_
 refine W.q (.lensl (.t rfl) Tryz.underlying23) rfl (.q (.move .k) rfl (.n (.h (.b ?_)))); refine W.own_nil 62 2 ?_; refine W.loop (D := []) (ι := Nat × Value) (fun z => [(23, true, .int (z.1 : Int)), (22, true, .int ((ts.map tpv).length : Int)), (21, true, .sl 3 (ts.map tpv)), (0, true, .sl 3 (ts.map tpv)), (4, true, .lit (.pointer (some ⟨b20, 0, none⟩)))]) (fun z => .arr z.2 62 2 ((as_.take z.1).map Au.avx) :: .box b20 76 [.sl 3 (ts.map tpv), .lit z.2, .lit (.slice none 0 0)] :: M0) (fun z => z.1 ≤ ts.length) (fun z => ts.length - z.1) (0, .slice none 0 0) ⟨rfl, rfl, rfl, rfl, rfl, trivial⟩ (by rw [List.append_nil]; exact .refl _) (Nat.zero_le _) ?_
 rintro ⟨i, va⟩ hi
 dsimp only at hi ⊢
 rcases (show i < ts.length ∨ i = ts.length from by omega) with hlt | hend
 ·have hgt := getD_mapG tpv Sch.dT ts i hlt
  have hname := hg.name i hlt
  have hone := hg.one i hlt
  have hform := hg.form i hlt
  have hattr := hg.attrs i hlt
  obtain ⟨k, hk, htc, hAk, hfi⟩ := hg.mach i hlt
  have kw := Sch.known k hk
  have htk := take_getDG Sch.dA as_ i (by have := hg.has; omega)
  rw [hAk] at htk
  generalize ts.getD i Sch.dT = t at hgt hname hone hform hattr htc
  obtain ⟨A, hA⟩ : ∃ A, Sch.auk k = A := ⟨_, rfl⟩
  have kw1 := kw.ord
  have hM := WMach.c_machine (Sch.itk k) [] kw.oks trivial t.content (by rw [htc]; exact (List.append_nil _).symm) (by rw [htc]; exact kw.len) (by have := kw.lv; simp only [It.anl]; omega) (Sch.auk k) kw.ord kw.acc kw.n32 ts.length hg.len (Sch.lastT ts) (by have := Sch.lastG_rng ts ts.length; have := hg.len; unfold Sch.lastT; omega) hfi M0 hI
  rw [hA] at htk hM
  rw [show ((ts.length : Nat) : Int) = ((ts.map tpv).length : Int) from by rw [hnl]] at hM
  refine W.s (.r (.q (.lti (.t rfl) (.t rfl)) rfl (.n (.h (.s ?_))))); refine W.isb 24 true rfl (by exact decide_eq_true (by omega)) ?_; refine W.condT (.t rfl) (.k (.h (.s (.b (.s (.r (.mv rfl rfl ?_))))))); refine W.q (.at (E := 28) (.t rfl) (.t rfl) Tryz.underlying23 ty28 (fun _ => ⟨by omega, hgt⟩) rfl rfl) rfl ?_; refine W.q (.lden (.t rfl) ag28 ty28 rfl rfl) rfl ?_
  refine W.alloc ty28 rfl rfl ?_; intro b6; refine W.q (.assign (.t rfl)) rfl ?_
  refine W.stb 0 (.t rfl) (.t rfl) rfl ty28 rfl rfl rfl (.n (.h (.s (.b (.s (.r (.q (.fab (.t rfl) fa28_0) rfl (.q (.ldb1 0 (.t rfl) rfl ag9 rfl) rfl (.q (.nes (.t rfl) .k) rfl (.mv rfl rfl (.qgT rfl rfl (.fab (.t rfl) fa28_0) rfl (.qgT rfl rfl (.ldb1 0 (.c rfl) rfl ag9 rfl) rfl ?_)))))))))))); refine W.callgT (Min := []) (caps := []) (avs := [_]) rfl rfl (fun hg => WName.c_Name t.name (by omega)) (fun hg => .f) (fun hg => ⟨(.i rfl (fun _ => hg)), trivial⟩) rfl (.refl _) rfl ?_; refine W.qgT rfl rfl (.not (.c rfl)) rfl ?_; refine W.q (.and (.t rfl) ⟨_, _, rfl, rfl, by ((simp; done))⟩) rfl ?_; refine W.asg rfl rfl (.n (.h ?_)); refine W.isb 28 false rfl (by rcases hname.2 with h | h; simp [h]; simp [h]) ?_; refine W.condF (.t rfl) (.s (.r (.mv rfl rfl (.mv rfl rfl ?_)))); refine W.q (.takesl (n := i) (.t rfl) Tryz.underlying23 ty28 (.t rfl) rfl (fun _ => by omega)) rfl ?_; refine W.q (.mkfn (caps := [.tmp 6]) (vs := [_]) ⟨(.t rfl), trivial⟩) rfl ?_; refine W.call (WSLib.c_ContainsFuncY (ts.take i) 48 [.pointer (some ⟨b6, 0, none⟩)] [.box b6 28 [.str t.name, .str t.content, .sl 1 (t.attrs.map AV.str)]] (fun u => u.name == t.name) (fun u _ => WSPart.c_New1 u t b6) (by rw [List.length_take]; omega)) ⟨(.t rfl), (.t rfl), trivial⟩ (.refl _) rfl ?_
  rintro _ _ ⟨rfl, rfl⟩
  refine W.asg rfl rfl (.n (.h ?_)); refine W.isb 38 false rfl (by exact hone) ?_; refine W.condF (.t rfl) (.s (.r (.q (.ldbn 0 (.t rfl) rfl ag28 ty28 rfl) rfl ?_))); refine W.callp (WSPart.c_form t hform) ⟨(.t rfl), trivial⟩ rfl ?_; refine W.q (.not (.t rfl)) rfl (.asg rfl rfl (.n (.h (.isb 44 false rfl (by rfl) (.condF (.t rfl) (.k (.bn (.h (.s (.s (.r (.q (.fab (.t rfl) fa28_2) rfl (.q (.ldb1 0 (.t rfl) rfl ag26 rfl) rfl ?_))))))))))))); refine W.callp (WSPart.c_attrs t.attrs hattr) ⟨(.t rfl), trivial⟩ rfl ?_; refine W.asg rfl rfl (.n (.h (.s (.r (.mv rfl rfl (.q (.nei (.t rfl) .k) rfl (.n (.h (.isb 52 false rfl (by rfl) (.condF (.t rfl) (.k (.h (.s ?_))))))))))))); refine W.drawnM (fun ee c_ => [.box b6 28 [.str t.name, .str t.content, .sl 1 (t.attrs.map AV.str)], .arr va 62 2 ((as_.take i).map Au.avx), .box b20 76 [.sl 3 (ts.map tpv), .lit va, .lit (.slice none 0 0)]] ++ ((bif ee 10 then [ME.box (c_ 10).1 62 (bif ee 11 then [.sl 1 (A.next.map pav), .sl 1 (A.final.map AV.bool)] else [.lit (.slice none 0 0), .lit (.slice none 0 0)])] else []) ++ M0)) (c0 := ks0) (by kernel_rfl) (by kernel_rfl) rfl ?_
  have hPm : ∀ (e : Nat → Bool) (c_ : Ks), ∃ Mr, List.Perm ((fun ee c_ => [.box b6 28 [.str t.name, .str t.content, .sl 1 (t.attrs.map AV.str)], .arr va 62 2 ((as_.take i).map Au.avx), .box b20 76 [.sl 3 (ts.map tpv), .lit va, .lit (.slice none 0 0)]] ++ ((bif ee 10 then [ME.box (c_ 10).1 62 (bif ee 11 then [.sl 1 (A.next.map pav), .sl 1 (A.final.map AV.bool)] else [.lit (.slice none 0 0), .lit (.slice none 0 0)])] else []) ++ M0)) e c_) (M0 ++ Mr) := fun e c_ => by
   dsimp only
   rw [← List.append_assoc]
   exact ⟨_, List.perm_append_comm⟩
  refine DM.q (fun e c hk => (.fab (.t rfl) fa28_1)) rfl (fun _ _ => rfl) (fun _ _ _ => rfl) (.q (fun e c hk => (.ldb1 0 (.t rfl) rfl ag9 rfl)) rfl (fun _ _ => rfl) (fun _ _ _ => rfl) (.q (fun e c hk => (.move (.t rfl))) rfl (fun _ _ => rfl) (fun _ _ _ => rfl) (.q (fun e c hk => (.lensl (.t rfl) Tryz.underlying23)) rfl (fun _ _ => rfl) (fun _ _ _ => rfl) ?_)))
  refine DM.q (fun e c hk => (.move (.t rfl))) rfl (fun _ _ => rfl) (fun _ _ _ => rfl) ?_; refine DM.callp (fun c => WSPart.c_lastText ts (by omega)) (fun c => ⟨(.t rfl), trivial⟩) rfl (fun _ _ => rfl) (fun _ _ _ => rfl) ?_; refine DM.callm (fun c => hM) (fun e c => hPm e c) (fun c => ⟨(.t rfl), (.t rfl), (.t rfl), trivial⟩) rfl (fun _ _ => rfl) (fun _ _ _ => rfl) ?_; refine DM.q (fun e c hk => (.move (.t rfl))) rfl (fun _ _ => rfl) (fun _ _ _ => rfl) ?_; refine DM.q (fun e c hk => (.extract (.t rfl) rfl)) rfl (fun _ _ => rfl) (fun _ _ _ => rfl) ?_; refine DM.q (fun e c hk => (.extract (.t rfl) rfl)) rfl (fun _ _ => rfl) (fun _ _ _ => rfl) ?_; refine DM.eff1 (av := fun c => .lit (.pointer (some ⟨(c 10).1, 0, none⟩))) rfl (fun c c_ h => by (simp only [h 10 (by (exact .inl rfl))])) (fun e c hk L_ hs Q h => ?_) ?_
  ·have hk_10 := hk.not
   have hk_11 := hk.down 11 (by kernel_rfl)
   simp only [addE, upd, eq_self, List.nil_append, List.cons_append, List.append_nil, hk_10, hk_11, Nat.reduceAdd, Nat.reduceEqDiff, ↓reduceIte, cond_true, cond_false] at h ⊢
   exact W.alloc ty62 rfl rfl (fun b => h (b, undef) _ (by (exact (List.perm_middle (l₁ := [_, _, _])).symm)))
  refine DM.eff0 (fun e c hk L_ hs Q h => ?_) ?_
  ·have hk_11 := hk.not
   have hk_10 := hk.up 10 (by kernel_rfl)
   simp only [addE, upd, eq_self, List.nil_append, List.cons_append, List.append_nil, hk_11, hk_10, Nat.reduceAdd, Nat.reduceEqDiff, ↓reduceIte, cond_true, cond_false] at h ⊢
   ((refine W.stb 3 (.t (hs _ _ rfl)) (.t (hs _ _ rfl)) rfl ty62 rfl rfl rfl ?_; exact h))
  refine DM.q (fun e c hk => (.assign (.t rfl))) rfl (fun _ _ => rfl) (fun _ _ _ => rfl) ?_; refine DM.nil (fun cc e_ he_ => ?_)
  simp only [he_ 10 (by decide), he_ 11 (by decide), cond_true, cond_false]
  generalize (cc 10).1 = b8
  refine W.perm (M' := .arr va 62 2 ((as_.take i).map Au.avx) :: .box b20 76 [.sl 3 (ts.map tpv), .lit va, .lit (.slice none 0 0)] :: .box b8 62 [.sl 1 (A.next.map pav), .sl 1 (A.final.map AV.bool)] :: .box b6 28 [.str t.name, .str t.content, .sl 1 (t.attrs.map AV.str)] :: M0) ?_ ?_
  ·exact (List.perm_middle (l₁ := [_])).trans (List.Perm.cons _ ((List.perm_middle (l₁ := [_])).trans (List.Perm.cons _ (List.perm_middle (l₁ := [_])))))
  refine W.h (.s (.s (.r (.mv rfl rfl (.q (.nei (.t rfl) .k) rfl (.n (.h (.isb 65 false rfl (by rfl) (.condF (.t rfl) (.k (.h ?_))))))))))); refine W.drawnE (ι := Value) (fun ee c => (bif ee 7 then ME.arr c 62 2 (((as_.take i).map Au.avx) ++ [A.avx]) else ME.arr va 62 2 ((as_.take i).map Au.avx)) :: ME.box b20 76 [.sl 3 (ts.map tpv), bif ee 10 then .lit c else .lit va, .lit (.slice none 0 0)] :: .box b8 62 [.sl 1 (A.next.map pav), .sl 1 (A.final.map AV.bool)] :: .box b6 28 [.str t.name, .str t.content, .sl 1 (t.attrs.map AV.str)] :: M0) 7 va (by kernel_rfl) (by kernel_rfl) rfl ?_; refine DE.q (fun e c hk => (.move (.t rfl))) rfl (fun _ _ => rfl) (.inr fun _ _ => rfl) (.q (fun e c hk => (.move (.t rfl))) rfl (fun _ _ => rfl) (.inr fun _ _ => rfl) (.q (fun e c hk => (.nilc (.t rfl))) rfl (fun _ _ => rfl) (.inr fun _ _ => rfl) (.q (fun e c hk => (.fab (.t rfl) fa76_1)) rfl (fun _ _ => rfl) (.inr fun _ _ => rfl) ?_))); refine DE.q (av := fun _ => .lit va) (fun e c hk => by have h := hk.down 10 (by kernel_rfl); simp only [h, cond_false]; exact Ev.ldb1 1 (.t rfl) rfl ag74 rfl) rfl (fun _ _ => rfl) (.inr fun _ _ => rfl) ?_; refine DE.q (fun e c hk => (.ldbn 2 (.t rfl) rfl ag62 ty62 rfl)) rfl (fun _ _ => rfl) (.inr fun _ _ => rfl) ?_
  refine DE.bs (es := fun _ => [_]) Tryz.underlying74 ty62 (fun c => ⟨rfl, (.t rfl), rfl, rfl, trivial⟩) (fun _ => rfl) (by decide) rfl rfl (fun _ _ => rfl) (.inr fun _ _ => rfl) ?_; refine DE.eff1 (av := fun v => .lit v) rfl rfl (fun e c hk L_ hs Q h => ?_) ?_
  ·have hk_7 := hk.not
   have hk_10 := hk.down 10 (by kernel_rfl)
   simp only [addE, hk_7, hk_10, Nat.reduceAdd, Nat.reduceEqDiff, ↓reduceIte, cond_true, cond_false] at h ⊢
   ((refine W.app 0 (.t (hs _ _ rfl)) rfl (.sl (.t (hs _ _ rfl)) (by intro e he; rw [List.mem_singleton.1 he]; rfl)) Tryz.underlying74 ni74 ty62 rfl rfl (by rw [List.length_map, List.length_take]; simp only [List.length_cons, List.length_nil]; omega) rfl ?_; exact h))
  refine DE.q (fun e c hk => (.nilc (.t rfl))) rfl (fun _ _ => rfl) (.inr fun _ _ => rfl) (.q (fun e c hk => (.fab (.t rfl) fa76_1)) rfl (fun _ _ => rfl) (.inr fun _ _ => rfl) ?_)
  refine DE.eff0 (fun e c hk L_ hs Q h => ?_) ?_
  ·have hk_10 := hk.not
   have hk_7 := hk.up 7 (by kernel_rfl)
   simp only [addE, hk_10, hk_7, Nat.reduceAdd, Nat.reduceEqDiff, ↓reduceIte, cond_true, cond_false] at h ⊢
   refine W.arr_inv 0 rfl (fun a9 n9 c9 h9 => ?_)
   subst h9
   refine W.stb 1 (.t (hs _ _ rfl)) (.t (hs _ _ rfl)) rfl ty74 rfl rfl rfl ?_
   exact h
  refine DE.nil (fun v74 e_ he_ => ?_)
  simp only [he_ 7 (by decide), he_ 10 (by decide), cond_true, cond_false]
  refine W.bn (.h (.r (.q (.add (.t rfl) .k (fun _ => by omega)) rfl ?_)))
  refine W.q (.move (.t rfl)) rfl ?_; refine W.n ?_; refine W.h ?_; refine W.reach (D := [.box b8 62 [.sl 1 (A.next.map pav), .sl 1 (A.final.map AV.bool)], .box b6 28 [.str t.name, .str t.content, .sl 1 (t.attrs.map AV.str)]]) (i + 1, v74) ⟨rfl, rfl, rfl, rfl, rfl, trivial⟩ ?_ ⟨hlt, by show ts.length - (i + 1) < ts.length - i; omega⟩
  dsimp only
  rw [htk, List.map_append]
  exact List.Perm.cons _ (List.Perm.cons _ (List.perm_append_comm (l₁ := [_, _])))
 ·subst hend
  rw [List.take_of_length_le (by have := hg.has; omega)]
  refine W.s (.r (.q (.lti (.t rfl) (.t rfl)) rfl (.n (.h (.s ?_))))); refine W.isb 24 false rfl (by exact decide_eq_false (by omega)) ?_; refine W.condF (.t rfl) (.ex (.he (.he (.bh (.h (.s (.r ?_))))))); refine W.freezeA (M1 := .box b20 76 [.sl 3 (ts.map tpv), .lit va, .lit (.slice none 0 0)] :: M0) (M2 := .box b20 76 [.sl 3 (ts.map tpv), .sl 2 (as_.map Au.avx), .lit (.slice none 0 0)] :: M0) (D := []) (v := va) (L' := []) (by ((rw [List.append_nil]; done))) trivial ⟨.box ⟨.refl _, .hit, .refl _, trivial⟩, FrzMs.refl _⟩ ?_; refine W.mv rfl rfl ?_; refine W.call (WMeas.c_measure b20 ts as_ hg.has hg.sh (by omega) fin hfin) ⟨(.t rfl), trivial⟩ (.refl _) rfl ?_
  rintro _ _ ⟨rfl, vs, rfl⟩
  refine W.freezeA (M1 := .box b20 76 [.sl 3 (ts.map tpv), .sl 2 (as_.map Au.avx), .lit vs] :: M0) (M2 := .box b20 76 [.sl 3 (ts.map tpv), .sl 2 (as_.map Au.avx), .sl 1 (fin.map AV.int)] :: M0) (D := []) (v := vs) (L' := []) (by rw [List.append_nil]; exact List.Perm.swap _ _ _) trivial ⟨.box ⟨.refl _, .refl _, .hit, trivial⟩, FrzMs.refl _⟩ ?_; refine W.n (.h (.s (.s (.r (.mv rfl rfl (.q (.nilc (.t rfl)) rfl (.q (.fab (.t rfl) fa76_2) rfl (.q (.ldb1 0 (.t rfl) rfl ag22 rfl) rfl ?_)))))))); refine W.call (WConts.c_ContainsFuncI fin 55 [] [] (fun n => n == 0 || decide (150 < n)) (fun n _ => WSPart.c_New2 n) (by omega)) ⟨(.t rfl), .f, trivial⟩ (.refl _) rfl ?_
  rintro _ _ ⟨rfl, rfl⟩
  refine W.n (.h ?_); refine W.isb 84 false rfl (by exact hall) ?_; refine W.condF (.t rfl) (.k (.h (.s (.r (.mv rfl rfl (.asg rfl rfl (.q (.assign .k) rfl (.n (.h ?_))))))))); refine W.ret ?_; refine W.retn (M' := (.box b20 76 [.sl 3 (ts.map tpv), .sl 2 (as_.map Au.avx), .sl 1 (fin.map AV.int)] :: M0)) (D := []) (rs := [.tmp 2, .tmp 3]) (avs := [_, _]) Tryz.results30 ⟨rfl, rfl, trivial⟩ rfl (by rw [List.append_nil]; exact .refl _) ?_
  exact ⟨b20, rfl, rfl⟩
end WNew
end Go.Proofs.YtphlkdbglpcikaaGreatDoor
end
section
namespace Go.Proofs.YtphlkdbglpcikaaGreatDoor
open Go.Vl
open Y
namespace WValid
theorem c_Valid (ts : List Tp) (as_ : List Au) (hg : Sch.Good ts as_) (fin : List Int) (hfin : Sch.sizesOf ts as_ = some fin) (hall : (fin.any fun n => n == 0 || decide (150 < n)) = false) (f : Nat) (d : Nd) (e : Int) (hd : Sch.treeFault ts as_ f d = some e) (M0 : List ME) (hI : ∀ n : Int, -1 ≤ n → n < 100 → FnC Tryz.prog 107 [.int n] M0 (fun r M => r = .str (itoa n) ∧ M = M0)) : FnC Tryz.prog 20 [.sl 3 (ts.map tpv), Nd.avx d] M0 (fun r M => r = .int e ∧ M = M0) :=  by
 refine FnC.mk Tryz.func20 (by kernel_rfl) rfl Tryz.ntmps20 rfl (fun w0 F => ?_)
 have hta : ∀ i, (ts.getD i Sch.dT).attrs.length ≤ 1000 := fun i => hg.attl i
 refine W.s ?_; refine W.r ?_; refine W.box (.t rfl) rfl rfl ?_; intro b3; refine W.q (.assign .k) rfl ?_; refine W.n ?_; refine W.h ?_; refine W.s ?_; refine W.r ?_; refine W.q (.move (.t rfl)) rfl ?_; refine W.call (WNew.c_New ts as_ hg fin hfin hall M0 hI) ⟨(.t rfl), trivial⟩ ((List.perm_append_comm (l₁ := [_]))) rfl ?_
 rintro _ M' ⟨b, rfl, hM'⟩
 rw [hM']
 refine W.perm (M' := .box b 76 [.sl 3 (ts.map tpv), .sl 2 (as_.map Au.avx), .sl 1 (fin.map AV.int)] :: .box b3 35 (Nd.avx d).cells :: M0) (List.Perm.cons _ (List.perm_append_comm (l₂ := [_]))) ?_; refine W.mv rfl rfl (.q (.extract (.t rfl) rfl) rfl (.q (.extract (.t rfl) rfl) rfl (.asg rfl rfl (.asg rfl rfl (.n (.h (.s (.s (.r (.mv rfl rfl (.q (.nei (.t rfl) .k) rfl (.n (.h (.isb 13 false rfl (by rfl) (.condF (.t rfl) (.k (.h (.s (.r (.mv rfl rfl (.q (.ldbn 1 (.t rfl) rfl ag35 ty35 rfl) rfl ?_))))))))))))))))))))); refine W.call (WIdx.c_Fault b ts as_ fin hg.has hg.len hg.pos (fun A hA => (hg.sh A hA).1) hta f d e hd) ⟨(.t rfl), (.t rfl), trivial⟩ (.refl _) rfl ?_
 rintro _ _ ⟨rfl, rfl⟩
 refine W.asg rfl rfl (.n (.h ?_)); refine W.ret ?_; refine W.retn (M' := M0) (D := [_, _]) (rs := [.tmp 4]) (avs := [_]) Tryz.results20 ⟨rfl, trivial⟩ rfl (List.perm_append_comm (l₁ := [_, _])) ?_
 exact ⟨rfl, rfl⟩
end WValid
end Go.Proofs.YtphlkdbglpcikaaGreatDoor
end
section
namespace Go.Proofs.YtphlkdbglpcikaaGreatDoor
open Go.Vl
open Y
namespace WToGoF
set_option maxHeartbeats 1600000 in
theorem c_ToGoF (b : Nat) (ts : List Tp) (as_ : List Au) (sz : List Int) (A : Au) (hsh : A.Shape) (hn : A.next.length ≤ 100) (hcol : ∀ r ∈ A.next, ∀ k, k < 8 → 0 ≤ r.getD k (-1) → k < sz.length) (out : List Int) (htg : Sch.toGo sz A = some out) : FnC Tryz.prog 90 [.lit (.pointer (some ⟨b, 0, none⟩)), .agg [.sl 1 (A.next.map pav), .sl 1 (A.final.map AV.bool)]] [.box b 76 [.sl 3 (ts.map tpv), .sl 2 (as_.map Au.avx), .sl 1 (sz.map AV.int)]] (fun r M => r = .sl 1 (out.map AV.int) ∧ M = [.box b 76 [.sl 3 (ts.map tpv), .sl 2 (as_.map Au.avx), .sl 1 (sz.map AV.int)]]) :=  by
 refine FnC.mk Tryz.func90 (by kernel_rfl) rfl Tryz.ntmps90 rfl (fun w0 F => ?_)
 have hnl : (A.next.map pav).length = A.next.length := List.length_map ..
 have hfl : (A.final.map AV.bool).length = A.final.length := List.length_map ..
 have hfn := hsh.fin
 have hszl : (sz.map AV.int).length = sz.length := List.length_map ..
 refine W.s ?_; refine W.r ?_; refine W.box (.t rfl) rfl rfl ?_; intro b3; refine W.q (.assign .k) rfl ?_; refine W.n ?_; refine W.h ?_; refine W.s ?_; refine W.r ?_
 refine W.q (.fab (.t rfl) fa62_0) rfl (.q (.ldb1 0 (.t rfl) rfl ag59 rfl) rfl (.q (.lensl (.t rfl) Tryz.underlying59) rfl ?_))
 refine W.mk (.t rfl) (.t rfl) Tryz.underlying22 ty3 rfl rfl rfl rfl rfl (by omega) rfl ?_; intro v17
 have h00 : List.replicate (A.next.map pav).length (AV.int 0) = (Sch.tgI A 0).map AV.int := by rw [Sch.tgI_zero, hnl, hfn, List.map_replicate]
 refine W.perm (List.Perm.of_eq (show _ = [.arr v17 3 1 ((Sch.tgI A 0).map AV.int), .box b3 62 [.sl 1 (A.next.map pav), .sl 1 (A.final.map AV.bool)], .box b 76 [.sl 3 (ts.map tpv), .sl 2 (as_.map Au.avx), .sl 1 (sz.map AV.int)]] from by show (ME.arr v17 _ _ (List.replicate (A.next.map pav).length (AV.int 0)) :: _) = _; rw [h00]; rfl)) ?_; refine W.asg rfl rfl (.n (.h (.s (.s (.r (.q (.fab (.t rfl) fa62_1) rfl (.q (.ldb1 1 (.t rfl) rfl ag60 rfl) rfl (.q (.lensl (.t rfl) Tryz.underlying60) rfl ?_))))))))
 refine W.q (.move .k) rfl ?_; refine W.n ?_; refine W.h ?_; refine W.b ?_; refine W.loop (D := []) (ι := Nat) (fun i => [(21, true, .int (i : Int)), (20, true, .int ((A.final.map AV.bool).length : Int)), (19, true, .sl 1 (A.final.map AV.bool)), (0, true, .lit (.pointer (some ⟨b, 0, none⟩))), (3, true, .lit (.pointer (some ⟨b3, 0, none⟩))), (5, true, .lit v17)]) (fun i => [.arr v17 3 1 ((Sch.tgI A i).map AV.int), .box b3 62 [.sl 1 (A.next.map pav), .sl 1 (A.final.map AV.bool)], .box b 76 [.sl 3 (ts.map tpv), .sl 2 (as_.map Au.avx), .sl 1 (sz.map AV.int)]]) (fun i => i ≤ A.final.length) (fun i => A.final.length - i) 0 ⟨rfl, rfl, rfl, rfl, rfl, rfl, trivial⟩ (.refl _) (Nat.zero_le _) ?_; intro i hi
 dsimp only at hi ⊢
 rcases (show i < A.final.length ∨ i = A.final.length from by omega) with hlt | hend
 ·have hgf := getD_mapG AV.bool false A.final i hlt
  have hg0 := getD_map (Sch.tgI A i) i (by rw [Sch.tgI_len A i hi]; exact hlt)
  refine W.s (.r (.q (.lti (.t rfl) (.t rfl)) rfl (.n (.h (.s ?_))))); refine W.isb 22 true rfl (by exact decide_eq_true (by omega)) ?_; refine W.condT (.t rfl) (.k (.h (.s (.b (.s (.r (.mv rfl rfl ?_))))))); refine W.q (.at (E := 4) (.t rfl) (.t rfl) Tryz.underlying60 ty4 (fun _ => ⟨by omega, hgf⟩) rfl rfl) rfl ?_; refine W.q (.lde1 (.t rfl) ag4) rfl ?_
  refine W.q (.assign (.t rfl)) rfl ?_; refine W.q (.assign (.t rfl)) rfl ?_; refine W.n ?_; refine W.h ?_; refine W.s ?_; refine W.r ?_; refine W.q (.move (.t rfl)) rfl ?_; refine W.q (.not (.t rfl)) rfl ?_; refine W.n ?_; refine W.h ?_; refine W.cond (.t rfl) (fun hc_t27 => ?_) (fun hc_t27 => ?_)
  ·have hf0 : ¬ A.final.getD i false = true := by intro h; rw [h] at hc_t27; cases hc_t27
   have hsu := Sch.tgI_succ A i hlt
   rw [if_neg hf0] at hsu
   refine W.r (.mv rfl rfl (.mv rfl rfl ?_)); refine W.q (.ata 0 (.t rfl) rfl (.t rfl) Tryz.underlying22 ty3 (fun hg => by rw [List.length_map, Sch.tgI_len A i hi]; omega)) rfl ?_; refine W.sta 0 i 0 (e := AV.int ((Sch.tgI A i).getD i 0)) (e' := AV.int (-1)) (.t rfl) .k rfl hg0 (by omega) ty3 rfl rfl rfl rfl rfl rfl rfl ?_; refine W.n (.bn (.h (.r (.q (.add (.t rfl) .k (fun _ => by omega)) rfl (.mv rfl rfl (.n (.h ?_)))))))
   rw [← List.map_set, ← hsu]
   refine W.reach (D := []) (i + 1) ⟨rfl, rfl, rfl, rfl, rfl, rfl, trivial⟩ (.refl _) ⟨hlt, by show A.final.length - (i + 1) < A.final.length - i; omega⟩
  ·have hf0 : A.final.getD i false = true := by cases h : A.final.getD i false; rw [h] at hc_t27; cases hc_t27; rfl
   have hsu := Sch.tgI_succ A i hlt
   rw [if_pos hf0] at hsu
   refine W.k (.bn (.h (.r (.q (.add (.t rfl) .k (fun _ => by omega)) rfl (.mv rfl rfl (.n (.h ?_)))))))
   rw [← hsu]
   refine W.reach (D := []) (i + 1) ⟨rfl, rfl, rfl, rfl, rfl, rfl, trivial⟩ (.refl _) ⟨hlt, by show A.final.length - (i + 1) < A.final.length - i; omega⟩
 ·rw [hend, Sch.tgI_all]
  refine W.s (.r (.q (.lti (.t rfl) (.t rfl)) rfl (.n (.h (.s ?_))))); refine W.isb 22 false rfl (by exact decide_eq_false (by omega)) ?_; refine W.condF (.t rfl) (.ex (.he (.he (.bh (.h (.s (.s (.r (.q (.assign .k) rfl (.n (.h (.b ?_)))))))))))); refine W.loop (D := []) (ι := Nat × List Int × Bool) (fun z => [(8, true, .bool z.2.2), (0, true, .lit (.pointer (some ⟨b, 0, none⟩))), (3, true, .lit (.pointer (some ⟨b3, 0, none⟩))), (5, true, .lit v17)]) (fun z => [.arr v17 3 1 (z.2.1.map AV.int), .box b3 62 [.sl 1 (A.next.map pav), .sl 1 (A.final.map AV.bool)], .box b 76 [.sl 3 (ts.map tpv), .sl 2 (as_.map Au.avx), .sl 1 (sz.map AV.int)]]) (fun z => z.2.1.length = A.next.length ∧ ((z.2.2 = true ∧ Sch.tgo sz A z.1 z.2.1 = some out) ∨ (z.2.2 = false ∧ z.2.1 = out))) (fun z => if z.2.2 = true then z.1 + 1 else 0) (12, A.final.map (fun b => if b = true then (0 : Int) else -1), true) ⟨rfl, rfl, rfl, rfl, trivial⟩ (.refl _) ⟨by rw [List.length_map, hfn], .inl ⟨rfl, htg⟩⟩ ?_
  rintro ⟨f, o, mo⟩ ⟨hol0, hor⟩
  dsimp only at hol0 hor ⊢
  rcases hor with ⟨rfl, hrun⟩ | ⟨rfl, rfl⟩
  ·obtain ⟨m, rfl⟩ : ∃ m, f = m + 1 := by cases f; (cases hrun); exact ⟨_, rfl⟩
   simp only [Sch.tgo] at hrun
   refine W.s (.s (.r (.mv rfl rfl (.n (.h (.condT (.t rfl) (.k (.h (.b (.s (.r (.q (.assign .k) rfl (.n (.h (.s (.r (.q (.fab (.t rfl) fa62_0) rfl (.q (.ldb1 1 (.t rfl) rfl ag59 rfl) rfl (.q (.lensl (.t rfl) Tryz.underlying59) rfl ?_)))))))))))))))))))
   refine W.q (.move .k) rfl ?_; refine W.n ?_; refine W.h ?_; refine W.b ?_; refine W.loop (D := []) (ι := Nat) (fun i => [(36, true, .int (i : Int)), (35, true, .int ((A.next.map pav).length : Int)), (34, true, .sl 1 (A.next.map pav)), (8, true, .bool (Sch.rndc sz A (o, false) i).2), (0, true, .lit (.pointer (some ⟨b, 0, none⟩))), (3, true, .lit (.pointer (some ⟨b3, 0, none⟩))), (5, true, .lit v17)]) (fun i => [.arr v17 3 1 ((Sch.rndc sz A (o, false) i).1.map AV.int), .box b3 62 [.sl 1 (A.next.map pav), .sl 1 (A.final.map AV.bool)], .box b 76 [.sl 3 (ts.map tpv), .sl 2 (as_.map Au.avx), .sl 1 (sz.map AV.int)]]) (fun i => i ≤ A.next.length) (fun i => A.next.length - i) 0 ⟨rfl, rfl, rfl, rfl, rfl, rfl, rfl, trivial⟩ (.refl _) (Nat.zero_le _) ?_; intro i hi
   dsimp only at hi ⊢
   rcases (show i < A.next.length ∨ i = A.next.length from by omega) with hlti | hend
   ·have hgr := getD_mapG pav [] A.next i hlti
    have hrm := getD_memG [] A.next i hlti
    have hr8 := hsh.mem_row _ hrm
    have hent := hsh.mem_ent _ hrm
    have hcl := hcol _ hrm
    have hsi := Sch.rndc_succ sz A (o, false) i
    generalize A.next.getD i [] = row at hgr hrm hr8 hent hcl hsi
    have hrl : (row.map AV.int).length = 8 := by rw [List.length_map]; exact hr8
    refine W.s (.r (.q (.lti (.t rfl) (.t rfl)) rfl (.n (.h (.s ?_))))); refine W.isb 37 true rfl (by exact decide_eq_true (by omega)) ?_; refine W.condT (.t rfl) (.k (.h (.s (.b (.s (.r (.mv rfl rfl ?_))))))); refine W.q (.at (E := 22) (.t rfl) (.t rfl) Tryz.underlying59 ty22 (fun _ => ⟨by omega, hgr⟩) rfl rfl) rfl ?_; refine W.q (.lde1 (.t rfl) ag22) rfl (.asg rfl rfl (.asg rfl rfl (.n (.h (.s (.r (.mv rfl rfl (.q (.lensl (.t rfl) Tryz.underlying22) rfl ?_))))))))
    refine W.q (.move .k) rfl ?_; refine W.n ?_; refine W.h ?_; refine W.b ?_; refine W.loop (D := []) (ι := Nat) (fun k => [(43, true, .int (k : Int)), (42, true, .int ((row.map AV.int).length : Int)), (41, true, .sl 1 (row.map AV.int)), (9, true, .int (i : Int)), (36, true, .int (i : Int)), (35, true, .int ((A.next.map pav).length : Int)), (34, true, .sl 1 (A.next.map pav)), (10, true, .sl 1 (row.map AV.int)), (8, true, .bool (Sch.rowc sz i row (Sch.rndc sz A (o, false) i) k).2), (0, true, .lit (.pointer (some ⟨b, 0, none⟩))), (3, true, .lit (.pointer (some ⟨b3, 0, none⟩))), (5, true, .lit v17)]) (fun k => [.arr v17 3 1 ((Sch.rowc sz i row (Sch.rndc sz A (o, false) i) k).1.map AV.int), .box b3 62 [.sl 1 (A.next.map pav), .sl 1 (A.final.map AV.bool)], .box b 76 [.sl 3 (ts.map tpv), .sl 2 (as_.map Au.avx), .sl 1 (sz.map AV.int)]]) (fun k => k ≤ 8) (fun k => 8 - k) 0 ⟨rfl, rfl, rfl, rfl, rfl, rfl, rfl, rfl, rfl, rfl, rfl, rfl, trivial⟩ (.refl _) (Nat.zero_le _) ?_; intro k hk
    dsimp only at hk ⊢
    have hol : ((Sch.rowc sz i row (Sch.rndc sz A (o, false) i) k).1.map AV.int).length = A.next.length := by rw [List.length_map, Sch.rowc_len, Sch.rndc_len]; exact hol0
    have hol1 : (Sch.rowc sz i row (Sch.rndc sz A (o, false) i) k).1.length = A.next.length := by rw [Sch.rowc_len, Sch.rndc_len]; exact hol0
    obtain ⟨to, hto⟩ : ∃ z, row.getD k (-1) = z := ⟨_, rfl⟩
    rcases (show (k < 8 ∧ to < 0) ∨ (k < 8 ∧ 0 ≤ to) ∨ k = 8 from by omega) with ⟨hlt, hneg⟩ | ⟨hlt, hpos⟩ | hend
    ·have hgt : (row.map AV.int)[k]? = some (AV.int to) := by rw [List.getElem?_map, ← hto, List.getD_eq_getElem?_getD, List.getElem?_eq_getElem (show k < row.length by omega)]; rfl
     refine W.s (.r (.q (.lti (.t rfl) (.t rfl)) rfl (.n (.h (.s ?_))))); refine W.isb 44 true rfl (by exact decide_eq_true (by omega)) ?_; refine W.condT (.t rfl) (.k (.h (.s (.b (.s (.r (.mv rfl rfl ?_))))))); refine W.q (.at (E := 3) (.t rfl) (.t rfl) Tryz.underlying22 ty3 (fun _ => ⟨by omega, hgt⟩) rfl rfl) rfl ?_; refine W.q (.lde1 (.t rfl) ag3) rfl (.asg rfl rfl (.asg rfl rfl (.n (.h (.s (.s (.r (.mv rfl rfl (.q (.lti (.t rfl) .k) rfl (.mv rfl rfl ?_)))))))))); refine W.is (t := 50) (av' := .bool true) rfl (congrArg AV.bool (decide_eq_true hneg)) ?_; refine W.gnob rfl rfl (by simp) rfl ?_; refine W.gnob rfl rfl (by simp) rfl ?_; refine W.gnob rfl rfl (by simp) rfl ?_; refine W.gnob rfl rfl (by simp) rfl ?_; refine W.gnob rfl rfl (by simp) rfl ?_; refine W.q (.or (.t rfl) ⟨_, _, rfl, rfl, by ((simp; done))⟩) rfl ?_; refine W.mv rfl rfl ?_; refine W.isb 57 true rfl (by simp) ?_; refine W.gnob rfl rfl (by simp) rfl ?_; refine W.gnob rfl rfl (by simp) rfl ?_; refine W.gnob rfl rfl (by simp) rfl ?_; refine W.gnob rfl rfl (by simp) rfl ?_; refine W.gnob rfl rfl (by simp) rfl ?_; refine W.gnob rfl rfl (by simp) rfl ?_; refine W.gnob rfl rfl (by simp) rfl ?_; refine W.gnob rfl rfl (by simp) rfl ?_; refine W.q (.or (.t rfl) ⟨_, _, rfl, rfl, by ((simp; done))⟩) rfl ?_; refine W.n (.h ?_); refine W.isb 66 true rfl (by ((simp; done))) ?_; refine W.condT (.t rfl) (.ex (.he (.bh (.h (.r (.q (.add (.t rfl) .k (fun _ => by omega)) rfl (.mv rfl rfl (.n (.h ?_)))))))))
     have hst2 : Sch.rowc sz i row (Sch.rndc sz A (o, false) i) (k + 1) = Sch.rowc sz i row (Sch.rndc sz A (o, false) i) k := by rw [Sch.rowc_succ, hto]; exact if_pos (.inl hneg)
     refine W.is (t := 8) (av' := .bool (Sch.rowc sz i row (Sch.rndc sz A (o, false) i) (k + 1)).2) rfl (congrArg AV.bool (by rw [hst2])) ?_
     rw [← hst2]
     refine W.reach (D := []) (k + 1) ⟨rfl, rfl, rfl, rfl, rfl, rfl, rfl, rfl, rfl, rfl, rfl, rfl, trivial⟩ (.refl _) ⟨hlt, by show 8 - (k + 1) < 8 - k; omega⟩
    ·have hgt : (row.map AV.int)[k]? = some (AV.int to) := by rw [List.getElem?_map, ← hto, List.getD_eq_getElem?_getD, List.getElem?_eq_getElem (show k < row.length by omega)]; rfl
     have htn : to < A.next.length := (hent to (by rw [← hto]; exact getD_memG (-1) row k (by omega))).2
     have hks := hcl k hlt (by omega)
     have hgs := getD_map sz k hks
     have hgo := getD_map (Sch.rowc sz i row (Sch.rndc sz A (o, false) i) k).1 to.toNat (by omega)
     have hgi := getD_map (Sch.rowc sz i row (Sch.rndc sz A (o, false) i) k).1 i (by omega)
     refine W.s (.r (.q (.lti (.t rfl) (.t rfl)) rfl (.n (.h (.s ?_))))); refine W.isb 44 true rfl (by exact decide_eq_true (by omega)) ?_; refine W.condT (.t rfl) (.k (.h (.s (.b (.s (.r (.mv rfl rfl ?_))))))); refine W.q (.at (E := 3) (.t rfl) (.t rfl) Tryz.underlying22 ty3 (fun _ => ⟨by omega, hgt⟩) rfl rfl) rfl ?_; refine W.q (.lde1 (.t rfl) ag3) rfl (.asg rfl rfl (.asg rfl rfl (.n (.h (.s (.s (.r (.mv rfl rfl (.q (.lti (.t rfl) .k) rfl (.mv rfl rfl ?_)))))))))); refine W.is (t := 50) (av' := .bool false) rfl (congrArg AV.bool (decide_eq_false (by omega))) ?_; refine W.gyes rfl rfl (.mv rfl rfl (.gyes rfl rfl (.mv rfl rfl (.gyes rfl rfl ?_)))); refine W.q (.ata 0 (.t rfl) rfl (.t rfl) Tryz.underlying22 ty3 (fun hg => by rw [hol]; omega)) rfl ?_; refine W.gyes rfl rfl (.q (.lda1 0 to.toNat 0 (.t rfl) rfl hgo (by omega) rfl rfl rfl ag3) rfl (.gyes rfl rfl (.q (.lti (.t rfl) .k) rfl ?_))); refine W.q (.or (.t rfl) ⟨_, _, rfl, rfl, by ((simp; done))⟩) rfl ?_; refine W.mv rfl rfl (.qgF rfl rfl (.move (.t rfl)) rfl (.qgF rfl rfl (.nilc (.c rfl)) rfl (.qgF rfl rfl (.fab (.c rfl) fa76_2) rfl (.qgF rfl rfl (.ldb1 2 (.c rfl) rfl ag22 rfl) rfl (.qgF rfl rfl (.move (.t rfl)) rfl ?_))))); refine W.qgF rfl rfl (.at (E := 3) (.c rfl) (.c rfl) Tryz.underlying22 ty3 (fun _ => ⟨by omega, hgs⟩) rfl rfl) rfl ?_; refine W.qgF rfl rfl (.lde1 (.c rfl) ag3) rfl ?_
     refine W.qgF rfl rfl (.eqi (.c rfl) .k) rfl ?_; refine W.q (.or (.t rfl) ⟨_, _, rfl, rfl, by ((simp; done))⟩) rfl ?_; refine W.n ?_; refine W.h ?_; refine W.cond (.t rfl) (fun hc_t66 => ?_) (fun hc_t66 => ?_)
     ·have hst2 : Sch.rowc sz i row (Sch.rndc sz A (o, false) i) (k + 1) = Sch.rowc sz i row (Sch.rndc sz A (o, false) i) k := by rw [Sch.rowc_succ, hto]; unfold Sch.stepc; refine if_pos (.inr ?_); simpa using hc_t66
      refine W.ex (.he (.bh (.h (.r (.q (.add (.t rfl) .k (fun _ => by omega)) rfl (.mv rfl rfl (.n (.h ?_)))))))); refine W.is (t := 8) (av' := .bool (Sch.rowc sz i row (Sch.rndc sz A (o, false) i) (k + 1)).2) rfl (congrArg AV.bool (by rw [hst2])) ?_
      rw [← hst2]
      refine W.reach (D := []) (k + 1) ⟨rfl, rfl, rfl, rfl, rfl, rfl, rfl, rfl, rfl, rfl, rfl, rfl, trivial⟩ (.refl _) ⟨hlt, by show 8 - (k + 1) < 8 - k; omega⟩
     ·have h66 : ¬ (to < 0 ∨ (Sch.rowc sz i row (Sch.rndc sz A (o, false) i) k).1.getD to.toNat 0 < 0 ∨ sz.getD k 0 = 0) := by have hn0 : ¬ to < 0 := (by omega); simp only [hn0, false_or]; simpa using hc_t66
      refine W.k (.h (.s ?_)); refine W.drawn (by kernel_rfl) (by kernel_rfl) ?_; refine DP.q (.move (.t rfl)) rfl (.q (.nilc (.t rfl)) rfl (.q (.fab (.t rfl) fa76_2) rfl (.q (.ldb1 2 (.t rfl) rfl ag22 rfl) rfl (.q (.move (.t rfl)) rfl ?_)))); refine DP.q (.at (E := 3) (.t rfl) (.t rfl) Tryz.underlying22 ty3 (fun _ => ⟨by omega, hgs⟩) rfl rfl) rfl ?_; refine DP.q (.lde1 (.t rfl) ag3) rfl (.q (.move (.t rfl)) rfl (.q (.move (.t rfl)) rfl ?_)); refine DP.q (.ata 0 (.t rfl) rfl (.t rfl) Tryz.underlying22 ty3 (fun hg => by rw [hol]; omega)) rfl ?_; refine DP.q (.lda1 0 to.toNat 0 (.t rfl) rfl hgo (by omega) rfl rfl rfl ag3) rfl (.q (.addw (.t rfl) (.t rfl)) rfl ?_)
      refine DP.q (.assign (.t rfl)) rfl ?_; refine DP.nil ?_; refine W.h ?_; refine W.s ?_; refine W.r ?_; refine W.q (.move (.t rfl)) rfl ?_; refine W.q (.move (.t rfl)) rfl ?_; refine W.q (.ata 0 (.t rfl) rfl (.t rfl) Tryz.underlying22 ty3 (fun hg => by rw [hol]; omega)) rfl ?_; refine W.q (.lda1 0 i 0 (.t rfl) rfl hgi (by omega) rfl rfl rfl ag3) rfl ?_; refine W.q (.lti (.t rfl) .k) rfl ?_; refine W.q (.move (.t rfl)) rfl ?_; refine W.qgF rfl rfl (.move (.t rfl)) rfl ?_; refine W.qgF rfl rfl (.move (.t rfl)) rfl ?_; refine W.qgF rfl rfl (.move (.t rfl)) rfl ?_; refine W.qgF rfl rfl (.ata 0 (.c rfl) rfl (.c rfl) Tryz.underlying22 ty3 (fun hg => by rw [hol]; omega)) rfl ?_; refine W.qgF rfl rfl (.lda1 0 i 0 (.c rfl) rfl hgi (by omega) rfl rfl rfl ag3) rfl ?_; refine W.qgF rfl rfl (.lti (.c rfl) (.c rfl)) rfl ?_; refine W.q (.or (.t rfl) ⟨_, _, rfl, rfl, by ((simp; done))⟩) rfl ?_; refine W.n ?_; refine W.h ?_; refine W.cond (.t rfl) (fun hc_t91 => ?_) (fun hc_t91 => ?_)
      ·have hst2 : Sch.rowc sz i row (Sch.rndc sz A (o, false) i) (k + 1) = ((Sch.rowc sz i row (Sch.rndc sz A (o, false) i) k).1.set i (Sch.wr (sz.getD k 0 + (Sch.rowc sz i row (Sch.rndc sz A (o, false) i) k).1.getD to.toNat 0)), true) := by rw [Sch.rowc_succ, hto]; unfold Sch.stepc; rw [if_neg h66]; refine if_pos ?_; simpa [Sch.wr] using hc_t91
       refine W.r (.mv rfl rfl (.mv rfl rfl (.mv rfl rfl ?_))); refine W.q (.ata 0 (.t rfl) rfl (.t rfl) Tryz.underlying22 ty3 (fun hg => by rw [hol]; omega)) rfl ?_; refine W.sta 0 i 0 (e := AV.int ((Sch.rowc sz i row (Sch.rndc sz A (o, false) i) k).1.getD i 0)) (e' := AV.int (Sch.wr (sz.getD k 0 + (Sch.rowc sz i row (Sch.rndc sz A (o, false) i) k).1.getD to.toNat 0))) (.t rfl) (.t rfl) rfl hgi (by omega) ty3 rfl rfl rfl rfl rfl rfl rfl ?_; refine W.q (.assign .k) rfl (.n (.bn (.h (.r (.q (.add (.t rfl) .k (fun _ => by omega)) rfl (.mv rfl rfl (.n (.h ?_)))))))); refine W.is (t := 8) (av' := .bool (Sch.rowc sz i row (Sch.rndc sz A (o, false) i) (k + 1)).2) rfl (congrArg AV.bool (by rw [hst2])) ?_
       rw [← List.map_set, show (Sch.rowc sz i row (Sch.rndc sz A (o, false) i) k).1.set i (Sch.wr (sz.getD k 0 + (Sch.rowc sz i row (Sch.rndc sz A (o, false) i) k).1.getD to.toNat 0)) = (Sch.rowc sz i row (Sch.rndc sz A (o, false) i) (k + 1)).1 from by rw [hst2]]
       refine W.reach (D := []) (k + 1) ⟨rfl, rfl, rfl, rfl, rfl, rfl, rfl, rfl, rfl, rfl, rfl, rfl, trivial⟩ (.refl _) ⟨hlt, by show 8 - (k + 1) < 8 - k; omega⟩
      ·have hst2 : Sch.rowc sz i row (Sch.rndc sz A (o, false) i) (k + 1) = Sch.rowc sz i row (Sch.rndc sz A (o, false) i) k := by rw [Sch.rowc_succ, hto]; unfold Sch.stepc; rw [if_neg h66]; refine if_neg ?_; simpa [Sch.wr] using hc_t91
       refine W.k (.bn (.h (.r (.q (.add (.t rfl) .k (fun _ => by omega)) rfl (.mv rfl rfl (.n (.h ?_))))))); refine W.is (t := 8) (av' := .bool (Sch.rowc sz i row (Sch.rndc sz A (o, false) i) (k + 1)).2) rfl (congrArg AV.bool (by rw [hst2])) ?_
       rw [← hst2]
       refine W.reach (D := []) (k + 1) ⟨rfl, rfl, rfl, rfl, rfl, rfl, rfl, rfl, rfl, rfl, rfl, rfl, trivial⟩ (.refl _) ⟨hlt, by show 8 - (k + 1) < 8 - k; omega⟩
    ·subst hend
     refine W.s (.r (.q (.lti (.t rfl) (.t rfl)) rfl (.n (.h (.s ?_))))); refine W.isb 44 false rfl (by exact decide_eq_false (by omega)) ?_; refine W.condF (.t rfl) (.ex (.he (.he (.bh (.bn (.h (.r (.q (.add (.t rfl) .k (fun _ => by omega)) rfl (.mv rfl rfl (.n (.h ?_)))))))))))
     rw [← hsi]
     refine W.reach (D := []) (i + 1) ⟨rfl, rfl, rfl, rfl, rfl, rfl, rfl, trivial⟩ (.refl _) ⟨hlti, by show A.next.length - (i + 1) < A.next.length - i; omega⟩
   ·rw [hend]
    have hrl2 := Sch.rndc_len sz A (o, false) A.next.length
    have hor2 : ((Sch.rndc sz A (o, false) A.next.length).2 = true ∧ Sch.tgo sz A m (Sch.rndc sz A (o, false) A.next.length).1 = some out) ∨ ((Sch.rndc sz A (o, false) A.next.length).2 = false ∧ (Sch.rndc sz A (o, false) A.next.length).1 = out) := by
     split at hrun
     ·rename_i h; exact .inl ⟨h, hrun⟩
     ·rename_i h; exact .inr ⟨Bool.eq_false_iff.2 h, Option.some.inj hrun⟩
    refine W.s ?_; refine W.r ?_; refine W.q (.lti (.t rfl) (.t rfl)) rfl ?_; refine W.n ?_; refine W.h ?_; refine W.s ?_; refine W.isb 37 false rfl (by exact decide_eq_false (by omega)) ?_; refine W.condF (.t rfl) ?_; refine W.ex ?_; refine W.he ?_; refine W.he ?_; refine W.bh ?_; refine W.bn ?_; refine W.h ?_; refine W.reach (D := []) (m, (Sch.rndc sz A (o, false) A.next.length).1, (Sch.rndc sz A (o, false) A.next.length).2) ⟨rfl, rfl, rfl, rfl, trivial⟩ (.refl _) ⟨⟨by rw [hrl2]; exact hol0, hor2⟩, by have h1 : (if true = true then m + 1 + 1 else 0) = m + 2 := if_pos rfl; show (if (Sch.rndc sz A (o, false) A.next.length).2 = true then m + 1 else 0) < (if true = true then m + 1 + 1 else 0); rw [h1]; split <;> omega⟩
  ·skip
   refine W.s ?_; refine W.s ?_; refine W.r ?_; refine W.q (.move (.t rfl)) rfl ?_; refine W.n ?_; refine W.h ?_; refine W.condF (.t rfl) ?_; refine W.ex ?_; refine W.he ?_; refine W.he ?_; refine W.bh ?_; refine W.h ?_; refine W.s ?_; refine W.r ?_; refine W.q (.move (.t rfl)) rfl ?_; refine W.q (.assign (.t rfl)) rfl ?_; refine W.n ?_; refine W.h ?_; refine W.ret ?_; refine W.freeze (M1 := [.box b 76 [.sl 3 (ts.map tpv), .sl 2 (as_.map Au.avx), .sl 1 (sz.map AV.int)]]) (M2 := [.box b 76 [.sl 3 (ts.map tpv), .sl 2 (as_.map Au.avx), .sl 1 (sz.map AV.int)]]) (D := [_]) (v := v17) (L' := [(4, true, .sl 1 (o.map AV.int))]) (List.Perm.cons _ <| (List.perm_middle (l₁ := [_])).trans <| List.Perm.cons _ <| List.Perm.cons _ <| .refl _) ⟨⟨_, rfl, .one .hit⟩, trivial⟩ (FrzMs.refl _) ?_; refine W.retn (M' := [.box b 76 [.sl 3 (ts.map tpv), .sl 2 (as_.map Au.avx), .sl 1 (sz.map AV.int)]]) (D := []) (rs := [.tmp 4]) (avs := [_]) Tryz.results90 ⟨rfl, trivial⟩ rfl (.refl _) ?_
   exact ⟨rfl, rfl⟩
end WToGoF
end Go.Proofs.YtphlkdbglpcikaaGreatDoor
end
section
namespace Go.Proofs.YtphlkdbglpcikaaGreatDoor
open Go.Vl
open Y
namespace WCheap
theorem c_cheapest (b : Nat) (ts : List Tp) (as_ : List Au) (sz : List Int) (A : Au) (hsh : A.Shape) (hn : A.next.length ≤ 100) (hcol : ∀ r ∈ A.next, ∀ k, k < 8 → 0 ≤ r.getD k (-1) → k < sz.length) (w : List Int) (hw : Sch.cheap sz A = some w) : FnC Tryz.prog 92 [.lit (.pointer (some ⟨b, 0, none⟩)), .agg [.sl 1 (A.next.map pav), .sl 1 (A.final.map AV.bool)]] [.box b 76 [.sl 3 (ts.map tpv), .sl 2 (as_.map Au.avx), .sl 1 (sz.map AV.int)]] (fun r M => r = .sl 1 (w.map AV.int) ∧ M = [.box b 76 [.sl 3 (ts.map tpv), .sl 2 (as_.map Au.avx), .sl 1 (sz.map AV.int)]]) :=  by
 refine FnC.mk Tryz.func92 (by kernel_rfl) rfl Tryz.ntmps92 rfl (fun w0 F => ?_)
 have hnl : (A.next.map pav).length = A.next.length := List.length_map ..
 have hfn := hsh.fin
 have hpos := hsh.pos
 unfold Sch.cheap at hw
 obtain ⟨rest, hre⟩ : ∃ o, Sch.toGo sz A = some o := by
  cases h : Sch.toGo sz A with
  | none => rw [h] at hw; cases hw
  | some o => exact ⟨o, rfl⟩
 rw [hre] at hw
 dsimp only at hw
 have hrl := Sch.toGo_len hre
 have hrl2 : (rest.map AV.int).length = rest.length := List.length_map ..
 refine W.s ?_; refine W.r ?_; refine W.box (.t rfl) rfl rfl ?_; intro b3; refine W.q (.assign .k) rfl ?_; refine W.n ?_; refine W.h ?_; refine W.s ?_; refine W.r ?_; refine W.q (.move (.t rfl)) rfl ?_
 refine W.q (.ldbn 0 (.t rfl) rfl ag62 ty62 rfl) rfl ?_; refine W.call (WToGoF.c_ToGoF b ts as_ sz A hsh hn hcol rest hre) ⟨(.t rfl), (.t rfl), trivial⟩ (List.Perm.swap _ _ []) rfl ?_
 rintro _ _ ⟨rfl, rfl⟩
 refine W.perm (List.Perm.swap _ _ []) ?_; refine W.asg rfl rfl (.n (.h (.s (.r (.q (.assign .k) rfl (.n (.h (.s (.s (.r (.q (.assign .k) rfl (.n (.h (.b ?_)))))))))))))); refine W.own_nil 3 1 ?_; refine W.loop (D := []) (ι := Nat × Nat × List Int × Value) (fun z => [(7, true, .int ((z.2.1 : Nat) : Int)), (5, true, .sl 1 (rest.map AV.int)), (6, true, .lit z.2.2.2), (3, true, .lit (.pointer (some ⟨b3, 0, none⟩))), (0, true, .lit (.pointer (some ⟨b, 0, none⟩)))]) (fun z => [.arr z.2.2.2 3 1 (z.2.2.1.map AV.int), .box b3 62 [.sl 1 (A.next.map pav), .sl 1 (A.final.map AV.bool)], .box b 76 [.sl 3 (ts.map tpv), .sl 2 (as_.map Au.avx), .sl 1 (sz.map AV.int)]]) (fun z => Sch.cho sz A rest z.1 z.2.1 z.2.2.1 = some w ∧ z.2.1 < A.next.length ∧ z.2.2.1.length ≤ 12 - z.1 ∧ z.1 ≤ 12) (fun z => z.1) (12, 0, [], .slice none 0 0) ⟨rfl, rfl, rfl, rfl, rfl, trivial⟩ (.refl _) ⟨hw, hpos, Nat.le_refl _, Nat.le_refl _⟩ ?_
 rintro ⟨f0, a, wd, vw⟩ ⟨hrun, ha, hwl, hf12⟩
 dsimp only at hrun ha hwl hf12 ⊢
 obtain ⟨f, rfl⟩ : ∃ f, f0 = f + 1 := by cases f0; (cases hrun); exact ⟨_, rfl⟩
 simp only [Sch.cho] at hrun
 have hga := getD_map rest a (by omega)
 ·skip
  refine W.s (.s (.r (.mv rfl rfl (.mv rfl rfl ?_)))); refine W.q (.at (E := 3) (.t rfl) (.t rfl) Tryz.underlying22 ty3 (fun hg => ⟨by omega, hga⟩) rfl rfl) rfl ?_; refine W.q (.lde1 (.t rfl) ag3) rfl ?_
  refine W.q (.gti (.t rfl) .k) rfl ?_; refine W.n ?_; refine W.h ?_; refine W.cond (.t rfl) (fun hc_t17 => ?_) (fun hc_t17 => ?_)
  ·have h17 := of_decide_eq_true hc_t17
   rw [if_pos h17] at hrun
   obtain ⟨mm, hmm⟩ : ∃ m, Sch.firstN (Sch.pick1 sz rest a (A.next.getD a [])) 8 0 = some m := by
    cases h : Sch.firstN (Sch.pick1 sz rest a (A.next.getD a [])) 8 0 with
    | none => rw [h] at hrun; cases hrun
    | some m => exact ⟨m, rfl⟩
   rw [hmm] at hrun
   dsimp only at hrun
   have hgr := getD_mapG pav [] A.next a ha
   have hrm := getD_memG [] A.next a ha
   have hr8 := hsh.mem_row _ hrm
   have hent := hsh.mem_ent _ hrm
   have hcl := hcol _ hrm
   generalize A.next.getD a [] = row at hgr hrm hr8 hent hcl hmm hrun
   have hrl8 : (row.map AV.int).length = 8 := by rw [List.length_map]; exact hr8
   refine W.k (.h (.b (.s (.r (.q (.fab (.t rfl) fa62_0) rfl (.q (.ldb1 1 (.t rfl) rfl ag59 rfl) rfl (.mv rfl rfl ?_))))))); refine W.q (.at (E := 22) (.t rfl) (.t rfl) Tryz.underlying59 ty22 (fun hg => ⟨by omega, hgr⟩) rfl rfl) rfl ?_; refine W.q (.lde1 (.t rfl) ag22) rfl (.q (.lensl (.t rfl) Tryz.underlying22) rfl (.q (.move .k) rfl (.n (.h (.b ?_))))); refine W.loop (D := []) (ι := Nat) (fun n => [(24, true, .int ((n : Nat) : Int)), (23, true, .int ((row.map AV.int).length : Int)), (22, true, .sl 1 (row.map AV.int)), (7, true, .int ((a : Nat) : Int)), (5, true, .sl 1 (rest.map AV.int)), (6, true, .lit vw), (3, true, .lit (.pointer (some ⟨b3, 0, none⟩))), (0, true, .lit (.pointer (some ⟨b, 0, none⟩)))]) (fun n => [.arr vw 3 1 (wd.map AV.int), .box b3 62 [.sl 1 (A.next.map pav), .sl 1 (A.final.map AV.bool)], .box b 76 [.sl 3 (ts.map tpv), .sl 2 (as_.map Au.avx), .sl 1 (sz.map AV.int)]]) (fun n => n ≤ 8 ∧ Sch.firstN (Sch.pick1 sz rest a row) (8 - n) n = some mm) (fun n => 8 - n) 0 ⟨rfl, rfl, rfl, rfl, rfl, rfl, rfl, rfl, trivial⟩ (.refl _) ⟨Nat.zero_le _, hmm⟩ ?_
   rintro n ⟨hn8, hfs⟩
   dsimp only at hn8 hfs ⊢
   obtain ⟨q, hq⟩ : ∃ q, 8 - n = q + 1 := by cases h : 8 - n; (rw [h] at hfs; cases hfs); exact ⟨_, rfl⟩
   rw [hq] at hfs
   simp only [Sch.firstN] at hfs
   obtain ⟨to, hto⟩ : ∃ z, row.getD n (-1) = z := ⟨_, rfl⟩
   have hgt : (row.map AV.int)[n]? = some (AV.int to) := by rw [List.getElem?_map, ← hto, List.getD_eq_getElem?_getD, List.getElem?_eq_getElem (show n < row.length by omega)]; rfl
   have htn := hent to (by rw [← hto]; exact getD_memG (-1) row n (by omega))
   have hks : 0 ≤ to → n < sz.length := fun h => hcl n (by omega) (by omega)
   have hgs : 0 ≤ to → (sz.map AV.int)[n]? = some (AV.int (sz.getD n 0)) := fun h => getD_map sz n (hks h)
   have hszl : (sz.map AV.int).length = sz.length := List.length_map ..
   have hgo := getD_map rest to.toNat (by omega)
   ·skip
    refine W.s (.r (.q (.lti (.t rfl) (.t rfl)) rfl (.n (.h (.s ?_))))); refine W.isb 25 true rfl (by exact decide_eq_true (by omega)) ?_; refine W.condT (.t rfl) (.k (.h (.s (.b (.s (.r (.mv rfl rfl ?_))))))); refine W.q (.at (E := 3) (.t rfl) (.t rfl) Tryz.underlying22 ty3 (fun hg => ⟨by omega, hgt⟩) rfl rfl) rfl ?_; refine W.q (.lde1 (.t rfl) ag3) rfl (.asg rfl rfl (.asg rfl rfl (.n (.h (.s ?_))))); refine W.drawn (by kernel_rfl) (by kernel_rfl) ?_; refine DP.q (.move (.t rfl)) rfl (.q (.gei (.t rfl) .k) rfl (.q (.move (.t rfl)) rfl (.qgT rfl rfl (.move (.t rfl)) rfl (.qgT rfl rfl (.move (.t rfl)) rfl ?_)))); refine DP.qgT rfl rfl (.at (E := 3) (.c rfl) (.c rfl) Tryz.underlying22 ty3 (fun hg => ⟨by simp at hg; omega, hgo⟩) rfl rfl) rfl ?_; refine DP.qgT rfl rfl (.lde1 (.c rfl) ag3) rfl (.qgT rfl rfl (.gei (.c rfl) .k) rfl ?_); refine DP.q (.and (.t rfl) ⟨_, _, rfl, rfl, by ((simp; done))⟩) rfl ?_; refine DP.q (.move (.t rfl)) rfl (.qgT rfl rfl (.move (.t rfl)) rfl (.qgT rfl rfl (.nilc (.c rfl)) rfl (.qgT rfl rfl (.fab (.c rfl) fa76_2) rfl (.qgT rfl rfl (.ldb1 2 (.c rfl) rfl ag22 rfl) rfl (.qgT rfl rfl (.move (.t rfl)) rfl ?_))))); refine DP.qgT rfl rfl (.at (E := 3) (.c rfl) (.c rfl) Tryz.underlying22 ty3 (fun hg => ⟨by have := hks (by simp at hg; omega); omega, hgs (by simp at hg; omega)⟩) rfl rfl) rfl ?_; refine DP.qgT rfl rfl (.lde1 (.c rfl) ag3) rfl (.qgT rfl rfl (.move (.t rfl)) rfl (.qgT rfl rfl (.move (.t rfl)) rfl ?_)); refine DP.qgT rfl rfl (.at (E := 3) (.c rfl) (.c rfl) Tryz.underlying22 ty3 (fun hg => ⟨by simp at hg; omega, hgo⟩) rfl rfl) rfl ?_; refine DP.qgT rfl rfl (.lde1 (.c rfl) ag3) rfl (.qgT rfl rfl (.addw (.c rfl) (.c rfl)) rfl (.qgT rfl rfl (.move (.t rfl)) rfl (.qgT rfl rfl (.move (.t rfl)) rfl ?_))); refine DP.qgT rfl rfl (.at (E := 3) (.c rfl) (.c rfl) Tryz.underlying22 ty3 (fun hg => ⟨by omega, hga⟩) rfl rfl) rfl ?_; refine DP.qgT rfl rfl (.lde1 (.c rfl) ag3) rfl ?_
    refine DP.qgT rfl rfl (.eqi (.c rfl) (.c rfl)) rfl ?_; refine DP.q (.and (.t rfl) ⟨_, _, rfl, rfl, by ((simp; done))⟩) rfl ?_; refine DP.nil ?_; refine W.h ?_; refine W.cond (.t rfl) (fun hc_t56 => ?_) (fun hc_t56 => ?_)
    ·have hp1 : Sch.pick1 sz rest a row n = true := by unfold Sch.pick1; rw [hto]; exact hc_t56
     rw [if_pos hp1] at hfs
     obtain rfl := Option.some.inj hfs
     have hto0 : 0 ≤ to := by simp only [Bool.and_eq_true, decide_eq_true_eq] at hc_t56; exact hc_t56.1.1
     rw [hto] at hrun
     refine W.s (.r (.mv rfl rfl (.mv rfl rfl ?_))); refine W.bs (es := [_]) Tryz.underlying22 ty3 ⟨rfl, (.t rfl), rfl, rfl, trivial⟩ rfl (by decide) rfl rfl ?_; refine W.app 0 (.t rfl) rfl (.sl (.t rfl) (by ((simp [AV.okc, shV]; done)))) Tryz.underlying22 ni22 ty3 rfl rfl (by rw [List.length_map]; simp only [List.length_cons, List.length_nil]; omega) rfl ?_
     intro v60; refine W.q (.assign (.t rfl)) rfl ?_; refine W.n ?_; refine W.h ?_; refine W.s ?_; refine W.r ?_; refine W.q (.move (.t rfl)) rfl ?_; refine W.q (.assign (.t rfl)) rfl ?_; refine W.n ?_; refine W.h ?_; refine W.ex ?_; refine W.bm rfl ?_; refine W.he ?_; refine W.he ?_; refine W.bh ?_; refine W.bn ?_; refine W.h ?_; refine W.is (t := 7) (av' := .int ((to.toNat : Nat) : Int)) rfl (congrArg AV.int (by omega)) ?_; refine W.reach (D := []) (f, to.toNat, wd ++ [(n : Int)], v60) ⟨rfl, rfl, rfl, rfl, rfl, trivial⟩ (by rw [List.append_nil]; (try dsimp only); rw [List.map_append]; exact .refl _) ⟨⟨hrun, by show to.toNat < A.next.length; omega, by show (wd ++ [(n : Int)]).length ≤ _; simp only [List.length_append, List.length_cons, List.length_nil]; omega, by show f ≤ 12; omega⟩, by show f < f + 1; omega⟩
    ·have hp1 : ¬ Sch.pick1 sz rest a row n = true := by unfold Sch.pick1; rw [hto]; exact Bool.eq_false_iff.1 hc_t56
     rw [if_neg hp1] at hfs
     refine W.k (.bn (.h (.r (.q (.add (.t rfl) .k (fun _ => by omega)) rfl ?_))))
     refine W.q (.move (.t rfl)) rfl ?_; refine W.n ?_; refine W.h ?_; refine W.reach (D := []) (n + 1) ⟨rfl, rfl, rfl, rfl, rfl, rfl, rfl, rfl, trivial⟩ (.refl _) ⟨⟨by omega, by rw [show 8 - (n + 1) = q from by omega]; exact hfs⟩, by show 8 - (n + 1) < 8 - n; omega⟩
  ·have h17 := of_decide_eq_false hc_t17
   rw [if_neg h17] at hrun
   obtain rfl := Option.some.inj hrun
   refine W.ex ?_; refine W.he ?_; refine W.he ?_; refine W.bh ?_; refine W.h ?_; refine W.s ?_; refine W.r ?_; refine W.q (.move (.t rfl)) rfl ?_; refine W.q (.assign (.t rfl)) rfl ?_; refine W.n ?_; refine W.h ?_; refine W.ret ?_; refine W.freeze (M1 := [.box b 76 [.sl 3 (ts.map tpv), .sl 2 (as_.map Au.avx), .sl 1 (sz.map AV.int)]]) (M2 := [.box b 76 [.sl 3 (ts.map tpv), .sl 2 (as_.map Au.avx), .sl 1 (sz.map AV.int)]]) (D := [_]) (v := vw) (L' := [(4, true, .sl 1 (wd.map AV.int))]) (List.Perm.cons _ <| (List.perm_middle (l₁ := [_])).trans <| List.Perm.cons _ <| List.Perm.cons _ <| .refl _) ⟨⟨_, rfl, .one .hit⟩, trivial⟩ (FrzMs.refl _) ?_; refine W.retn (M' := [.box b 76 [.sl 3 (ts.map tpv), .sl 2 (as_.map Au.avx), .sl 1 (sz.map AV.int)]]) (D := []) (rs := [.tmp 4]) (avs := [_]) Tryz.results92 ⟨rfl, trivial⟩ rfl (.refl _) ?_
   exact ⟨rfl, rfl⟩
end WCheap
end Go.Proofs.YtphlkdbglpcikaaGreatDoor
end
