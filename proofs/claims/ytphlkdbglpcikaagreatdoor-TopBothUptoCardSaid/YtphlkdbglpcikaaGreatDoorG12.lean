/-
  Merged: WSPart WNew WFit WTypes SchK FitL SchA Top Law9.
-/
import Derived.Test.YtphlkdbglpcikaaGreatDoorG11
set_option linter.unusedVariables false
set_option linter.unusedSimpArgs false
set_option maxRecDepth 100000

section
namespace Go.Proofs.YtphlkdbglpcikaaGreatDoor
open Go.Vl
open Y
namespace WSPart
set_option maxHeartbeats 1000000 in
theorem c_form (t : Tp) (h : Sch.formB t = true) : FnP Tryz.prog 49 [tpv t] (.bool true) :=  by
 refine FnC.mk Tryz.func49 (by kernel_rfl) rfl Tryz.ntmps49 rfl (fun w0 F => ?_)
 refine W.s ?_; refine W.r ?_; refine W.box (.t rfl) rfl rfl ?_; intro b1; refine W.q (.assign .k) rfl ?_; refine W.n ?_; refine W.h ?_; refine W.s ?_; refine W.s ?_; refine W.r ?_
 refine W.q (.fab (.t rfl) fa28_0) rfl (.q (.ldb1 0 (.t rfl) rfl ag9 rfl) rfl ?_)
 refine W.n ?_; refine W.h ?_; refine W.b ?_; refine W.s ?_; refine W.r ?_; refine W.q (.eqs (.t rfl) .k) rfl ?_; refine W.q (.assign (.t rfl)) rfl ?_; refine W.n ?_; refine W.h ?_; refine W.cond (.t rfl) (fun hc_t5 => ?_) (fun hc_t5 => ?_)
 ·skip
  refine W.s (.r (.q (.fab (.t rfl) fa28_1) rfl (.q (.ldb1 0 (.t rfl) rfl ag9 rfl) rfl (.q (.eqs (.t rfl) .k) rfl (.mv rfl rfl (.qgT rfl rfl (.fab (.t rfl) fa28_2) rfl (.qgT rfl rfl (.ldb1 0 (.c rfl) rfl ag26 rfl) rfl (.qgT rfl rfl (.lensl (.c rfl) Tryz.underlying26) rfl (.qgT rfl rfl (.eqi (.c rfl) .k) rfl ?_))))))))); refine W.q (.and (.t rfl) ⟨_, _, rfl, rfl, by ((simp; done))⟩) rfl ?_; refine W.asg rfl rfl (.n (.h ?_)); refine W.ret ?_; refine W.br (.hr ?_); refine W.retn (M' := []) (D := _) (rs := [.tmp 2]) (avs := [_]) Tryz.results49 ⟨rfl, trivial⟩ rfl (.refl _) ?_
  exact ⟨congrArg AV.bool (by ((unfold Sch.formB at h; simp_all; done))), rfl⟩
 ·skip
  refine W.s ?_; refine W.s ?_; refine W.r ?_; refine W.q (.eqs (.t rfl) .k) rfl ?_; refine W.q (.assign (.t rfl)) rfl ?_; refine W.n ?_; refine W.h ?_; refine W.cond (.t rfl) (fun hc_t16 => ?_) (fun hc_t16 => ?_)
  ·skip
   refine W.k ?_; refine W.h ?_; refine W.cond (.t rfl) (fun hc_t16 => ?_) (fun hc_t16 => ?_)
   ·skip
    refine W.s (.r (.q (.assign .k) rfl (.n (.h ?_)))); refine W.ret ?_; refine W.br (.hr ?_); refine W.retn (M' := []) (D := _) (rs := [.tmp 2]) (avs := [_]) Tryz.results49 ⟨rfl, trivial⟩ rfl (.refl _) ?_
    exact ⟨congrArg AV.bool (by ((unfold Sch.formB at h; simp_all; done))), rfl⟩
   ·skip
    refine W.s ?_; refine W.s ?_; refine W.r ?_; refine W.q (.eqs (.t rfl) .k) rfl ?_; refine W.q (.assign (.t rfl)) rfl ?_; refine W.n ?_; refine W.h ?_; refine W.cond (.t rfl) (fun hc_t21 => ?_) (fun hc_t21 => ?_)
    ·skip
     refine W.k ?_; refine W.h ?_; refine W.cond (.t rfl) (fun hc_t21 => ?_) (fun hc_t21 => ?_)
     ·skip
      refine W.s (.r (.q (.fab (.t rfl) fa28_1) rfl (.q (.ldb1 0 (.t rfl) rfl ag9 rfl) rfl (.q (.eqs (.t rfl) .k) rfl (.asg rfl rfl (.n (.h ?_))))))); refine W.ret ?_; refine W.br (.hr ?_); refine W.retn (M' := []) (D := _) (rs := [.tmp 2]) (avs := [_]) Tryz.results49 ⟨rfl, trivial⟩ rfl (.refl _) ?_
      exact ⟨congrArg AV.bool (by ((unfold Sch.formB at h; simp_all; done))), rfl⟩
     ·skip
      refine W.k (.bn (.h (.s (.r (.q (.assign .k) rfl (.n (.h ?_))))))); refine W.ret ?_; refine W.retn (M' := []) (D := _) (rs := [.tmp 2]) (avs := [_]) Tryz.results49 ⟨rfl, trivial⟩ rfl (.refl _) ?_
      exact ⟨congrArg AV.bool (by (rfl)), rfl⟩
    ·skip
     refine W.s ?_; refine W.r ?_; refine W.q (.eqs (.t rfl) .k) rfl ?_; refine W.q (.assign (.t rfl)) rfl ?_; refine W.n ?_; refine W.h ?_; refine W.cond (.t rfl) (fun hc_t21 => ?_) (fun hc_t21 => ?_)
     ·skip
      refine W.k ?_; refine W.h ?_; refine W.cond (.t rfl) (fun hc_t21 => ?_) (fun hc_t21 => ?_)
      ·skip
       refine W.s (.r (.q (.fab (.t rfl) fa28_1) rfl (.q (.ldb1 0 (.t rfl) rfl ag9 rfl) rfl (.q (.eqs (.t rfl) .k) rfl (.asg rfl rfl (.n (.h ?_))))))); refine W.ret ?_; refine W.br (.hr ?_); refine W.retn (M' := []) (D := _) (rs := [.tmp 2]) (avs := [_]) Tryz.results49 ⟨rfl, trivial⟩ rfl (.refl _) ?_
       exact ⟨congrArg AV.bool (by ((unfold Sch.formB at h; simp_all; done))), rfl⟩
      ·skip
       refine W.k (.bn (.h (.s (.r (.q (.assign .k) rfl (.n (.h ?_))))))); refine W.ret ?_; refine W.retn (M' := []) (D := _) (rs := [.tmp 2]) (avs := [_]) Tryz.results49 ⟨rfl, trivial⟩ rfl (.refl _) ?_
       exact ⟨congrArg AV.bool (by (rfl)), rfl⟩
     ·skip
      refine W.s ?_; refine W.r ?_; refine W.q (.eqs (.t rfl) .k) rfl ?_; refine W.q (.assign (.t rfl)) rfl ?_; refine W.n ?_; refine W.h ?_; refine W.cond (.t rfl) (fun hc_t21 => ?_) (fun hc_t21 => ?_)
      ·skip
       refine W.k ?_; refine W.h ?_; refine W.cond (.t rfl) (fun hc_t21 => ?_) (fun hc_t21 => ?_)
       ·skip
        refine W.s (.r (.q (.fab (.t rfl) fa28_1) rfl (.q (.ldb1 0 (.t rfl) rfl ag9 rfl) rfl (.q (.eqs (.t rfl) .k) rfl (.asg rfl rfl (.n (.h ?_))))))); refine W.ret ?_; refine W.br (.hr ?_); refine W.retn (M' := []) (D := _) (rs := [.tmp 2]) (avs := [_]) Tryz.results49 ⟨rfl, trivial⟩ rfl (.refl _) ?_
        exact ⟨congrArg AV.bool (by ((unfold Sch.formB at h; simp_all; done))), rfl⟩
       ·skip
        refine W.k (.bn (.h (.s (.r (.q (.assign .k) rfl (.n (.h ?_))))))); refine W.ret ?_; refine W.retn (M' := []) (D := _) (rs := [.tmp 2]) (avs := [_]) Tryz.results49 ⟨rfl, trivial⟩ rfl (.refl _) ?_
        exact ⟨congrArg AV.bool (by (rfl)), rfl⟩
      ·skip
       refine W.r ?_; refine W.q (.eqs (.t rfl) .k) rfl ?_; refine W.q (.assign (.t rfl)) rfl ?_; refine W.n ?_; refine W.h ?_; refine W.cond (.t rfl) (fun hc_t21 => ?_) (fun hc_t21 => ?_)
       ·skip
        refine W.s (.r (.q (.fab (.t rfl) fa28_1) rfl (.q (.ldb1 0 (.t rfl) rfl ag9 rfl) rfl (.q (.eqs (.t rfl) .k) rfl (.asg rfl rfl (.n (.h ?_))))))); refine W.ret ?_; refine W.br (.hr ?_); refine W.retn (M' := []) (D := _) (rs := [.tmp 2]) (avs := [_]) Tryz.results49 ⟨rfl, trivial⟩ rfl (.refl _) ?_
        exact ⟨congrArg AV.bool (by ((unfold Sch.formB at h; simp_all; done))), rfl⟩
       ·skip
        refine W.k (.bn (.h (.s (.r (.q (.assign .k) rfl (.n (.h ?_))))))); refine W.ret ?_; refine W.retn (M' := []) (D := _) (rs := [.tmp 2]) (avs := [_]) Tryz.results49 ⟨rfl, trivial⟩ rfl (.refl _) ?_
        exact ⟨congrArg AV.bool (by (rfl)), rfl⟩
  ·skip
   refine W.s ?_; refine W.r ?_; refine W.q (.eqs (.t rfl) .k) rfl ?_; refine W.q (.assign (.t rfl)) rfl ?_; refine W.n ?_; refine W.h ?_; refine W.cond (.t rfl) (fun hc_t16 => ?_) (fun hc_t16 => ?_)
   ·skip
    refine W.k ?_; refine W.h ?_; refine W.cond (.t rfl) (fun hc_t16 => ?_) (fun hc_t16 => ?_)
    ·skip
     refine W.s (.r (.q (.assign .k) rfl (.n (.h ?_)))); refine W.ret ?_; refine W.br (.hr ?_); refine W.retn (M' := []) (D := _) (rs := [.tmp 2]) (avs := [_]) Tryz.results49 ⟨rfl, trivial⟩ rfl (.refl _) ?_
     exact ⟨congrArg AV.bool (by ((unfold Sch.formB at h; simp_all; done))), rfl⟩
    ·skip
     refine W.s ?_; refine W.s ?_; refine W.r ?_; refine W.q (.eqs (.t rfl) .k) rfl ?_; refine W.q (.assign (.t rfl)) rfl ?_; refine W.n ?_; refine W.h ?_; refine W.cond (.t rfl) (fun hc_t21 => ?_) (fun hc_t21 => ?_)
     ·skip
      refine W.k ?_; refine W.h ?_; refine W.cond (.t rfl) (fun hc_t21 => ?_) (fun hc_t21 => ?_)
      ·skip
       refine W.s (.r (.q (.fab (.t rfl) fa28_1) rfl (.q (.ldb1 0 (.t rfl) rfl ag9 rfl) rfl (.q (.eqs (.t rfl) .k) rfl (.asg rfl rfl (.n (.h ?_))))))); refine W.ret ?_; refine W.br (.hr ?_); refine W.retn (M' := []) (D := _) (rs := [.tmp 2]) (avs := [_]) Tryz.results49 ⟨rfl, trivial⟩ rfl (.refl _) ?_
       exact ⟨congrArg AV.bool (by ((unfold Sch.formB at h; simp_all; done))), rfl⟩
      ·skip
       refine W.k (.bn (.h (.s (.r (.q (.assign .k) rfl (.n (.h ?_))))))); refine W.ret ?_; refine W.retn (M' := []) (D := _) (rs := [.tmp 2]) (avs := [_]) Tryz.results49 ⟨rfl, trivial⟩ rfl (.refl _) ?_
       exact ⟨congrArg AV.bool (by (rfl)), rfl⟩
     ·skip
      refine W.s ?_; refine W.r ?_; refine W.q (.eqs (.t rfl) .k) rfl ?_; refine W.q (.assign (.t rfl)) rfl ?_; refine W.n ?_; refine W.h ?_; refine W.cond (.t rfl) (fun hc_t21 => ?_) (fun hc_t21 => ?_)
      ·skip
       refine W.k ?_; refine W.h ?_; refine W.cond (.t rfl) (fun hc_t21 => ?_) (fun hc_t21 => ?_)
       ·skip
        refine W.s (.r (.q (.fab (.t rfl) fa28_1) rfl (.q (.ldb1 0 (.t rfl) rfl ag9 rfl) rfl (.q (.eqs (.t rfl) .k) rfl (.asg rfl rfl (.n (.h ?_))))))); refine W.ret ?_; refine W.br (.hr ?_); refine W.retn (M' := []) (D := _) (rs := [.tmp 2]) (avs := [_]) Tryz.results49 ⟨rfl, trivial⟩ rfl (.refl _) ?_
        exact ⟨congrArg AV.bool (by ((unfold Sch.formB at h; simp_all; done))), rfl⟩
       ·skip
        refine W.k (.bn (.h (.s (.r (.q (.assign .k) rfl (.n (.h ?_))))))); refine W.ret ?_; refine W.retn (M' := []) (D := _) (rs := [.tmp 2]) (avs := [_]) Tryz.results49 ⟨rfl, trivial⟩ rfl (.refl _) ?_
        exact ⟨congrArg AV.bool (by (rfl)), rfl⟩
      ·skip
       refine W.s ?_; refine W.r ?_; refine W.q (.eqs (.t rfl) .k) rfl ?_; refine W.q (.assign (.t rfl)) rfl ?_; refine W.n ?_; refine W.h ?_; refine W.cond (.t rfl) (fun hc_t21 => ?_) (fun hc_t21 => ?_)
       ·skip
        refine W.k ?_; refine W.h ?_; refine W.cond (.t rfl) (fun hc_t21 => ?_) (fun hc_t21 => ?_)
        ·skip
         refine W.s (.r (.q (.fab (.t rfl) fa28_1) rfl (.q (.ldb1 0 (.t rfl) rfl ag9 rfl) rfl (.q (.eqs (.t rfl) .k) rfl (.asg rfl rfl (.n (.h ?_))))))); refine W.ret ?_; refine W.br (.hr ?_); refine W.retn (M' := []) (D := _) (rs := [.tmp 2]) (avs := [_]) Tryz.results49 ⟨rfl, trivial⟩ rfl (.refl _) ?_
         exact ⟨congrArg AV.bool (by ((unfold Sch.formB at h; simp_all; done))), rfl⟩
        ·skip
         refine W.k (.bn (.h (.s (.r (.q (.assign .k) rfl (.n (.h ?_))))))); refine W.ret ?_; refine W.retn (M' := []) (D := _) (rs := [.tmp 2]) (avs := [_]) Tryz.results49 ⟨rfl, trivial⟩ rfl (.refl _) ?_
         exact ⟨congrArg AV.bool (by (rfl)), rfl⟩
       ·skip
        refine W.r ?_; refine W.q (.eqs (.t rfl) .k) rfl ?_; refine W.q (.assign (.t rfl)) rfl ?_; refine W.n ?_; refine W.h ?_; refine W.cond (.t rfl) (fun hc_t21 => ?_) (fun hc_t21 => ?_)
        ·skip
         refine W.s (.r (.q (.fab (.t rfl) fa28_1) rfl (.q (.ldb1 0 (.t rfl) rfl ag9 rfl) rfl (.q (.eqs (.t rfl) .k) rfl (.asg rfl rfl (.n (.h ?_))))))); refine W.ret ?_; refine W.br (.hr ?_); refine W.retn (M' := []) (D := _) (rs := [.tmp 2]) (avs := [_]) Tryz.results49 ⟨rfl, trivial⟩ rfl (.refl _) ?_
         exact ⟨congrArg AV.bool (by ((unfold Sch.formB at h; simp_all; done))), rfl⟩
        ·skip
         refine W.k (.bn (.h (.s (.r (.q (.assign .k) rfl (.n (.h ?_))))))); refine W.ret ?_; refine W.retn (M' := []) (D := _) (rs := [.tmp 2]) (avs := [_]) Tryz.results49 ⟨rfl, trivial⟩ rfl (.refl _) ?_
         exact ⟨congrArg AV.bool (by (rfl)), rfl⟩
   ·skip
    refine W.s ?_; refine W.r ?_; refine W.q (.eqs (.t rfl) .k) rfl ?_; refine W.q (.assign (.t rfl)) rfl ?_; refine W.n ?_; refine W.h ?_; refine W.cond (.t rfl) (fun hc_t16 => ?_) (fun hc_t16 => ?_)
    ·skip
     refine W.k ?_; refine W.h ?_; refine W.cond (.t rfl) (fun hc_t16 => ?_) (fun hc_t16 => ?_)
     ·skip
      refine W.s (.r (.q (.assign .k) rfl (.n (.h ?_)))); refine W.ret ?_; refine W.br (.hr ?_); refine W.retn (M' := []) (D := _) (rs := [.tmp 2]) (avs := [_]) Tryz.results49 ⟨rfl, trivial⟩ rfl (.refl _) ?_
      exact ⟨congrArg AV.bool (by ((unfold Sch.formB at h; simp_all; done))), rfl⟩
     ·skip
      refine W.s ?_; refine W.s ?_; refine W.r ?_; refine W.q (.eqs (.t rfl) .k) rfl ?_; refine W.q (.assign (.t rfl)) rfl ?_; refine W.n ?_; refine W.h ?_; refine W.cond (.t rfl) (fun hc_t21 => ?_) (fun hc_t21 => ?_)
      ·skip
       refine W.k ?_; refine W.h ?_; refine W.cond (.t rfl) (fun hc_t21 => ?_) (fun hc_t21 => ?_)
       ·skip
        refine W.s (.r (.q (.fab (.t rfl) fa28_1) rfl (.q (.ldb1 0 (.t rfl) rfl ag9 rfl) rfl (.q (.eqs (.t rfl) .k) rfl (.asg rfl rfl (.n (.h ?_))))))); refine W.ret ?_; refine W.br (.hr ?_); refine W.retn (M' := []) (D := _) (rs := [.tmp 2]) (avs := [_]) Tryz.results49 ⟨rfl, trivial⟩ rfl (.refl _) ?_
        exact ⟨congrArg AV.bool (by ((unfold Sch.formB at h; simp_all; done))), rfl⟩
       ·skip
        refine W.k (.bn (.h (.s (.r (.q (.assign .k) rfl (.n (.h ?_))))))); refine W.ret ?_; refine W.retn (M' := []) (D := _) (rs := [.tmp 2]) (avs := [_]) Tryz.results49 ⟨rfl, trivial⟩ rfl (.refl _) ?_
        exact ⟨congrArg AV.bool (by (rfl)), rfl⟩
      ·skip
       refine W.s ?_; refine W.r ?_; refine W.q (.eqs (.t rfl) .k) rfl ?_; refine W.q (.assign (.t rfl)) rfl ?_; refine W.n ?_; refine W.h ?_; refine W.cond (.t rfl) (fun hc_t21 => ?_) (fun hc_t21 => ?_)
       ·skip
        refine W.k ?_; refine W.h ?_; refine W.cond (.t rfl) (fun hc_t21 => ?_) (fun hc_t21 => ?_)
        ·skip
         refine W.s (.r (.q (.fab (.t rfl) fa28_1) rfl (.q (.ldb1 0 (.t rfl) rfl ag9 rfl) rfl (.q (.eqs (.t rfl) .k) rfl (.asg rfl rfl (.n (.h ?_))))))); refine W.ret ?_; refine W.br (.hr ?_); refine W.retn (M' := []) (D := _) (rs := [.tmp 2]) (avs := [_]) Tryz.results49 ⟨rfl, trivial⟩ rfl (.refl _) ?_
         exact ⟨congrArg AV.bool (by ((unfold Sch.formB at h; simp_all; done))), rfl⟩
        ·skip
         refine W.k (.bn (.h (.s (.r (.q (.assign .k) rfl (.n (.h ?_))))))); refine W.ret ?_; refine W.retn (M' := []) (D := _) (rs := [.tmp 2]) (avs := [_]) Tryz.results49 ⟨rfl, trivial⟩ rfl (.refl _) ?_
         exact ⟨congrArg AV.bool (by (rfl)), rfl⟩
       ·skip
        refine W.s ?_; refine W.r ?_; refine W.q (.eqs (.t rfl) .k) rfl ?_; refine W.q (.assign (.t rfl)) rfl ?_; refine W.n ?_; refine W.h ?_; refine W.cond (.t rfl) (fun hc_t21 => ?_) (fun hc_t21 => ?_)
        ·skip
         refine W.k ?_; refine W.h ?_; refine W.cond (.t rfl) (fun hc_t21 => ?_) (fun hc_t21 => ?_)
         ·skip
          refine W.s (.r (.q (.fab (.t rfl) fa28_1) rfl (.q (.ldb1 0 (.t rfl) rfl ag9 rfl) rfl (.q (.eqs (.t rfl) .k) rfl (.asg rfl rfl (.n (.h ?_))))))); refine W.ret ?_; refine W.br (.hr ?_); refine W.retn (M' := []) (D := _) (rs := [.tmp 2]) (avs := [_]) Tryz.results49 ⟨rfl, trivial⟩ rfl (.refl _) ?_
          exact ⟨congrArg AV.bool (by ((unfold Sch.formB at h; simp_all; done))), rfl⟩
         ·skip
          refine W.k (.bn (.h (.s (.r (.q (.assign .k) rfl (.n (.h ?_))))))); refine W.ret ?_; refine W.retn (M' := []) (D := _) (rs := [.tmp 2]) (avs := [_]) Tryz.results49 ⟨rfl, trivial⟩ rfl (.refl _) ?_
          exact ⟨congrArg AV.bool (by (rfl)), rfl⟩
        ·skip
         refine W.r ?_; refine W.q (.eqs (.t rfl) .k) rfl ?_; refine W.q (.assign (.t rfl)) rfl ?_; refine W.n ?_; refine W.h ?_; refine W.cond (.t rfl) (fun hc_t21 => ?_) (fun hc_t21 => ?_)
         ·skip
          refine W.s (.r (.q (.fab (.t rfl) fa28_1) rfl (.q (.ldb1 0 (.t rfl) rfl ag9 rfl) rfl (.q (.eqs (.t rfl) .k) rfl (.asg rfl rfl (.n (.h ?_))))))); refine W.ret ?_; refine W.br (.hr ?_); refine W.retn (M' := []) (D := _) (rs := [.tmp 2]) (avs := [_]) Tryz.results49 ⟨rfl, trivial⟩ rfl (.refl _) ?_
          exact ⟨congrArg AV.bool (by ((unfold Sch.formB at h; simp_all; done))), rfl⟩
         ·skip
          refine W.k (.bn (.h (.s (.r (.q (.assign .k) rfl (.n (.h ?_))))))); refine W.ret ?_; refine W.retn (M' := []) (D := _) (rs := [.tmp 2]) (avs := [_]) Tryz.results49 ⟨rfl, trivial⟩ rfl (.refl _) ?_
          exact ⟨congrArg AV.bool (by (rfl)), rfl⟩
    ·skip
     refine W.r ?_; refine W.q (.eqs (.t rfl) .k) rfl ?_; refine W.q (.assign (.t rfl)) rfl ?_; refine W.n ?_; refine W.h ?_; refine W.cond (.t rfl) (fun hc_t16 => ?_) (fun hc_t16 => ?_)
     ·skip
      refine W.s (.r (.q (.assign .k) rfl (.n (.h ?_)))); refine W.ret ?_; refine W.br (.hr ?_); refine W.retn (M' := []) (D := _) (rs := [.tmp 2]) (avs := [_]) Tryz.results49 ⟨rfl, trivial⟩ rfl (.refl _) ?_
      exact ⟨congrArg AV.bool (by ((unfold Sch.formB at h; simp_all; done))), rfl⟩
     ·skip
      refine W.s ?_; refine W.s ?_; refine W.r ?_; refine W.q (.eqs (.t rfl) .k) rfl ?_; refine W.q (.assign (.t rfl)) rfl ?_; refine W.n ?_; refine W.h ?_; refine W.cond (.t rfl) (fun hc_t21 => ?_) (fun hc_t21 => ?_)
      ·skip
       refine W.k ?_; refine W.h ?_; refine W.cond (.t rfl) (fun hc_t21 => ?_) (fun hc_t21 => ?_)
       ·skip
        refine W.s (.r (.q (.fab (.t rfl) fa28_1) rfl (.q (.ldb1 0 (.t rfl) rfl ag9 rfl) rfl (.q (.eqs (.t rfl) .k) rfl (.asg rfl rfl (.n (.h ?_))))))); refine W.ret ?_; refine W.br (.hr ?_); refine W.retn (M' := []) (D := _) (rs := [.tmp 2]) (avs := [_]) Tryz.results49 ⟨rfl, trivial⟩ rfl (.refl _) ?_
        exact ⟨congrArg AV.bool (by ((unfold Sch.formB at h; simp_all; done))), rfl⟩
       ·skip
        refine W.k (.bn (.h (.s (.r (.q (.assign .k) rfl (.n (.h ?_))))))); refine W.ret ?_; refine W.retn (M' := []) (D := _) (rs := [.tmp 2]) (avs := [_]) Tryz.results49 ⟨rfl, trivial⟩ rfl (.refl _) ?_
        exact ⟨congrArg AV.bool (by (rfl)), rfl⟩
      ·skip
       refine W.s ?_; refine W.r ?_; refine W.q (.eqs (.t rfl) .k) rfl ?_; refine W.q (.assign (.t rfl)) rfl ?_; refine W.n ?_; refine W.h ?_; refine W.cond (.t rfl) (fun hc_t21 => ?_) (fun hc_t21 => ?_)
       ·skip
        refine W.k ?_; refine W.h ?_; refine W.cond (.t rfl) (fun hc_t21 => ?_) (fun hc_t21 => ?_)
        ·skip
         refine W.s (.r (.q (.fab (.t rfl) fa28_1) rfl (.q (.ldb1 0 (.t rfl) rfl ag9 rfl) rfl (.q (.eqs (.t rfl) .k) rfl (.asg rfl rfl (.n (.h ?_))))))); refine W.ret ?_; refine W.br (.hr ?_); refine W.retn (M' := []) (D := _) (rs := [.tmp 2]) (avs := [_]) Tryz.results49 ⟨rfl, trivial⟩ rfl (.refl _) ?_
         exact ⟨congrArg AV.bool (by ((unfold Sch.formB at h; simp_all; done))), rfl⟩
        ·skip
         refine W.k (.bn (.h (.s (.r (.q (.assign .k) rfl (.n (.h ?_))))))); refine W.ret ?_; refine W.retn (M' := []) (D := _) (rs := [.tmp 2]) (avs := [_]) Tryz.results49 ⟨rfl, trivial⟩ rfl (.refl _) ?_
         exact ⟨congrArg AV.bool (by (rfl)), rfl⟩
       ·skip
        refine W.s ?_; refine W.r ?_; refine W.q (.eqs (.t rfl) .k) rfl ?_; refine W.q (.assign (.t rfl)) rfl ?_; refine W.n ?_; refine W.h ?_; refine W.cond (.t rfl) (fun hc_t21 => ?_) (fun hc_t21 => ?_)
        ·skip
         refine W.k ?_; refine W.h ?_; refine W.cond (.t rfl) (fun hc_t21 => ?_) (fun hc_t21 => ?_)
         ·skip
          refine W.s (.r (.q (.fab (.t rfl) fa28_1) rfl (.q (.ldb1 0 (.t rfl) rfl ag9 rfl) rfl (.q (.eqs (.t rfl) .k) rfl (.asg rfl rfl (.n (.h ?_))))))); refine W.ret ?_; refine W.br (.hr ?_); refine W.retn (M' := []) (D := _) (rs := [.tmp 2]) (avs := [_]) Tryz.results49 ⟨rfl, trivial⟩ rfl (.refl _) ?_
          exact ⟨congrArg AV.bool (by ((unfold Sch.formB at h; simp_all; done))), rfl⟩
         ·skip
          refine W.k (.bn (.h (.s (.r (.q (.assign .k) rfl (.n (.h ?_))))))); refine W.ret ?_; refine W.retn (M' := []) (D := _) (rs := [.tmp 2]) (avs := [_]) Tryz.results49 ⟨rfl, trivial⟩ rfl (.refl _) ?_
          exact ⟨congrArg AV.bool (by (rfl)), rfl⟩
        ·skip
         refine W.r ?_; refine W.q (.eqs (.t rfl) .k) rfl ?_; refine W.q (.assign (.t rfl)) rfl ?_; refine W.n ?_; refine W.h ?_; refine W.cond (.t rfl) (fun hc_t21 => ?_) (fun hc_t21 => ?_)
         ·skip
          refine W.s (.r (.q (.fab (.t rfl) fa28_1) rfl (.q (.ldb1 0 (.t rfl) rfl ag9 rfl) rfl (.q (.eqs (.t rfl) .k) rfl (.asg rfl rfl (.n (.h ?_))))))); refine W.ret ?_; refine W.br (.hr ?_); refine W.retn (M' := []) (D := _) (rs := [.tmp 2]) (avs := [_]) Tryz.results49 ⟨rfl, trivial⟩ rfl (.refl _) ?_
          exact ⟨congrArg AV.bool (by ((unfold Sch.formB at h; simp_all; done))), rfl⟩
         ·skip
          refine W.k (.bn (.h (.s (.r (.q (.assign .k) rfl (.n (.h ?_))))))); refine W.ret ?_; refine W.retn (M' := []) (D := _) (rs := [.tmp 2]) (avs := [_]) Tryz.results49 ⟨rfl, trivial⟩ rfl (.refl _) ?_
          exact ⟨congrArg AV.bool (by (rfl)), rfl⟩
theorem c_attrs1 (s : List UInt8) (h : s.length ≤ 1000) : FnP Tryz.prog 87 [.str s] (.bool (!(nameOk s))) :=  by
 refine FnC.mk Tryz.func87 (by kernel_rfl) rfl Tryz.ntmps87 rfl (fun w0 F => ?_)
 refine W.s (.r (.q (.assign .k) rfl (.n (.h (.s (.r (.mv rfl rfl ?_))))))); refine W.callp (WName.c_Name s (by omega)) ⟨(.t rfl), trivial⟩ rfl ?_; refine W.q (.not (.t rfl)) rfl (.asg rfl rfl (.n (.h ?_))); refine W.ret ?_; refine W.retn (M' := []) (D := _) (rs := [.tmp 2]) (avs := [_]) Tryz.results87 ⟨rfl, trivial⟩ rfl (.refl _) ?_
 exact ⟨rfl, rfl⟩
theorem c_attrs (l : List (List UInt8)) (h : Sch.attrsB l = true) : FnP Tryz.prog 50 [.sl 1 (l.map AV.str)] (.int 0) :=  by
 refine FnC.mk Tryz.func50 (by kernel_rfl) rfl Tryz.ntmps50 rfl (fun w0 F => ?_)
 have hll : (l.map AV.str).length = l.length := List.length_map ..
 simp only [Sch.attrsB, Bool.and_eq_true, decide_eq_true_eq] at h
 obtain ⟨⟨hall, hlen⟩, hdup⟩ := h
 have hal := List.all_eq_true.1 hall
 have hany : (l.any fun s => !(nameOk s)) = false := by rw [List.any_eq_false]; intro s hs; have := hal s hs; simp only [Bool.and_eq_true] at this; rw [this.1]; decide
 refine W.s (.r (.q (.assign .k) rfl (.n (.h (.s (.s (.r (.mv rfl rfl ?_)))))))); refine W.call (WSLib.c_ContainsFuncS l 87 [] [] (fun s => !(nameOk s)) (fun s hs => c_attrs1 s (by have := hal s hs; simp only [Bool.and_eq_true, decide_eq_true_eq] at this; exact this.2)) (by omega)) ⟨(.t rfl), .f, trivial⟩ (.refl _) rfl ?_
 rintro _ _ ⟨rfl, rfl⟩
 refine W.n (.h ?_); refine W.isb 6 false rfl (by exact hany) ?_; refine W.condF (.t rfl) (.k (.h (.s (.s (.r (.mv rfl rfl (.q (.lensl (.t rfl) Tryz.underlying26) rfl (.q (.gti (.t rfl) .k) rfl (.n (.h ?_)))))))))); refine W.isb 9 false rfl (by exact decide_eq_false (by omega)) ?_; refine W.condF (.t rfl) (.k (.h (.s (.s (.r (.mv rfl rfl (.q (.lensl (.t rfl) Tryz.underlying26) rfl ?_)))))))
 refine W.q (.move .k) rfl ?_; refine W.n ?_; refine W.h ?_; refine W.b ?_; refine W.loop (D := []) (ι := Nat) (fun i => [(12, true, .int (i : Int)), (11, true, .int ((l.map AV.str).length : Int)), (10, true, .sl 1 (l.map AV.str)), (0, true, .sl 1 (l.map AV.str))]) (fun _ => []) (fun i => i ≤ l.length) (fun i => l.length - i) 0 ⟨rfl, rfl, rfl, rfl, trivial⟩ (.refl _) (Nat.zero_le _) ?_; intro i hi
 dsimp only at hi ⊢
 rcases (show i < l.length ∨ i = l.length from by omega) with hlt | hend
 ·have hga := getD_mapG AV.str [] l i hlt
  have h1 : ((l.take i).any fun s => l.getD i [] == s) = false := by simpa using List.all_eq_true.1 hdup i (List.mem_range.2 hlt)
  refine W.s (.r (.q (.lti (.t rfl) (.t rfl)) rfl (.n (.h (.s ?_))))); refine W.isb 13 true rfl (by exact decide_eq_true (by omega)) ?_; refine W.condT (.t rfl) (.k (.h (.s (.b (.s (.r (.mv rfl rfl ?_))))))); refine W.q (.at (E := 9) (.t rfl) (.t rfl) Tryz.underlying26 ty9 (fun _ => ⟨by omega, hga⟩) rfl rfl) rfl ?_; refine W.q (.lde1 (.t rfl) ag9) rfl (.asg rfl rfl (.asg rfl rfl (.n (.h (.s (.r (.mv rfl rfl (.mv rfl rfl ?_)))))))); refine W.q (.takesl (n := i) (.t rfl) Tryz.underlying26 ty9 (.t rfl) rfl (fun _ => by omega)) rfl ?_; refine W.mv rfl rfl ?_; refine W.callp (WSLib.c_Contains (l.take i) (l.getD i []) (by rw [List.length_take]; omega)) ⟨(.t rfl), (.t rfl), trivial⟩ rfl ?_; refine W.n (.h ?_); refine W.isb 21 false rfl (by exact h1) ?_; refine W.condF (.t rfl) (.k (.bn (.h (.r (.q (.add (.t rfl) .k (fun _ => by omega)) rfl ?_)))))
  refine W.q (.move (.t rfl)) rfl ?_; refine W.n ?_; refine W.h ?_; refine W.reach (D := _) (i + 1) ⟨rfl, rfl, rfl, rfl, trivial⟩ (.refl _) ⟨by show i + 1 ≤ _; omega, by show _ - (i + 1) < _; omega⟩
 ·skip
  refine W.s (.r (.q (.lti (.t rfl) (.t rfl)) rfl (.n (.h (.s ?_))))); refine W.isb 13 false rfl (by exact decide_eq_false (by omega)) ?_; refine W.condF (.t rfl) (.ex (.he (.he (.bh (.h (.s (.r (.q (.assign .k) rfl (.n (.h ?_)))))))))); refine W.ret ?_; refine W.retn (M' := []) (D := _) (rs := [.tmp 2]) (avs := [_]) Tryz.results50 ⟨rfl, trivial⟩ rfl (.refl _) ?_
  exact ⟨rfl, rfl⟩
theorem c_lastText (ts : List Tp) (h : ts.length ≤ 1099511627776) : FnP Tryz.prog 52 [.sl 3 (ts.map tpv)] (.int (Sch.lastT ts)) :=  by
 refine FnC.mk Tryz.func52 (by kernel_rfl) rfl Tryz.ntmps52 rfl (fun w0 F => ?_)
 have hnl : (ts.map tpv).length = ts.length := List.length_map ..
 refine W.s (.r (.q (.assign .k) rfl (.n (.h (.s (.r (.q (.assign .k) rfl (.n (.h (.s (.s (.r (.mv rfl rfl (.q (.lensl (.t rfl) Tryz.underlying23) rfl ?_))))))))))))))
 refine W.q (.move .k) rfl ?_; refine W.n ?_; refine W.h ?_; refine W.b ?_; refine W.loop (D := []) (ι := Nat) (fun i => [(8, true, .int (i : Int)), (7, true, .int ((ts.map tpv).length : Int)), (6, true, .sl 3 (ts.map tpv)), (3, true, .int (Sch.lastG ts i))]) (fun _ => []) (fun i => i ≤ ts.length) (fun i => ts.length - i) 0 ⟨rfl, rfl, rfl, rfl, trivial⟩ (.refl _) (Nat.zero_le _) ?_; intro i hi
 dsimp only at hi ⊢
 rcases (show i < ts.length ∨ i = ts.length from by omega) with hlt | hend
 ·have hga := getD_mapG tpv ⟨[], [], []⟩ ts i hlt
  refine W.s (.r (.q (.lti (.t rfl) (.t rfl)) rfl (.n (.h (.s ?_))))); refine W.isb 9 true rfl (by exact decide_eq_true (by omega)) ?_; refine W.condT (.t rfl) (.k (.h (.s (.b (.s (.r (.mv rfl rfl ?_))))))); refine W.q (.at (E := 28) (.t rfl) (.t rfl) Tryz.underlying23 ty28 (fun _ => ⟨by omega, hga⟩) rfl rfl) rfl ?_; refine W.q (.lden (.t rfl) ag28 ty28 rfl rfl) rfl ?_
  refine W.alloc ty28 rfl rfl ?_; intro b5; refine W.q (.assign (.t rfl)) rfl ?_
  refine W.stb 0 (.t rfl) (.t rfl) rfl ty28 rfl rfl rfl (.n (.h (.s (.r (.q (.fab (.t rfl) fa28_0) rfl (.q (.ldb1 0 (.t rfl) rfl ag9 rfl) rfl ?_))))))
  refine W.q (.eqs (.t rfl) .k) rfl ?_; refine W.n ?_; refine W.h ?_; refine W.cond (.t rfl) (fun hc_t15 => ?_) (fun hc_t15 => ?_)
  ·have hnx : Sch.lastG ts (i + 1) = (i : Int) := by rw [Sch.lastG_succ]; exact if_pos (eq_of_beq hc_t15)
   refine W.r (.mv rfl rfl (.asg rfl rfl (.n (.bn (.h (.r (.q (.add (.t rfl) .k (fun _ => by omega)) rfl ?_)))))))
   refine W.q (.move (.t rfl)) rfl ?_; refine W.n ?_; refine W.h ?_; refine W.is (t := 3) (av' := .int (Sch.lastG ts (i + 1))) rfl (congrArg AV.int hnx.symm) ?_; refine W.reach (D := [_]) (i + 1) ⟨rfl, rfl, rfl, rfl, trivial⟩ (.refl _) ⟨by show i + 1 ≤ _; omega, by show _ - (i + 1) < _; omega⟩
  ·have hnx : Sch.lastG ts (i + 1) = Sch.lastG ts i := by rw [Sch.lastG_succ]; exact if_neg (beq_eq_false_iff_ne.1 hc_t15)
   refine W.k (.bn (.h (.r (.q (.add (.t rfl) .k (fun _ => by omega)) rfl ?_))))
   refine W.q (.move (.t rfl)) rfl ?_; refine W.n ?_; refine W.h ?_; refine W.is (t := 3) (av' := .int (Sch.lastG ts (i + 1))) rfl (congrArg AV.int hnx.symm) ?_; refine W.reach (D := [_]) (i + 1) ⟨rfl, rfl, rfl, rfl, trivial⟩ (.refl _) ⟨by show i + 1 ≤ _; omega, by show _ - (i + 1) < _; omega⟩
 ·rw [hend]
  refine W.s (.r (.q (.lti (.t rfl) (.t rfl)) rfl (.n (.h (.s ?_))))); refine W.isb 9 false rfl (by exact decide_eq_false (by omega)) ?_; refine W.condF (.t rfl) (.ex (.he (.he (.bh (.h (.s (.r (.mv rfl rfl (.asg rfl rfl (.n (.h ?_))))))))))); refine W.ret ?_; refine W.retn (M' := []) (D := _) (rs := [.tmp 2]) (avs := [_]) Tryz.results52 ⟨rfl, trivial⟩ rfl (.refl _) ?_
  exact ⟨rfl, rfl⟩
theorem c_New1 (u t : Tp) (b : Nat) : FnC Tryz.prog 48 [tpv u, .lit (.pointer (some ⟨b, 0, none⟩))] [.box b 28 [.str t.name, .str t.content, .sl 1 (t.attrs.map AV.str)]] (fun x M => x = .bool (u.name == t.name) ∧ M = [.box b 28 [.str t.name, .str t.content, .sl 1 (t.attrs.map AV.str)]]) :=  by
 refine FnC.mk Tryz.func48 (by kernel_rfl) rfl Tryz.ntmps48 rfl (fun w0 F => ?_)
 refine W.s ?_; refine W.r ?_; refine W.box (.t rfl) rfl rfl ?_; intro b2; refine W.q (.assign .k) rfl ?_; refine W.n ?_; refine W.h ?_; refine W.s ?_; refine W.r ?_
 refine W.q (.fab (.t rfl) fa28_0) rfl (.q (.ldb1 0 (.t rfl) rfl ag9 rfl) rfl (.q (.fab (.t rfl) fa28_0) rfl (.q (.ldb1 1 (.t rfl) rfl ag9 rfl) rfl (.q (.eqs (.t rfl) (.t rfl)) rfl (.asg rfl rfl (.n (.h ?_))))))); refine W.ret ?_; refine W.retn (M' := [.box b 28 _]) (D := [_]) (rs := [.tmp 3]) (avs := [_]) Tryz.results48 ⟨rfl, trivial⟩ rfl (List.Perm.swap _ _ []) ?_
 exact ⟨rfl, rfl⟩
theorem c_New2 (n : Int) : FnP Tryz.prog 55 [.int n] (.bool (n == 0 || decide (150 < n))) :=  by
 refine FnC.mk Tryz.func55 (by kernel_rfl) rfl Tryz.ntmps55 rfl (fun w0 F => ?_)
 refine W.s (.r (.q (.assign .k) rfl (.n (.h (.s (.r (.mv rfl rfl (.q (.eqi (.t rfl) .k) rfl (.mv rfl rfl (.qgF rfl rfl (.move (.t rfl)) rfl (.qgF rfl rfl (.gti (.c rfl) .k) rfl ?_))))))))))); refine W.q (.or (.t rfl) ⟨_, _, rfl, rfl, by ((simp; done))⟩) rfl ?_; refine W.asg rfl rfl (.n (.h ?_)); refine W.ret ?_; refine W.retn (M' := []) (rs := [.tmp 2]) (avs := [_]) Tryz.results55 ⟨rfl, trivial⟩ rfl (.refl _) ?_
 exact ⟨rfl, rfl⟩
end WSPart
end Go.Proofs.YtphlkdbglpcikaaGreatDoor
end
section
namespace Go.Proofs.YtphlkdbglpcikaaGreatDoor
open Go.Vl
open Y
namespace WNew
theorem c_New (ts : List Tp) (as_ : List Au) (hg : Sch.Good ts as_) (fin : List Int) (hfin : Sch.sizesOf ts as_ = some fin) (hall : (fin.any fun n => n == 0 || decide (150 < n)) = false) (M0 : List ME) (hI : ∀ n : Int, -1 ≤ n → n < 100 → FnC Tryz.prog 107 [.int n] M0 (fun r M => r = .str (itoa n) ∧ M = M0)) : FnC Tryz.prog 30 [.sl 3 (ts.map tpv)] M0 (fun r M => ∃ b, r = .tup [.lit (.pointer (some ⟨b, 0, none⟩)), .int 0] ∧ M = .box b 76 [.sl 3 (ts.map tpv), .sl 2 (as_.map Au.avx), .sl 1 (fin.map AV.int)] :: M0) :=  by
 refine FnC.mk Tryz.func30 (by kernel_rfl) rfl Tryz.ntmps30 rfl (fun w0 F => ?_)
 have hnl : (ts.map tpv).length = ts.length := List.length_map ..
 have hlen := hg.len
 have hpos := hg.pos
 have hfl : fin.length ≤ 8 := by
  have := Sch.mso_len 10 _ _ hfin
  rw [List.length_replicate] at this; omega
 refine W.s (.r (.q (.assign .k) rfl (.q (.assign .k) rfl (.n (.h (.s (.s (.r (.mv rfl rfl (.q (.lensl (.t rfl) Tryz.underlying23) rfl (.q (.lti (.t rfl) .k) rfl (.mv rfl rfl (.qgF rfl rfl (.move (.t rfl)) rfl (.qgF rfl rfl (.lensl (.c rfl) Tryz.underlying23) rfl ?_))))))))))))))
 refine W.qgF rfl rfl (.gti (.c rfl) .k) rfl ?_; refine W.q (.or (.t rfl) ⟨_, _, rfl, rfl, by ((simp; done))⟩) rfl ?_; refine W.n ?_; refine W.h ?_; refine W.isb 17 false rfl (by simp; omega) ?_; refine W.condF (.t rfl) ?_; refine W.k ?_; refine W.h ?_; refine W.s ?_; refine W.r ?_; refine W.q (.move (.t rfl)) rfl ?_; refine W.q (.build ty76 st76 rfl (fun hg => ⟨_, _, _, rfl, (.t rfl), rfl, rfl, rfl, rfl⟩)) rfl ?_; refine W.box (.t rfl) rfl rfl ?_; intro b20; refine W.q (.assign (.t rfl)) rfl ?_; refine W.n ?_; refine W.h ?_; refine W.s ?_; refine W.s ?_; refine W.r ?_; refine W.q (.move (.t rfl)) rfl ?_
 refine W.q (.lensl (.t rfl) Tryz.underlying23) rfl (.q (.move .k) rfl (.n (.h (.b ?_)))); refine W.own_nil 62 2 ?_; refine W.loop (D := []) (ι := Nat × Value) (fun z => [(23, true, .int (z.1 : Int)), (22, true, .int ((ts.map tpv).length : Int)), (21, true, .sl 3 (ts.map tpv)), (0, true, .sl 3 (ts.map tpv)), (4, true, .lit (.pointer (some ⟨b20, 0, none⟩)))]) (fun z => .arr z.2 62 2 ((as_.take z.1).map Au.avx) :: .box b20 76 [.sl 3 (ts.map tpv), .lit z.2, .lit (.slice none 0 0)] :: M0) (fun z => z.1 ≤ ts.length) (fun z => ts.length - z.1) (0, .slice none 0 0) ⟨rfl, rfl, rfl, rfl, rfl, trivial⟩ (by rw [List.append_nil]; exact .refl _) (Nat.zero_le _) ?_
 rintro ⟨i, va⟩ hi
 dsimp only at hi ⊢
 rcases (show i < ts.length ∨ i = ts.length from by omega) with hlt | hend
 ·have hgt := getD_mapG tpv Sch.dT ts i hlt
  have hname := hg.name i hlt
  have hone := hg.one i hlt
  have hform := hg.form i hlt
  have hattr := hg.attrs i hlt
  obtain ⟨k, hk, htc, hAk, hfi⟩ := hg.mach i hlt
  have kw := Sch.known k hk
  have htk := take_getDG Sch.dA as_ i (by have := hg.has; omega)
  rw [hAk] at htk
  generalize ts.getD i Sch.dT = t at hgt hname hone hform hattr htc
  obtain ⟨A, hA⟩ : ∃ A, Sch.auk k = A := ⟨_, rfl⟩
  have kw1 := kw.ord
  have hM := WMach.c_machine (Sch.itk k) [] kw.oks trivial t.content (by rw [htc]; exact (List.append_nil _).symm) (by rw [htc]; exact kw.len) (by have := kw.lv; simp only [It.anl]; omega) (Sch.auk k) kw.ord kw.acc kw.n32 ts.length hg.len (Sch.lastT ts) (by have := Sch.lastG_rng ts ts.length; have := hg.len; unfold Sch.lastT; omega) hfi M0 hI
  rw [hA] at htk hM
  rw [show ((ts.length : Nat) : Int) = ((ts.map tpv).length : Int) from by rw [hnl]] at hM
  refine W.s (.r (.q (.lti (.t rfl) (.t rfl)) rfl (.n (.h (.s ?_))))); refine W.isb 24 true rfl (by exact decide_eq_true (by omega)) ?_; refine W.condT (.t rfl) (.k (.h (.s (.b (.s (.r (.mv rfl rfl ?_))))))); refine W.q (.at (E := 28) (.t rfl) (.t rfl) Tryz.underlying23 ty28 (fun _ => ⟨by omega, hgt⟩) rfl rfl) rfl ?_; refine W.q (.lden (.t rfl) ag28 ty28 rfl rfl) rfl ?_
  refine W.alloc ty28 rfl rfl ?_; intro b6; refine W.q (.assign (.t rfl)) rfl ?_
  refine W.stb 0 (.t rfl) (.t rfl) rfl ty28 rfl rfl rfl (.n (.h (.s (.b (.s (.r (.q (.fab (.t rfl) fa28_0) rfl (.q (.ldb1 0 (.t rfl) rfl ag9 rfl) rfl (.q (.nes (.t rfl) .k) rfl (.mv rfl rfl (.qgT rfl rfl (.fab (.t rfl) fa28_0) rfl (.qgT rfl rfl (.ldb1 0 (.c rfl) rfl ag9 rfl) rfl ?_)))))))))))); refine W.callgT (Min := []) (caps := []) (avs := [_]) rfl rfl (fun hg => WName.c_Name t.name (by omega)) (fun hg => .f) (fun hg => ⟨(.i rfl (fun _ => hg)), trivial⟩) rfl (.refl _) rfl ?_; refine W.qgT rfl rfl (.not (.c rfl)) rfl ?_; refine W.q (.and (.t rfl) ⟨_, _, rfl, rfl, by ((simp; done))⟩) rfl ?_; refine W.asg rfl rfl (.n (.h ?_)); refine W.isb 28 false rfl (by rcases hname.2 with h | h; simp [h]; simp [h]) ?_; refine W.condF (.t rfl) (.s (.r (.mv rfl rfl (.mv rfl rfl ?_)))); refine W.q (.takesl (n := i) (.t rfl) Tryz.underlying23 ty28 (.t rfl) rfl (fun _ => by omega)) rfl ?_; refine W.q (.mkfn (caps := [.tmp 6]) (vs := [_]) ⟨(.t rfl), trivial⟩) rfl ?_; refine W.call (WSLib.c_ContainsFuncY (ts.take i) 48 [.pointer (some ⟨b6, 0, none⟩)] [.box b6 28 [.str t.name, .str t.content, .sl 1 (t.attrs.map AV.str)]] (fun u => u.name == t.name) (fun u _ => WSPart.c_New1 u t b6) (by rw [List.length_take]; omega)) ⟨(.t rfl), (.t rfl), trivial⟩ (.refl _) rfl ?_
  rintro _ _ ⟨rfl, rfl⟩
  refine W.asg rfl rfl (.n (.h ?_)); refine W.isb 38 false rfl (by exact hone) ?_; refine W.condF (.t rfl) (.s (.r (.q (.ldbn 0 (.t rfl) rfl ag28 ty28 rfl) rfl ?_))); refine W.callp (WSPart.c_form t hform) ⟨(.t rfl), trivial⟩ rfl ?_; refine W.q (.not (.t rfl)) rfl (.asg rfl rfl (.n (.h (.isb 44 false rfl (by rfl) (.condF (.t rfl) (.k (.bn (.h (.s (.s (.r (.q (.fab (.t rfl) fa28_2) rfl (.q (.ldb1 0 (.t rfl) rfl ag26 rfl) rfl ?_))))))))))))); refine W.callp (WSPart.c_attrs t.attrs hattr) ⟨(.t rfl), trivial⟩ rfl ?_; refine W.asg rfl rfl (.n (.h (.s (.r (.mv rfl rfl (.q (.nei (.t rfl) .k) rfl (.n (.h (.isb 52 false rfl (by rfl) (.condF (.t rfl) (.k (.h (.s ?_))))))))))))); refine W.drawnM (fun ee c_ => [.box b6 28 [.str t.name, .str t.content, .sl 1 (t.attrs.map AV.str)], .arr va 62 2 ((as_.take i).map Au.avx), .box b20 76 [.sl 3 (ts.map tpv), .lit va, .lit (.slice none 0 0)]] ++ ((bif ee 10 then [ME.box (c_ 10).1 62 (bif ee 11 then [.sl 1 (A.next.map pav), .sl 1 (A.final.map AV.bool)] else [.lit (.slice none 0 0), .lit (.slice none 0 0)])] else []) ++ M0)) (c0 := ks0) (by kernel_rfl) (by kernel_rfl) rfl ?_
  have hPm : ∀ (e : Nat → Bool) (c_ : Ks), ∃ Mr, List.Perm ((fun ee c_ => [.box b6 28 [.str t.name, .str t.content, .sl 1 (t.attrs.map AV.str)], .arr va 62 2 ((as_.take i).map Au.avx), .box b20 76 [.sl 3 (ts.map tpv), .lit va, .lit (.slice none 0 0)]] ++ ((bif ee 10 then [ME.box (c_ 10).1 62 (bif ee 11 then [.sl 1 (A.next.map pav), .sl 1 (A.final.map AV.bool)] else [.lit (.slice none 0 0), .lit (.slice none 0 0)])] else []) ++ M0)) e c_) (M0 ++ Mr) := fun e c_ => by
   dsimp only
   rw [← List.append_assoc]
   exact ⟨_, List.perm_append_comm⟩
  refine DM.q (fun e c hk => (.fab (.t rfl) fa28_1)) rfl (fun _ _ => rfl) (fun _ _ _ => rfl) (.q (fun e c hk => (.ldb1 0 (.t rfl) rfl ag9 rfl)) rfl (fun _ _ => rfl) (fun _ _ _ => rfl) (.q (fun e c hk => (.move (.t rfl))) rfl (fun _ _ => rfl) (fun _ _ _ => rfl) (.q (fun e c hk => (.lensl (.t rfl) Tryz.underlying23)) rfl (fun _ _ => rfl) (fun _ _ _ => rfl) ?_)))
  refine DM.q (fun e c hk => (.move (.t rfl))) rfl (fun _ _ => rfl) (fun _ _ _ => rfl) ?_; refine DM.callp (fun c => WSPart.c_lastText ts (by omega)) (fun c => ⟨(.t rfl), trivial⟩) rfl (fun _ _ => rfl) (fun _ _ _ => rfl) ?_; refine DM.callm (fun c => hM) (fun e c => hPm e c) (fun c => ⟨(.t rfl), (.t rfl), (.t rfl), trivial⟩) rfl (fun _ _ => rfl) (fun _ _ _ => rfl) ?_; refine DM.q (fun e c hk => (.move (.t rfl))) rfl (fun _ _ => rfl) (fun _ _ _ => rfl) ?_; refine DM.q (fun e c hk => (.extract (.t rfl) rfl)) rfl (fun _ _ => rfl) (fun _ _ _ => rfl) ?_; refine DM.q (fun e c hk => (.extract (.t rfl) rfl)) rfl (fun _ _ => rfl) (fun _ _ _ => rfl) ?_; refine DM.eff1 (av := fun c => .lit (.pointer (some ⟨(c 10).1, 0, none⟩))) rfl (fun c c_ h => by (simp only [h 10 (by (exact .inl rfl))])) (fun e c hk L_ hs Q h => ?_) ?_
  ·have hk_10 := hk.not
   have hk_11 := hk.down 11 (by kernel_rfl)
   simp only [addE, upd, eq_self, List.nil_append, List.cons_append, List.append_nil, hk_10, hk_11, Nat.reduceAdd, Nat.reduceEqDiff, ↓reduceIte, cond_true, cond_false] at h ⊢
   exact W.alloc ty62 rfl rfl (fun b => h (b, undef) _ (by (exact (List.perm_middle (l₁ := [_, _, _])).symm)))
  refine DM.eff0 (fun e c hk L_ hs Q h => ?_) ?_
  ·have hk_11 := hk.not
   have hk_10 := hk.up 10 (by kernel_rfl)
   simp only [addE, upd, eq_self, List.nil_append, List.cons_append, List.append_nil, hk_11, hk_10, Nat.reduceAdd, Nat.reduceEqDiff, ↓reduceIte, cond_true, cond_false] at h ⊢
   ((refine W.stb 3 (.t (hs _ _ rfl)) (.t (hs _ _ rfl)) rfl ty62 rfl rfl rfl ?_; exact h))
  refine DM.q (fun e c hk => (.assign (.t rfl))) rfl (fun _ _ => rfl) (fun _ _ _ => rfl) ?_; refine DM.nil (fun cc e_ he_ => ?_)
  simp only [he_ 10 (by decide), he_ 11 (by decide), cond_true, cond_false]
  generalize (cc 10).1 = b8
  refine W.perm (M' := .arr va 62 2 ((as_.take i).map Au.avx) :: .box b20 76 [.sl 3 (ts.map tpv), .lit va, .lit (.slice none 0 0)] :: .box b8 62 [.sl 1 (A.next.map pav), .sl 1 (A.final.map AV.bool)] :: .box b6 28 [.str t.name, .str t.content, .sl 1 (t.attrs.map AV.str)] :: M0) ?_ ?_
  ·exact (List.perm_middle (l₁ := [_])).trans (List.Perm.cons _ ((List.perm_middle (l₁ := [_])).trans (List.Perm.cons _ (List.perm_middle (l₁ := [_])))))
  refine W.h (.s (.s (.r (.mv rfl rfl (.q (.nei (.t rfl) .k) rfl (.n (.h (.isb 65 false rfl (by rfl) (.condF (.t rfl) (.k (.h ?_))))))))))); refine W.drawnE (ι := Value) (fun ee c => (bif ee 7 then ME.arr c 62 2 (((as_.take i).map Au.avx) ++ [A.avx]) else ME.arr va 62 2 ((as_.take i).map Au.avx)) :: ME.box b20 76 [.sl 3 (ts.map tpv), bif ee 10 then .lit c else .lit va, .lit (.slice none 0 0)] :: .box b8 62 [.sl 1 (A.next.map pav), .sl 1 (A.final.map AV.bool)] :: .box b6 28 [.str t.name, .str t.content, .sl 1 (t.attrs.map AV.str)] :: M0) 7 va (by kernel_rfl) (by kernel_rfl) rfl ?_; refine DE.q (fun e c hk => (.move (.t rfl))) rfl (fun _ _ => rfl) (.inr fun _ _ => rfl) (.q (fun e c hk => (.move (.t rfl))) rfl (fun _ _ => rfl) (.inr fun _ _ => rfl) (.q (fun e c hk => (.nilc (.t rfl))) rfl (fun _ _ => rfl) (.inr fun _ _ => rfl) (.q (fun e c hk => (.fab (.t rfl) fa76_1)) rfl (fun _ _ => rfl) (.inr fun _ _ => rfl) ?_))); refine DE.q (av := fun _ => .lit va) (fun e c hk => by have h := hk.down 10 (by kernel_rfl); simp only [h, cond_false]; exact Ev.ldb1 1 (.t rfl) rfl ag74 rfl) rfl (fun _ _ => rfl) (.inr fun _ _ => rfl) ?_; refine DE.q (fun e c hk => (.ldbn 2 (.t rfl) rfl ag62 ty62 rfl)) rfl (fun _ _ => rfl) (.inr fun _ _ => rfl) ?_
  refine DE.bs (es := fun _ => [_]) Tryz.underlying74 ty62 (fun c => ⟨rfl, (.t rfl), rfl, rfl, trivial⟩) (fun _ => rfl) (by decide) rfl rfl (fun _ _ => rfl) (.inr fun _ _ => rfl) ?_; refine DE.eff1 (av := fun v => .lit v) rfl rfl (fun e c hk L_ hs Q h => ?_) ?_
  ·have hk_7 := hk.not
   have hk_10 := hk.down 10 (by kernel_rfl)
   simp only [addE, hk_7, hk_10, Nat.reduceAdd, Nat.reduceEqDiff, ↓reduceIte, cond_true, cond_false] at h ⊢
   ((refine W.app 0 (.t (hs _ _ rfl)) rfl (.sl (.t (hs _ _ rfl)) (by intro e he; rw [List.mem_singleton.1 he]; rfl)) Tryz.underlying74 ni74 ty62 rfl rfl (by rw [List.length_map, List.length_take]; simp only [List.length_cons, List.length_nil]; omega) rfl ?_; exact h))
  refine DE.q (fun e c hk => (.nilc (.t rfl))) rfl (fun _ _ => rfl) (.inr fun _ _ => rfl) (.q (fun e c hk => (.fab (.t rfl) fa76_1)) rfl (fun _ _ => rfl) (.inr fun _ _ => rfl) ?_)
  refine DE.eff0 (fun e c hk L_ hs Q h => ?_) ?_
  ·have hk_10 := hk.not
   have hk_7 := hk.up 7 (by kernel_rfl)
   simp only [addE, hk_10, hk_7, Nat.reduceAdd, Nat.reduceEqDiff, ↓reduceIte, cond_true, cond_false] at h ⊢
   refine W.arr_inv 0 rfl (fun a9 n9 c9 h9 => ?_)
   subst h9
   refine W.stb 1 (.t (hs _ _ rfl)) (.t (hs _ _ rfl)) rfl ty74 rfl rfl rfl ?_
   exact h
  refine DE.nil (fun v74 e_ he_ => ?_)
  simp only [he_ 7 (by decide), he_ 10 (by decide), cond_true, cond_false]
  refine W.bn (.h (.r (.q (.add (.t rfl) .k (fun _ => by omega)) rfl ?_)))
  refine W.q (.move (.t rfl)) rfl ?_; refine W.n ?_; refine W.h ?_; refine W.reach (D := [.box b8 62 [.sl 1 (A.next.map pav), .sl 1 (A.final.map AV.bool)], .box b6 28 [.str t.name, .str t.content, .sl 1 (t.attrs.map AV.str)]]) (i + 1, v74) ⟨rfl, rfl, rfl, rfl, rfl, trivial⟩ ?_ ⟨hlt, by show ts.length - (i + 1) < ts.length - i; omega⟩
  dsimp only
  rw [htk, List.map_append]
  exact List.Perm.cons _ (List.Perm.cons _ (List.perm_append_comm (l₁ := [_, _])))
 ·subst hend
  rw [List.take_of_length_le (by have := hg.has; omega)]
  refine W.s (.r (.q (.lti (.t rfl) (.t rfl)) rfl (.n (.h (.s ?_))))); refine W.isb 24 false rfl (by exact decide_eq_false (by omega)) ?_; refine W.condF (.t rfl) (.ex (.he (.he (.bh (.h (.s (.r ?_))))))); refine W.freezeA (M1 := .box b20 76 [.sl 3 (ts.map tpv), .lit va, .lit (.slice none 0 0)] :: M0) (M2 := .box b20 76 [.sl 3 (ts.map tpv), .sl 2 (as_.map Au.avx), .lit (.slice none 0 0)] :: M0) (D := []) (v := va) (L' := []) (by ((rw [List.append_nil]; done))) trivial ⟨.box ⟨.refl _, .hit, .refl _, trivial⟩, FrzMs.refl _⟩ ?_; refine W.mv rfl rfl ?_; refine W.call (WMeas.c_measure b20 ts as_ hg.has hg.sh (by omega) fin hfin) ⟨(.t rfl), trivial⟩ (.refl _) rfl ?_
  rintro _ _ ⟨rfl, vs, rfl⟩
  refine W.freezeA (M1 := .box b20 76 [.sl 3 (ts.map tpv), .sl 2 (as_.map Au.avx), .lit vs] :: M0) (M2 := .box b20 76 [.sl 3 (ts.map tpv), .sl 2 (as_.map Au.avx), .sl 1 (fin.map AV.int)] :: M0) (D := []) (v := vs) (L' := []) (by rw [List.append_nil]; exact List.Perm.swap _ _ _) trivial ⟨.box ⟨.refl _, .refl _, .hit, trivial⟩, FrzMs.refl _⟩ ?_; refine W.n (.h (.s (.s (.r (.mv rfl rfl (.q (.nilc (.t rfl)) rfl (.q (.fab (.t rfl) fa76_2) rfl (.q (.ldb1 0 (.t rfl) rfl ag22 rfl) rfl ?_)))))))); refine W.call (WConts.c_ContainsFuncI fin 55 [] [] (fun n => n == 0 || decide (150 < n)) (fun n _ => WSPart.c_New2 n) (by omega)) ⟨(.t rfl), .f, trivial⟩ (.refl _) rfl ?_
  rintro _ _ ⟨rfl, rfl⟩
  refine W.n (.h ?_); refine W.isb 84 false rfl (by exact hall) ?_; refine W.condF (.t rfl) (.k (.h (.s (.r (.mv rfl rfl (.asg rfl rfl (.q (.assign .k) rfl (.n (.h ?_))))))))); refine W.ret ?_; refine W.retn (M' := (.box b20 76 [.sl 3 (ts.map tpv), .sl 2 (as_.map Au.avx), .sl 1 (fin.map AV.int)] :: M0)) (D := []) (rs := [.tmp 2, .tmp 3]) (avs := [_, _]) Tryz.results30 ⟨rfl, rfl, trivial⟩ rfl (by rw [List.append_nil]; exact .refl _) ?_
  exact ⟨b20, rfl, rfl⟩
end WNew
end Go.Proofs.YtphlkdbglpcikaaGreatDoor
end
section
namespace Go.Proofs.YtphlkdbglpcikaaGreatDoor
open Go.Vl
open Y
namespace WFit
theorem c_fault1 (ts : List Tp) (k : Int) (b3 : Nat) : FnC Tryz.prog 57 [.int k, .lit (.pointer (some ⟨b3, 0, none⟩))] [.box b3 23 [.sl 3 (ts.map tpv)]] (fun r M => r = .bool (decide (k < 0) || decide ((ts.length : Int) ≤ k)) ∧ M = [.box b3 23 [.sl 3 (ts.map tpv)]]) :=  by
 refine FnC.mk Tryz.func57 (by kernel_rfl) rfl Tryz.ntmps57 rfl (fun w0 F => ?_)
 refine W.s (.r (.q (.assign .k) rfl (.n (.h (.s (.r (.mv rfl rfl (.q (.lti (.t rfl) .k) rfl (.mv rfl rfl (.qgF rfl rfl (.move (.t rfl)) rfl (.qgF rfl rfl (.ldb1 0 (.t rfl) rfl ag23 rfl) rfl (.qgF rfl rfl (.lensl (.c rfl) Tryz.underlying23) rfl (.qgF rfl rfl (.gei (.c rfl) (.c rfl)) rfl ?_))))))))))))); refine W.q (.or (.t rfl) ⟨_, _, rfl, rfl, by ((simp; done))⟩) rfl ?_; refine W.asg rfl rfl (.n (.h ?_)); refine W.ret ?_; refine W.retn (M' := [.box b3 23 [.sl 3 (ts.map tpv)]]) (D := []) (rs := [.tmp 3]) (avs := [_]) Tryz.results57 ⟨rfl, trivial⟩ rfl (.refl _) ?_
 exact ⟨congrArg AV.bool (by rw [List.length_map]), rfl⟩
theorem c_fault (ts : List Tp) (as_ : List Au) (hg : Sch.Good ts as_) (fin : List Int) (hfin : Sch.sizesOf ts as_ = some fin) (hall : (fin.any fun n => n == 0 || decide (150 < n)) = false) (M0 : List ME) (hI : ∀ n : Int, -1 ≤ n → n < 100 → FnC Tryz.prog 107 [.int n] M0 (fun r M => r = .str (itoa n) ∧ M = M0)) (t : Nat) (ht : t < ts.length) (hnm : (ts.getD t Sch.dT).name ≠ []) (ks : List Nat) (hks : ks.length ≤ 40) (hkt : ∀ k ∈ ks, k < ts.length) : FnC Tryz.prog 32 [.sl 3 (ts.map tpv), .int (t : Int), .sl 1 (ks.map fun k : Nat => AV.int (k : Int))] M0 (fun r M => ∃ b, r = .tup [.lit (.pointer (some ⟨b, 0, none⟩)), .int 0] ∧ M = .box b 76 [.sl 3 (ts.map tpv), .sl 2 (as_.map Au.avx), .sl 1 (fin.map AV.int)] :: M0) :=  by
 refine FnC.mk Tryz.func32 (by kernel_rfl) rfl Tryz.ntmps32 rfl (fun w0 F => ?_)
 have hnl : (ts.map tpv).length = ts.length := List.length_map ..
 have hlen7 : (ks.map fun k : Nat => AV.int (k : Int)).length = ks.length := List.length_map ..
 have hgt := getD_mapG tpv Sch.dT ts t ht
 have hne : ((ts.getD t Sch.dT).name == []) = false := beq_eq_false_iff_ne.2 hnm
 have hany : ((ks.map fun k : Nat => (k : Int)).any fun k => decide (k < 0) || decide ((ts.length : Int) ≤ k)) = false := by
  rw [List.any_eq_false]
  intro k hk
  obtain ⟨q, hq, rfl⟩ := List.mem_map.1 hk
  have := hkt q hq
  simp; omega
 refine W.s ?_; refine W.r ?_; refine W.box (.t rfl) rfl rfl ?_; intro b3; refine W.q (.assign .k) rfl ?_; refine W.q (.assign .k) rfl ?_; refine W.n ?_; refine W.h ?_; refine W.s ?_; refine W.r ?_
 refine W.q (.ldb1 0 (.t rfl) rfl ag23 rfl) rfl ?_; refine W.call (WNew.c_New ts as_ hg fin hfin hall M0 hI) ⟨(.t rfl), trivial⟩ ((List.perm_append_comm (l₁ := [_]))) rfl ?_
 rintro _ M' ⟨b9, rfl, hM'⟩
 rw [hM']
 refine W.perm (M' := .box b3 23 [.sl 3 (ts.map tpv)] :: .box b9 76 [.sl 3 (ts.map tpv), .sl 2 (as_.map Au.avx), .sl 1 (fin.map AV.int)] :: M0) (List.perm_append_comm (l₂ := [_])) ?_; refine W.mv rfl rfl (.q (.extract (.t rfl) rfl) rfl (.q (.extract (.t rfl) rfl) rfl (.asg rfl rfl (.asg rfl rfl (.n (.h (.s (.b (.s (.r (.mv rfl rfl (.q (.nei (.t rfl) .k) rfl (.asg rfl rfl (.n (.h (.isb 15 false rfl (by rfl) (.condF (.t rfl) (.s (.r (.mv rfl rfl (.q (.lensl (.t rfl) Tryz.underlying22) rfl (.q (.gti (.t rfl) .k) rfl (.asg rfl rfl ?_))))))))))))))))))))))); refine W.n (.h ?_); refine W.isb 19 false rfl (by exact decide_eq_false (by omega)) ?_; refine W.condF (.t rfl) (.s (.r (.mv rfl rfl (.q (.lti (.t rfl) .k) rfl (.mv rfl rfl (.qgF rfl rfl (.move (.t rfl)) rfl (.qgF rfl rfl (.ldb1 0 (.t rfl) rfl ag23 rfl) rfl (.qgF rfl rfl (.lensl (.c rfl) Tryz.underlying23) rfl (.qgF rfl rfl (.gei (.c rfl) (.c rfl)) rfl ?_))))))))); refine W.q (.or (.t rfl) ⟨_, _, rfl, rfl, by ((simp; done))⟩) rfl ?_; refine W.mv rfl rfl (.qgF rfl rfl (.ldb1 0 (.t rfl) rfl ag23 rfl) rfl (.qgF rfl rfl (.move (.t rfl)) rfl ?_)); refine W.qgF rfl rfl (.at (E := 28) (.c rfl) (.c rfl) Tryz.underlying23 ty28 (fun hg => ⟨by omega, hgt⟩) rfl rfl) rfl ?_; refine W.qgF rfl rfl (.fae (.c rfl) fa28_0 rfl) rfl (.qgF rfl rfl (.lde1 (.c rfl) ag9) rfl (.qgF rfl rfl (.eqs (.c rfl) .k) rfl ?_)); refine W.q (.or (.t rfl) ⟨_, _, rfl, rfl, by ((simp; done))⟩) rfl ?_; refine W.asg rfl rfl (.n (.h ?_)); refine W.isb 23 false rfl (by rw [hne]; simp; omega) ?_; refine W.condF (.t rfl) (.s (.r (.mv rfl rfl ?_))); refine W.is (t := 41) (av' := .sl 1 ((ks.map fun k : Nat => (k : Int)).map AV.int)) rfl (congrArg (AV.sl 1) (by rw [List.map_map]; rfl)) ?_; refine W.q (.mkfn (caps := [.tmp 3]) (vs := [_]) ⟨(.t rfl), trivial⟩) rfl ?_; refine W.call (WConts.c_ContainsFuncI (ks.map fun k : Nat => (k : Int)) 57 [.pointer (some ⟨b3, 0, none⟩)] [.box b3 23 [.sl 3 (ts.map tpv)]] (fun k => decide (k < 0) || decide ((ts.length : Int) ≤ k)) (fun k _ => c_fault1 ts k b3) (by rw [List.length_map]; omega)) ⟨(.t rfl), (.t rfl), trivial⟩ (.refl _) rfl ?_
 rintro _ _ ⟨rfl, rfl⟩
 refine W.asg rfl rfl (.n (.h ?_)); refine W.isb 40 false rfl (by exact hany) ?_; refine W.condF (.t rfl) (.k (.bn (.h (.s (.r (.mv rfl rfl (.asg rfl rfl (.q (.assign .k) rfl (.n (.h ?_)))))))))); refine W.ret ?_; refine W.retn (M' := (.box b9 76 [.sl 3 (ts.map tpv), .sl 2 (as_.map Au.avx), .sl 1 (fin.map AV.int)] :: M0)) (D := [_]) (rs := [.tmp 6, .tmp 7]) (avs := [_, _]) Tryz.results32 ⟨rfl, rfl, trivial⟩ rfl (List.perm_append_comm (l₁ := [_])) ?_
 exact ⟨b9, rfl, rfl⟩
theorem c_Cost (ts : List Tp) (as_ : List Au) (hg : Sch.Good ts as_) (fin : List Int) (hfin : Sch.sizesOf ts as_ = some fin) (hall : (fin.any fun n => n == 0 || decide (150 < n)) = false) (hpos : ∀ n ∈ fin, 1 ≤ n ∧ n ≤ 150) (M0 : List ME) (hI : ∀ n : Int, -1 ≤ n → n < 100 → FnC Tryz.prog 107 [.int n] M0 (fun r M => r = .str (itoa n) ∧ M = M0)) (t : Nat) (ht : t < ts.length) (hnm : (ts.getD t Sch.dT).name ≠ []) (ks : List Nat) (hks : ks.length ≤ 40) (hkt : ∀ k ∈ ks, k < ts.length) : FnC Tryz.prog 19 [.sl 3 (ts.map tpv), .int (t : Int), .sl 1 (ks.map fun k : Nat => AV.int (k : Int))] M0 (fun r M => (∃ rows, Fit.Opt (as_.getD t Sch.dA) fin ks rows ∧ r = .tup [.int (Fit.cel rows 0 0).d, .int (Fit.cel rows 0 0).f, .int 0]) ∧ M = M0) :=  by
 refine FnC.mk Tryz.func19 (by kernel_rfl) rfl Tryz.ntmps19 rfl (fun w0 F => ?_)
 have hlen8 := hg.len
 have hsl : fin.length = ts.length := by
  have := Sch.mso_len 10 _ _ hfin
  rwa [List.length_replicate] at this
 have gf := Fit.gf_of hg hsl hpos ht
 have hk8 : ∀ k ∈ ks, k < 8 := fun k hk => by have := hkt k hk; omega
 have hF := c_fault ts as_ hg fin hfin hall M0 hI t ht hnm ks hks hkt
 refine W.s (.r (.q (.assign .k) rfl (.q (.assign .k) rfl (.q (.assign .k) rfl (.n (.h (.s (.r (.mv rfl rfl (.mv rfl rfl (.mv rfl rfl ?_))))))))))); refine W.call (hF) ⟨(.t rfl), (.t rfl), (.t rfl), trivial⟩ ((by ((rw [List.append_nil]; done)))) rfl ?_
 rintro _ M' ⟨b, rfl, hM'⟩
 rw [hM', List.append_nil]
 refine W.mv rfl rfl (.q (.extract (.t rfl) rfl) rfl (.q (.extract (.t rfl) rfl) rfl (.asg rfl rfl (.asg rfl rfl (.n (.h (.s (.s (.r (.mv rfl rfl (.q (.nei (.t rfl) .k) rfl (.n (.h (.isb 19 false rfl (by rfl) (.condF (.t rfl) (.k (.h (.s (.r (.mv rfl rfl (.mv rfl rfl (.mv rfl rfl ?_)))))))))))))))))))))); refine W.call (WFPlan.c_plan b ts as_ fin (as_.getD t Sch.dA) gf.sh gf.n32 gf.sz gf.col t gf.at_ ks (by omega) hk8) ⟨(.t rfl), (.t rfl), (.t rfl), trivial⟩ (.refl _) rfl ?_
 rintro _ _ ⟨p, rows, ho, rfl, rfl⟩
 have hrl := ho.len
 have hg0 := getD_mapG Fit.rowv [] rows 0 (by omega)
 have hr0 := ho.row 0 (Nat.zero_le _)
 have hps := gf.sh.pos
 have hg1 : ((rows.getD 0 []).map Fit.ctv)[0]? = some (Fit.ctv (Fit.cel rows 0 0)) := Fit.getD_ctv _ 0 (by omega)
 have hrl0 : (rows.map Fit.rowv).length = rows.length := List.length_map ..
 have hr1 : ((rows.getD 0 []).map Fit.ctv).length = (rows.getD 0 []).length := List.length_map ..
 refine W.q (.nilc (.t rfl)) rfl (.q (.fab (.t rfl) fa86_3) rfl (.q (.ldb1 0 (.t rfl) rfl ag84 rfl) rfl ?_)); refine W.q (.at (E := 83) (.t rfl) .k Tryz.underlying84 ty83 (fun hg => ⟨by omega, hg0⟩) rfl rfl) rfl ?_; refine W.q (.lde1 (.t rfl) ag83) rfl ?_; refine W.q (.at (E := 82) (.t rfl) .k Tryz.underlying83 ty82 (fun hg => ⟨by omega, hg1⟩) rfl rfl) rfl ?_; refine W.q (.lden (.t rfl) ag82 ty82 rfl rfl) rfl ?_
 refine W.alloc ty82 rfl rfl ?_; intro b10
 refine W.stb 0 (.t rfl) (.t rfl) rfl ty82 rfl rfl rfl (.n (.h (.s ?_))); refine W.drawnE (ι := Unit) (fun _ _ => _) 9 () (by kernel_rfl) (by kernel_rfl) rfl ?_; refine DE.q (fun e c hk => (.fab (.t rfl) fa82_0)) rfl (fun _ _ => rfl) (.inr fun _ _ => rfl) (.q (fun e c hk => (.fab (.t rfl) fa81_0)) rfl (fun _ _ => rfl) (.inr fun _ _ => rfl) (.q (fun e c hk => (.ldb1 0 (.t rfl) rfl ag3 rfl)) rfl (fun _ _ => rfl) (.inr fun _ _ => rfl) (.q (fun e c hk => (.fab (.t rfl) fa82_0)) rfl (fun _ _ => rfl) (.inr fun _ _ => rfl) (.q (fun e c hk => (.fab (.t rfl) fa81_1)) rfl (fun _ _ => rfl) (.inr fun _ _ => rfl) (.q (fun e c hk => (.ldb1 0 (.t rfl) rfl ag3 rfl)) rfl (fun _ _ => rfl) (.inr fun _ _ => rfl) ?_)))))
 refine DE.q (fun e c hk => (.assign (.t rfl))) rfl (fun _ _ => rfl) (.inr fun _ _ => rfl) ?_; refine DE.q (fun e c hk => (.assign (.t rfl))) rfl (fun _ _ => rfl) (.inr fun _ _ => rfl) ?_; refine DE.q (fun e c hk => (.assign .k)) rfl (fun _ _ => rfl) (.inr fun _ _ => rfl) ?_; refine DE.nil (fun c_ e_ he_ => ?_)
 dsimp only
 refine W.h ?_; refine W.ret ?_; refine W.retn (M' := M0) (D := [_, _, _]) (rs := [.tmp 6, .tmp 7, .tmp 8]) (avs := [_, _, _]) Tryz.results19 ⟨rfl, rfl, rfl, trivial⟩ rfl (List.perm_append_comm (l₁ := [_, _, _])) ?_
 exact ⟨⟨rows, ho, rfl⟩, rfl⟩
end WFit
end Go.Proofs.YtphlkdbglpcikaaGreatDoor
end
section
namespace Go.Proofs.YtphlkdbglpcikaaGreatDoor
open Go.Vl
open Y
namespace WTypes
theorem pk_lt (l : List Int) (i n : Nat) (hn : 0 < n) : Sch.pk l i n < n := by
 unfold Sch.pk
 split
 ·exact hn
 ·have h1 := Int.emod_nonneg (l.getD i 0) (by omega : (n : Int) ≠ 0)
  have h2 := Int.emod_lt_of_pos (l.getD i 0) (by omega : (0 : Int) < n)
  omega
theorem pick_txt (ks : List Nat) (k : Nat) (hk : k < ks.length) : (ks.map Sch.txt).getD k [] = Sch.txt (ks.getD k 0) := by
 rw [List.getD_eq_getElem?_getD, List.getElem?_map, List.getD_eq_getElem?_getD, List.getElem?_eq_getElem hk]; rfl
theorem c_pick (b : Nat) (l : List Int) (i : Nat) (hi : i < 100) (hl : l.length ≤ 1099511627776) (ss : List (List UInt8)) (hs : 0 < ss.length) (hs2 : ss.length < 100) : FnC Tryz.prog 29 [.int (i : Int), .sl 1 (ss.map AV.str), .lit (.pointer (some ⟨b, 0, none⟩))] [.box b 22 [.sl 1 (l.map AV.int)]] (fun r M => r = .str (ss.getD (Sch.pk l i ss.length) []) ∧ M = [.box b 22 [.sl 1 (l.map AV.int)]]) :=  by
 refine FnC.mk Tryz.func29 (by kernel_rfl) rfl Tryz.ntmps29 rfl (fun w0 F => ?_)
 have hsl : (ss.map AV.str).length = ss.length := List.length_map ..
 have hll : (l.map AV.int).length = l.length := List.length_map ..
 have hg0 := getD_mapG AV.str [] ss 0 hs
 refine W.s (.r (.q (.assign .k) rfl (.n (.h (.s (.s (.r (.mv rfl rfl (.q (.ldb1 0 (.t rfl) rfl ag22 rfl) rfl (.q (.lensl (.t rfl) Tryz.underlying22) rfl ?_))))))))))
 refine W.q (.gei (.t rfl) (.t rfl)) rfl ?_; refine W.n ?_; refine W.h ?_; refine W.cond (.t rfl) (fun hc_t9 => ?_) (fun hc_t9 => ?_)
 ·have h9 := of_decide_eq_true hc_t9
  have hpk : Sch.pk l i ss.length = 0 := if_pos (by omega)
  refine W.s (.r (.mv rfl rfl ?_)); refine W.q (.at (E := 9) (.t rfl) .k Tryz.underlying26 ty9 (fun _ => ⟨by omega, hg0⟩) rfl rfl) rfl ?_; refine W.q (.lde1 (.t rfl) ag9) rfl (.asg rfl rfl (.n (.h ?_))); refine W.ret ?_; refine W.hr ?_; refine W.retn (M' := [.box b 22 [.sl 1 (l.map AV.int)]]) (D := []) (rs := [.tmp 5]) (avs := [_]) Tryz.results29 ⟨rfl, trivial⟩ rfl (.refl _) ?_
  exact ⟨congrArg AV.str (by rw [hpk]), rfl⟩
 ·have h9 := of_decide_eq_false hc_t9
  have hlt : i < l.length := by omega
  have hgl := getD_map l i hlt
  have hpk : Sch.pk l i ss.length = (l.getD i 0 % (ss.length : Int)).toNat := if_neg (by omega)
  obtain ⟨z, hz⟩ : ∃ z, l.getD i 0 = z := ⟨_, rfl⟩
  rw [hz] at hgl hpk
  have hz1 := Int.emod_nonneg z (by omega : (ss.length : Int) ≠ 0)
  have hz2 := Int.emod_lt_of_pos z (by omega : (0 : Int) < ss.length)
  have hgp := getD_mapG AV.str [] ss (z % (ss.length : Int)).toNat (by omega)
  refine W.k (.h (.s (.r (.mv rfl rfl (.q (.ldb1 0 (.t rfl) rfl ag22 rfl) rfl (.mv rfl rfl ?_)))))); refine W.q (.at (E := 3) (.t rfl) (.t rfl) Tryz.underlying22 ty3 (fun _ => ⟨by omega, hgl⟩) rfl rfl) rfl ?_; refine W.q (.lde1 (.t rfl) ag3) rfl (.mv rfl rfl (.q (.lensl (.t rfl) Tryz.underlying26) rfl ?_)); refine W.is (t := 19) (av' := .int (ss.length : Int)) rfl (congrArg AV.int (by rw [hsl])) ?_; refine W.callp (Base.c_Picked z (ss.length : Int) (by omega) (by omega)) ⟨(.t rfl), (.t rfl), trivial⟩ rfl ?_; refine W.q (.at (E := 9) (.t rfl) (.t rfl) Tryz.underlying26 ty9 (fun _ => ⟨by omega, hgp⟩) rfl rfl) rfl ?_; refine W.q (.lde1 (.t rfl) ag9) rfl (.asg rfl rfl (.n (.h ?_))); refine W.ret ?_; refine W.retn (M' := [.box b 22 [.sl 1 (l.map AV.int)]]) (D := []) (rs := [.tmp 5]) (avs := [_]) Tryz.results29 ⟨rfl, trivial⟩ rfl (.refl _) ?_
  exact ⟨congrArg AV.str (by rw [hpk]), rfl⟩
theorem c_Types (l : List Int) (hl : l.length ≤ 1099511627776) : FnP Tryz.prog 12 [.sl 1 (l.map AV.int)] (.sl 3 ((Sch.tys (Sch.pk l 0 4) (Sch.pk l 1 3) (Sch.pk l 2 2) (Sch.pk l 3 3) (Sch.pk l 4 3) (Sch.pk l 5 2)).map tpv)) :=  by
 refine FnC.mk Tryz.func12 (by kernel_rfl) rfl Tryz.ntmps12 rfl (fun w0 F => ?_)
 refine W.s ?_; refine W.r ?_; refine W.box (.t rfl) rfl rfl ?_; intro b1; refine W.q (.assign .k) rfl ?_; refine W.n ?_; refine W.h ?_; refine W.s ?_; refine W.r ?_; refine W.q (.mkfn (caps := [.tmp 1]) (vs := [_]) ⟨(.t rfl), trivial⟩) rfl ?_; refine W.q (.assign (.t rfl)) rfl ?_; refine W.n ?_; refine W.h ?_; refine W.s ?_; refine W.r ?_; refine W.q (.move (.t rfl)) rfl ?_; refine W.bs (es := [_, _, _, _]) Tryz.underlying26 ty9 ⟨rfl, .k, rfl, rfl, rfl, .k, rfl, rfl, rfl, .k, rfl, rfl, rfl, .k, rfl, rfl, trivial⟩ rfl (by decide) rfl rfl ?_; refine W.is (t := 6) (av' := .sl 1 (([0, 1, 2, 3].map Sch.txt).map AV.str)) rfl (congrArg (fun x => AV.sl 1 (x.map AV.str)) (by decide : ([[40, 98, 124, 99, 124, 100, 41, 43], [99, 63, 98, 42], [40, 98, 124, 100, 41, 42], [99, 98, 43, 100, 63]] : List (List UInt8)) = [0, 1, 2, 3].map Sch.txt)) ?_; refine W.callv (caps := [.pointer (some ⟨b1, 0, none⟩)]) (avs := [_, _]) (c_pick b1 l 0 (by decide) hl ([0, 1, 2, 3].map Sch.txt) (by decide) (by decide)) (.t rfl) ⟨.k, (.t rfl), trivial⟩ rfl (.refl _) rfl ?_
 rintro _ _ ⟨rfl, rfl⟩
 rw [show (List.map Sch.txt [0, 1, 2, 3]).length = 4 from rfl, pick_txt [0, 1, 2, 3] _ (pk_lt l 0 4 (by decide))]
 refine W.q (.build ty28 st28 rfl (fun hg => ⟨_, _, _, rfl, .k, rfl, rfl, rfl, _, _, _, rfl, (.t rfl), rfl, rfl, rfl, rfl⟩)) rfl ?_; refine W.nils (t := 8) (g := true) (cs' := [.str Sch.bDoc, .str (Sch.txt (([0, 1, 2, 3] : List Nat).getD (Sch.pk l 0 4) 0)), .sl 1 []]) rfl ⟨.inl rfl, .inl rfl, .inr ⟨rfl, 1, rfl⟩, trivial⟩ ?_; refine W.mv rfl rfl ?_; refine W.bs (es := [_, _, _]) Tryz.underlying26 ty9 ⟨rfl, .k, rfl, rfl, rfl, .k, rfl, rfl, rfl, .k, rfl, rfl, trivial⟩ rfl (by decide) rfl rfl ?_; refine W.is (t := 10) (av' := .sl 1 (([4, 5, 6].map Sch.txt).map AV.str)) rfl (congrArg (fun x => AV.sl 1 (x.map AV.str)) (by decide : ([[103, 63, 40, 102, 43, 103, 63, 41, 42], [40, 102, 124, 103, 102, 41, 42, 103, 63], [103, 63]] : List (List UInt8)) = [4, 5, 6].map Sch.txt)) ?_; refine W.callv (caps := [.pointer (some ⟨b1, 0, none⟩)]) (avs := [_, _]) (c_pick b1 l 1 (by decide) hl ([4, 5, 6].map Sch.txt) (by decide) (by decide)) (.t rfl) ⟨.k, (.t rfl), trivial⟩ rfl (.refl _) rfl ?_
 rintro _ _ ⟨rfl, rfl⟩
 rw [show (List.map Sch.txt [4, 5, 6]).length = 3 from rfl, pick_txt [4, 5, 6] _ (pk_lt l 1 3 (by decide))]
 refine W.bs (es := [_]) Tryz.underlying26 ty9 ⟨rfl, .k, rfl, rfl, trivial⟩ rfl (by decide) rfl rfl ?_; refine W.q (.build ty28 st28 rfl (fun hg => ⟨_, _, _, rfl, .k, rfl, rfl, rfl, _, _, _, rfl, (.t rfl), rfl, rfl, rfl, _, _, _, rfl, (.t rfl), rfl, rfl, rfl, rfl⟩)) rfl (.mv rfl rfl ?_); refine W.bs (es := [_, _]) Tryz.underlying26 ty9 ⟨rfl, .k, rfl, rfl, rfl, .k, rfl, rfl, trivial⟩ rfl (by decide) rfl rfl ?_; refine W.is (t := 15) (av' := .sl 1 (([7, 6].map Sch.txt).map AV.str)) rfl (congrArg (fun x => AV.sl 1 (x.map AV.str)) (by decide : ([[103], [103, 63]] : List (List UInt8)) = [7, 6].map Sch.txt)) ?_; refine W.callv (caps := [.pointer (some ⟨b1, 0, none⟩)]) (avs := [_, _]) (c_pick b1 l 2 (by decide) hl ([7, 6].map Sch.txt) (by decide) (by decide)) (.t rfl) ⟨.k, (.t rfl), trivial⟩ rfl (.refl _) rfl ?_
 rintro _ _ ⟨rfl, rfl⟩
 rw [show (List.map Sch.txt [7, 6]).length = 2 from rfl, pick_txt [7, 6] _ (pk_lt l 2 2 (by decide))]
 refine W.q (.build ty28 st28 rfl (fun hg => ⟨_, _, _, rfl, .k, rfl, rfl, rfl, _, _, _, rfl, (.t rfl), rfl, rfl, rfl, rfl⟩)) rfl ?_; refine W.nils (t := 17) (g := true) (cs' := [.str Sch.bH1, .str (Sch.txt (([7, 6] : List Nat).getD (Sch.pk l 2 2) 0)), .sl 1 []]) rfl ⟨.inl rfl, .inl rfl, .inr ⟨rfl, 1, rfl⟩, trivial⟩ ?_; refine W.mv rfl rfl ?_; refine W.bs (es := [_, _, _]) Tryz.underlying26 ty9 ⟨rfl, .k, rfl, rfl, rfl, .k, rfl, rfl, rfl, .k, rfl, rfl, trivial⟩ rfl (by decide) rfl rfl ?_; refine W.is (t := 19) (av' := .sl 1 (([8, 9, 10].map Sch.txt).map AV.str)) rfl (congrArg (fun x => AV.sl 1 (x.map AV.str)) (by decide : ([[101, 43], [101, 101, 42], [101, 42]] : List (List UInt8)) = [8, 9, 10].map Sch.txt)) ?_; refine W.callv (caps := [.pointer (some ⟨b1, 0, none⟩)]) (avs := [_, _]) (c_pick b1 l 3 (by decide) hl ([8, 9, 10].map Sch.txt) (by decide) (by decide)) (.t rfl) ⟨.k, (.t rfl), trivial⟩ rfl (.refl _) rfl ?_
 rintro _ _ ⟨rfl, rfl⟩
 rw [show (List.map Sch.txt [8, 9, 10]).length = 3 from rfl, pick_txt [8, 9, 10] _ (pk_lt l 3 3 (by decide))]
 refine W.q (.build ty28 st28 rfl (fun hg => ⟨_, _, _, rfl, .k, rfl, rfl, rfl, _, _, _, rfl, (.t rfl), rfl, rfl, rfl, rfl⟩)) rfl ?_; refine W.nils (t := 21) (g := true) (cs' := [.str Sch.bUl, .str (Sch.txt (([8, 9, 10] : List Nat).getD (Sch.pk l 3 3) 0)), .sl 1 []]) rfl ⟨.inl rfl, .inl rfl, .inr ⟨rfl, 1, rfl⟩, trivial⟩ ?_; refine W.mv rfl rfl ?_; refine W.bs (es := [_, _, _]) Tryz.underlying26 ty9 ⟨rfl, .k, rfl, rfl, rfl, .k, rfl, rfl, rfl, .k, rfl, rfl, trivial⟩ rfl (by decide) rfl rfl ?_; refine W.is (t := 23) (av' := .sl 1 (([11, 6, 2].map Sch.txt).map AV.str)) rfl (congrArg (fun x => AV.sl 1 (x.map AV.str)) (by decide : ([[98, 43], [103, 63], [40, 98, 124, 100, 41, 42]] : List (List UInt8)) = [11, 6, 2].map Sch.txt)) ?_; refine W.callv (caps := [.pointer (some ⟨b1, 0, none⟩)]) (avs := [_, _]) (c_pick b1 l 4 (by decide) hl ([11, 6, 2].map Sch.txt) (by decide) (by decide)) (.t rfl) ⟨.k, (.t rfl), trivial⟩ rfl (.refl _) rfl ?_
 rintro _ _ ⟨rfl, rfl⟩
 rw [show (List.map Sch.txt [11, 6, 2]).length = 3 from rfl, pick_txt [11, 6, 2] _ (pk_lt l 4 3 (by decide))]
 refine W.q (.build ty28 st28 rfl (fun hg => ⟨_, _, _, rfl, .k, rfl, rfl, rfl, _, _, _, rfl, (.t rfl), rfl, rfl, rfl, rfl⟩)) rfl ?_; refine W.nils (t := 25) (g := true) (cs' := [.str Sch.bLi, .str (Sch.txt (([11, 6, 2] : List Nat).getD (Sch.pk l 4 3) 0)), .sl 1 []]) rfl ⟨.inl rfl, .inl rfl, .inr ⟨rfl, 1, rfl⟩, trivial⟩ ?_; refine W.mv rfl rfl ?_; refine W.bs (es := [_, _]) Tryz.underlying26 ty9 ⟨rfl, .k, rfl, rfl, rfl, .k, rfl, rfl, trivial⟩ rfl (by decide) rfl rfl ?_; refine W.is (t := 27) (av' := .sl 1 (([7, 6].map Sch.txt).map AV.str)) rfl (congrArg (fun x => AV.sl 1 (x.map AV.str)) (by decide : ([[103], [103, 63]] : List (List UInt8)) = [7, 6].map Sch.txt)) ?_; refine W.callv (caps := [.pointer (some ⟨b1, 0, none⟩)]) (avs := [_, _]) (c_pick b1 l 5 (by decide) hl ([7, 6].map Sch.txt) (by decide) (by decide)) (.t rfl) ⟨.k, (.t rfl), trivial⟩ rfl (.refl _) rfl ?_
 rintro _ _ ⟨rfl, rfl⟩
 rw [show (List.map Sch.txt [7, 6]).length = 2 from rfl, pick_txt [7, 6] _ (pk_lt l 5 2 (by decide))]
 refine W.q (.build ty28 st28 rfl (fun hg => ⟨_, _, _, rfl, .k, rfl, rfl, rfl, _, _, _, rfl, (.t rfl), rfl, rfl, rfl, rfl⟩)) rfl ?_; refine W.nils (t := 29) (g := true) (cs' := [.str Sch.bEm, .str (Sch.txt (([7, 6] : List Nat).getD (Sch.pk l 5 2) 0)), .sl 1 []]) rfl ⟨.inl rfl, .inl rfl, .inr ⟨rfl, 1, rfl⟩, trivial⟩ ?_; refine W.q (.build ty28 st28 rfl (fun hg => rfl)) rfl ?_; refine W.nils (t := 30) (g := true) (cs' := [.str [], .str [], .sl 1 []]) rfl ⟨.inl rfl, .inl rfl, .inr ⟨rfl, 1, rfl⟩, trivial⟩ ?_; refine W.bs (es := [_, _, _, _, _, _, _]) Tryz.underlying23 ty28 ⟨rfl, (.t rfl), rfl, rfl, rfl, (.t rfl), rfl, rfl, rfl, (.t rfl), rfl, rfl, rfl, (.t rfl), rfl, rfl, rfl, (.t rfl), rfl, rfl, rfl, (.t rfl), rfl, rfl, rfl, (.t rfl), rfl, rfl, trivial⟩ rfl (by decide) rfl rfl ?_; refine W.asg rfl rfl (.n (.h ?_)); refine W.ret ?_; refine W.retn (M' := []) (D := _) (rs := [.tmp 2]) (avs := [_]) Tryz.results12 ⟨rfl, trivial⟩ rfl (.refl _) ?_
 exact ⟨rfl, rfl⟩
end WTypes
end Go.Proofs.YtphlkdbglpcikaaGreatDoor
end
section
namespace Go.Vl
namespace Sch
def bytesB : List UInt8 → List UInt8 → Bool
 | [], [] => true
 | a :: l, b :: m => Nat.beq a.toNat b.toNat && bytesB l m
 | _, _ => false
mutual
def ndB : Nd → Nd → Bool
 | .mk n a t p, .mk n' a' t' p' => bytesB n n' && a.isEmpty && a'.isEmpty && bytesB t t' && ndsB p p'
def ndsB : List Nd → List Nd → Bool
 | [], [] => true
 | d :: l, e :: m => ndB d e && ndsB l m
 | _, _ => false
end
def mk0 (k : Nat) : Nat := ([0, 1, 2, 3] : List Nat).getD k 0
def mk1 (k : Nat) : Nat := ([4, 5, 6] : List Nat).getD k 0
def mk2 (k : Nat) : Nat := ([7, 6] : List Nat).getD k 0
def mk3 (k : Nat) : Nat := ([8, 9, 10] : List Nat).getD k 0
def mk4 (k : Nat) : Nat := ([11, 6, 2] : List Nat).getD k 0
def mk5 (k : Nat) : Nat := ([7, 6] : List Nat).getD k 0
def tyk (m0 m1 m2 m3 m4 m5 : Nat) : List Tp := [⟨bDoc, txt m0, []⟩, ⟨bP, txt m1, [bClass]⟩, ⟨bH1, txt m2, []⟩, ⟨bUl, txt m3, []⟩, ⟨bLi, txt m4, []⟩, ⟨bEm, txt m5, []⟩, ⟨[], [], []⟩]
def ask (m0 m1 m2 m3 m4 m5 : Nat) : List Au := [auk m0, auk m1, auk m2, auk m3, auk m4, auk m5, auk 12]
theorem fine_all : ((List.range 14).all fun k => fine (auk k) 7 6 && fine (auk k) 8 6) = true := by kernel_rfl
theorem i7 {i : Nat} (h : i < 7) : i = 0 ∨ i = 1 ∨ i = 2 ∨ i = 3 ∨ i = 4 ∨ i = 5 ∨ i = 6 := by omega
theorem good_tyk (m0 m1 m2 m3 m4 m5 : Nat) (h : m0 < 14 ∧ m1 < 14 ∧ m2 < 14 ∧ m3 < 14 ∧ m4 < 14 ∧ m5 < 14) : Good (tyk m0 m1 m2 m3 m4 m5) (ask m0 m1 m2 m3 m4 m5) := by
 have hf : ∀ k, k < 14 → fine (auk k) 7 6 = true := fun k hk => by
  have := List.all_eq_true.1 fine_all k (List.mem_range.2 hk)
  simp only [Bool.and_eq_true] at this; exact this.1
 refine ⟨Nat.le_of_ble_eq_true rfl, Nat.le_of_ble_eq_true rfl, rfl, ?_, ?_, ?_, ?_, ?_⟩
 ·intro i hi; rcases i7 hi with rfl | rfl | rfl | rfl | rfl | rfl | rfl <;> first | exact ⟨Nat.le_of_ble_eq_true rfl, .inr rfl⟩ | exact ⟨Nat.le_of_ble_eq_true rfl, .inl rfl⟩
 ·intro i hi; rcases i7 hi with rfl | rfl | rfl | rfl | rfl | rfl | rfl <;> rfl
 ·intro i hi; rcases i7 hi with rfl | rfl | rfl | rfl | rfl | rfl | rfl <;> first | rfl | decide
 ·intro i hi; rcases i7 hi with rfl | rfl | rfl | rfl | rfl | rfl | rfl <;> first | rfl | decide
 ·intro i hi
  rcases i7 hi with rfl | rfl | rfl | rfl | rfl | rfl | rfl
  ·exact ⟨m0, h.1, rfl, rfl, hf _ h.1⟩
  ·exact ⟨m1, h.2.1, rfl, rfl, hf _ h.2.1⟩
  ·exact ⟨m2, h.2.2.1, rfl, rfl, hf _ h.2.2.1⟩
  ·exact ⟨m3, h.2.2.2.1, rfl, rfl, hf _ h.2.2.2.1⟩
  ·exact ⟨m4, h.2.2.2.2.1, rfl, rfl, hf _ h.2.2.2.2.1⟩
  ·exact ⟨m5, h.2.2.2.2.2, rfl, rfl, hf _ h.2.2.2.2.2⟩
  ·exact ⟨12, by decide, rfl, rfl, hf _ (by decide)⟩
theorem stepm_congr {ts ts' : List Tp} (h : ∀ i, (ts.getD i dT).name = (ts'.getD i dT).name) (as_ : List Au) (s : List Int × Bool) (i : Nat) : stepm ts as_ s i = stepm ts' as_ s i := by
 unfold stepm; rw [h i]
theorem rndm_congr {ts ts' : List Tp} (h : ∀ i, (ts.getD i dT).name = (ts'.getD i dT).name) (as_ : List Au) (s : List Int × Bool) : ∀ k, rndm ts as_ s k = rndm ts' as_ s k
 | 0 => rfl
 | k + 1 => by
  simp only [rndm, rndm_congr h as_ s k]
  cases rndm ts' as_ s k with
  | none => rfl
  | some r => exact stepm_congr h as_ r k
theorem mso_congr {ts ts' : List Tp} (h : ∀ i, (ts.getD i dT).name = (ts'.getD i dT).name) (hl : ts.length = ts'.length) (as_ : List Au) : ∀ n z, mso ts as_ n z = mso ts' as_ n z
 | 0, _ => rfl
 | n + 1, z => by
  simp only [mso, rndm_congr h as_, hl]
  cases rndm ts' as_ (z, false) ts'.length with
  | none => rfl
  | some r => simp only [mso_congr h hl as_ n]
theorem sizesOf_congr {ts ts' : List Tp} (h : ∀ i, (ts.getD i dT).name = (ts'.getD i dT).name) (hl : ts.length = ts'.length) (as_ : List Au) : sizesOf ts as_ = sizesOf ts' as_ := by
 unfold sizesOf; rw [mso_congr h hl, hl]
theorem names7 (m0 m1 m2 m3 m4 m5 n0 n1 n2 n3 n4 n5 : Nat) : ∀ i, ((tyk m0 m1 m2 m3 m4 m5).getD i dT).name = ((tyk n0 n1 n2 n3 n4 n5).getD i dT).name
 | 0 => rfl | 1 => rfl | 2 => rfl | 3 => rfl | 4 => rfl | 5 => rfl | 6 => rfl | _ + 7 => rfl
theorem tys_tyk (k0 k1 k2 k3 k4 k5 : Nat) : tys k0 k1 k2 k3 k4 k5 = tyk (mk0 k0) (mk1 k1) (mk2 k2) (mk3 k3) (mk4 k4) (mk5 k5) := rfl
def fst_ (m : Nat) : Nat := if m = 5 then 4 else if m = 9 then 8 else m
theorem auk_fst (m : Nat) : auk (fst_ m) = auk m := by
 unfold fst_
 split
 ·rename_i h; rw [h]; rfl
 ·split
  ·rename_i h; rw [h]; rfl
  ·rfl
theorem ask_fst (m0 m1 m2 m3 m4 m5 : Nat) : ask m0 (fst_ m1) m2 (fst_ m3) m4 m5 = ask m0 m1 m2 m3 m4 m5 := by
 unfold ask; rw [auk_fst, auk_fst]
theorem mk_lt {k0 k1 k2 k3 k4 k5 : Nat} (h0 : k0 < 4) (h1 : k1 < 3) (h2 : k2 < 2) (h3 : k3 < 3) (h4 : k4 < 3) (h5 : k5 < 2) : mk0 k0 < 14 ∧ mk1 k1 < 14 ∧ mk2 k2 < 14 ∧ mk3 k3 < 14 ∧ mk4 k4 < 14 ∧ mk5 k5 < 14 := by
 refine ⟨?_, ?_, ?_, ?_, ?_, ?_⟩
 ·exact (by decide : ∀ k : Fin 4, mk0 k.val < 14) ⟨k0, h0⟩
 ·exact (by decide : ∀ k : Fin 3, mk1 k.val < 14) ⟨k1, h1⟩
 ·exact (by decide : ∀ k : Fin 2, mk2 k.val < 14) ⟨k2, h2⟩
 ·exact (by decide : ∀ k : Fin 3, mk3 k.val < 14) ⟨k3, h3⟩
 ·exact (by decide : ∀ k : Fin 3, mk4 k.val < 14) ⟨k4, h4⟩
 ·exact (by decide : ∀ k : Fin 2, mk5 k.val < 14) ⟨k5, h5⟩
end Sch
end Go.Vl
end
section
namespace Go.Vl
namespace Fit
open Sch
section
variable {A : Au} {sz : List Int}
theorem Al.all {i : Nat} {f : Int} (h : Al A sz i [] 0 f) : ∀ ks : List Nat, Al A sz i ks (ks.length : Int) f
 | [] => h
 | k :: ks => by
  have := Al.drop (k := k) (Al.all h ks)
  rwa [show ((k :: ks).length : Int) = (ks.length : Int) + 1 from by simp] 
inductive Acc (A : Au) : Nat → List Nat → Prop
 | done {i : Nat} (h : A.final.getD i false = true) : Acc A i []
 | step {i k : Nat} {w : List Nat} (h : 0 ≤ tr A i k) (r : Acc A (tr A i k).toNat w) : Acc A i (k :: w)
theorem Acc.al {i : Nat} {w : List Nat} (h : Acc A i w) : Al A sz i w 0 0 := by
 induction h with
 | done h => exact .done h
 | step h r ih => exact .keep h ih
end
section
variable {A : Au} {sz : List Int} {ks : List Nat} {rows : List (List Ct)}
theorem Opt.ok0 (hsh : A.Shape) (ho : Opt A sz ks rows) (hex : ∃ d f, Al A sz 0 ks d f) : (cel rows 0 0).ok = true := by
 obtain ⟨d, f, h⟩ := hex
 have := (ho.cel_best (Nat.zero_le _) hsh.pos).le d f (by rwa [List.drop_zero])
 exact this.1
theorem Opt.le0 (hsh : A.Shape) (ho : Opt A sz ks rows) {d f : Int} (h : Al A sz 0 ks d f) : (cel rows 0 0).Le d f := (ho.cel_best (Nat.zero_le _) hsh.pos).le d f (by rwa [List.drop_zero])
theorem Opt.al0 (hsh : A.Shape) (ho : Opt A sz ks rows) (hok : (cel rows 0 0).ok = true) : Al A sz 0 ks (cel rows 0 0).d (cel rows 0 0).f := by
 have := (ho.cel_best (Nat.zero_le _) hsh.pos).al hok
 rwa [List.drop_zero] at this
def Pot (A : Au) (sz : List Int) (o : List Int) : Prop := (∀ i, A.final.getD i false = true → o.getD i 0 ≤ 0) ∧ ∀ i n, 0 ≤ tr A i n → o.getD i 0 ≤ sz.getD n 0 + o.getD (tr A i n).toNat 0
theorem Pot.le {o : List Int} (hp : Pot A sz o) (hz : Sz A sz) {i : Nat} {ls : List Nat} {d f : Int} (h : Al A sz i ls d f) : d = ls.length → o.getD i 0 ≤ f := by
 induction h with
 | done h => intro _; exact hp.1 _ h
 | keep h r ih =>
  intro e
  have := (r.nn hz).2.1
  simp only [List.length_cons] at e
  omega
 | drop r ih =>
  intro e
  simp only [List.length_cons] at e
  exact ih (by omega)
 | @fill i n ks d f h r ih =>
  intro e
  have := ih e
  have := hp.2 _ _ h
  omega
theorem bound (hsh : A.Shape) (hz : Sz A sz) {o : List Int} (hp : Pot A sz o) (hal : Al A sz 0 [] 0 (o.getD 0 0)) (ho : Opt A sz ks rows) {rows0 : List (List Ct)} (ho0 : Opt A sz [] rows0) :
 (0 ≤ (cel rows 0 0).d ∧ (cel rows 0 0).d ≤ ks.length) ∧ (cel rows0 0 0).d = 0 ∧ (cel rows0 0 0).f = o.getD 0 0 ∧ ((cel rows 0 0).d < ks.length ∨ (cel rows 0 0).f = o.getD 0 0) := by
 have h1 := ho.ok0 hsh ⟨_, _, hal.all _⟩
 have h2 := ho0.ok0 hsh ⟨_, _, hal⟩
 have a1 := ho.al0 hsh h1
 have a2 := ho0.al0 hsh h2
 have n1 := a1.nn hz
 have n2 := a2.nn hz
 have l1 := (ho.le0 hsh (hal.all ks)).2
 have l2 := (ho0.le0 hsh hal).2
 have p1 := hp.le hz a1
 have p2 := hp.le hz a2
 simp only [List.length_nil, Int.natCast_zero] at n2 p2
 have p2' := p2 (by omega)
 refine ⟨⟨n1.1, n1.2.1⟩, by omega, by omega, ?_⟩
 by_cases e : (cel rows 0 0).d = (ks.length : Int)
 ·right; have := p1 e; omega
 ·left; omega
def upto (k : Nat) : Nat → List Int
 | 0 => []
 | n + 1 => (k : Int) :: upto (k + 1) n
theorem Opt.zero (hz : Sz A sz) (ho : Opt A sz ks rows) {k i : Nat} (hk : k ≤ ks.length) (hi : i < A.next.length) (ha : Acc A i (ks.drop k)) : (cel rows k i).ok = true ∧ (cel rows k i).d = 0 ∧ (cel rows k i).f = 0 := by
 have h1 := (ho.cel_best hk hi).le _ _ ha.al
 have h2 := ((ho.cel_best hk hi).al h1.1).nn hz
 have := h1.2
 exact ⟨h1.1, by omega, by omega⟩
end
end Fit
end Go.Vl
end
section
namespace Go.Vl
namespace Sch
open Fit
def pathW (A : Au) (sz : List Int) : Nat → List Int → Option Int
 | i, [] => if A.final.getD i false = true then some 0 else none
 | i, k :: w => if tr A i k.toNat < 0 then none else match pathW A sz (tr A i k.toNat).toNat w with
  | none => none
  | some f => some (f + sz.getD k.toNat 0)
theorem pathW_al {A : Au} {sz : List Int} : ∀ {w : List Int} {i : Nat} {f : Int}, pathW A sz i w = some f → Al A sz i [] 0 f
 | [], i, f, h => by
  simp only [pathW] at h
  split at h
  ·rename_i h1; rw [← Option.some.inj h]; exact .done h1
  ·cases h
 | k :: w, i, f, h => by
  simp only [pathW] at h
  split at h
  ·cases h
  ·split at h
   ·cases h
   ·rename_i g hg; rw [← Option.some.inj h]; exact .fill (by omega) (pathW_al hg)
def potB (A : Au) (sz : List Int) (o : List Int) : Bool := (List.range A.next.length).all fun i => (!(A.final.getD i false) || decide (o.getD i 0 ≤ 0)) && (List.range 8).all fun n => decide (tr A i n < 0) || decide (o.getD i 0 ≤ sz.getD n 0 + o.getD (tr A i n).toNat 0)
theorem potB_pot {A : Au} (hsh : A.Shape) {sz o : List Int} (h : potB A sz o = true) : Pot A sz o := by
 have h1 : ∀ i, i < A.next.length → (A.final.getD i false = true → o.getD i 0 ≤ 0) ∧ ∀ n, n < 8 → 0 ≤ tr A i n → o.getD i 0 ≤ sz.getD n 0 + o.getD (tr A i n).toNat 0 := fun i hi => by
  have h2 := List.all_eq_true.1 h i (List.mem_range.2 hi)
  simp only [Bool.and_eq_true, Bool.or_eq_true, Bool.not_eq_true', decide_eq_true_eq] at h2
  refine ⟨fun hf => ?_, fun n hn h0 => ?_⟩
  ·rcases h2.1 with h3 | h3
   ·rw [hf] at h3; cases h3
   ·exact h3
  ·have h3 := List.all_eq_true.1 h2.2 n (List.mem_range.2 hn)
   simp only [Bool.or_eq_true, decide_eq_true_eq] at h3
   omega
 refine ⟨fun i hf => ?_, fun i n h0 => ?_⟩
 ·rcases Nat.lt_or_ge i A.next.length with hi | hi
  ·exact (h1 i hi).1 hf
  ·have := hsh.fin
   rw [List.getD_eq_getElem?_getD, List.getElem?_eq_none (by omega)] at hf; cases hf
 ·have hi := tr_row h0
  exact (h1 i hi).2 n (tr_lt hsh hi h0).2 h0
def leastB (A : Au) (sz : List Int) (s : Int) : Bool := match toGo sz A, cheap sz A with
 | some o, some w => potB A sz o && decide (o.getD 0 0 = s - 1) && match pathW A sz 0 w with
  | some f => decide (f = s - 1)
  | none => false
 | _, _ => false
theorem leastB_out {A : Au} (hsh : A.Shape) {sz : List Int} {s : Int} (h : leastB A sz s = true) : ∃ o, Pot A sz o ∧ Al A sz 0 [] 0 (o.getD 0 0) ∧ o.getD 0 0 = s - 1 := by
 unfold leastB at h
 split at h
 ·rename_i o w ho hw
  simp only [Bool.and_eq_true, decide_eq_true_eq] at h
  refine ⟨o, potB_pot hsh h.1.1, ?_, h.1.2⟩
  have h2 := h.2
  split at h2
  ·rename_i f hf
   rw [h.1.2, ← of_decide_eq_true h2]; exact pathW_al hf
  ·cases h2
 ·cases h
def chkFit (m0 m1 m2 m3 m4 m5 : Nat) : Bool := match sizesOf (tyk m0 m1 m2 m3 m4 m5) (ask m0 m1 m2 m3 m4 m5) with
 | some a => (a.all fun n => decide (1 ≤ n) && decide (n ≤ 150)) && decide (a.getD 6 0 = 1) && (List.range 6).all fun t => leastB ((ask m0 m1 m2 m3 m4 m5).getD t dA) a (a.getD t 0)
 | none => false
theorem chkFit_fst (m0 m1 m2 m3 m4 m5 : Nat) : chkFit m0 m1 m2 m3 m4 m5 = chkFit m0 (fst_ m1) m2 (fst_ m3) m4 m5 := by
 unfold chkFit
 rw [ask_fst, sizesOf_congr (names7 m0 m1 m2 m3 m4 m5 m0 (fst_ m1) m2 (fst_ m3) m4 m5) rfl]
structure FitOk (ts : List Tp) (as_ : List Au) (a : List Int) : Prop where
 sizes : sizesOf ts as_ = some a
 pos : ∀ n ∈ a, 1 ≤ n ∧ n ≤ 150
 last : a.getD 6 0 = 1
 least : ∀ t, t < 6 → leastB (as_.getD t dA) a (a.getD t 0) = true
theorem chkFit_out {m0 m1 m2 m3 m4 m5 : Nat} (h : chkFit m0 m1 m2 m3 m4 m5 = true) : ∃ a, FitOk (tyk m0 m1 m2 m3 m4 m5) (ask m0 m1 m2 m3 m4 m5) a := by
 unfold chkFit at h
 split at h
 ·rename_i a ha
  simp only [Bool.and_eq_true, decide_eq_true_eq] at h
  refine ⟨a, ha, fun n hn => ?_, h.1.2, fun t ht => List.all_eq_true.1 h.2 t (List.mem_range.2 ht)⟩
  have := List.all_eq_true.1 h.1.1 n hn
  simpa using this
 ·cases h
theorem fit_0_11 : (([4, 6] : List Nat).all fun m1 => ([7, 6] : List Nat).all fun m2 => ([8, 10] : List Nat).all fun m3 => ([7, 6] : List Nat).all fun m5 => chkFit 0 m1 m2 m3 11 m5) = true := by kernel_rfl
theorem fit_0_6 : (([4, 6] : List Nat).all fun m1 => ([7, 6] : List Nat).all fun m2 => ([8, 10] : List Nat).all fun m3 => ([7, 6] : List Nat).all fun m5 => chkFit 0 m1 m2 m3 6 m5) = true := by kernel_rfl
theorem fit_0_2 : (([4, 6] : List Nat).all fun m1 => ([7, 6] : List Nat).all fun m2 => ([8, 10] : List Nat).all fun m3 => ([7, 6] : List Nat).all fun m5 => chkFit 0 m1 m2 m3 2 m5) = true := by kernel_rfl
theorem fit_1_11 : (([4, 6] : List Nat).all fun m1 => ([7, 6] : List Nat).all fun m2 => ([8, 10] : List Nat).all fun m3 => ([7, 6] : List Nat).all fun m5 => chkFit 1 m1 m2 m3 11 m5) = true := by kernel_rfl
theorem fit_1_6 : (([4, 6] : List Nat).all fun m1 => ([7, 6] : List Nat).all fun m2 => ([8, 10] : List Nat).all fun m3 => ([7, 6] : List Nat).all fun m5 => chkFit 1 m1 m2 m3 6 m5) = true := by kernel_rfl
theorem fit_1_2 : (([4, 6] : List Nat).all fun m1 => ([7, 6] : List Nat).all fun m2 => ([8, 10] : List Nat).all fun m3 => ([7, 6] : List Nat).all fun m5 => chkFit 1 m1 m2 m3 2 m5) = true := by kernel_rfl
theorem fit_2_11 : (([4, 6] : List Nat).all fun m1 => ([7, 6] : List Nat).all fun m2 => ([8, 10] : List Nat).all fun m3 => ([7, 6] : List Nat).all fun m5 => chkFit 2 m1 m2 m3 11 m5) = true := by kernel_rfl
theorem fit_2_6 : (([4, 6] : List Nat).all fun m1 => ([7, 6] : List Nat).all fun m2 => ([8, 10] : List Nat).all fun m3 => ([7, 6] : List Nat).all fun m5 => chkFit 2 m1 m2 m3 6 m5) = true := by kernel_rfl
theorem fit_2_2 : (([4, 6] : List Nat).all fun m1 => ([7, 6] : List Nat).all fun m2 => ([8, 10] : List Nat).all fun m3 => ([7, 6] : List Nat).all fun m5 => chkFit 2 m1 m2 m3 2 m5) = true := by kernel_rfl
theorem fit_3_11 : (([4, 6] : List Nat).all fun m1 => ([7, 6] : List Nat).all fun m2 => ([8, 10] : List Nat).all fun m3 => ([7, 6] : List Nat).all fun m5 => chkFit 3 m1 m2 m3 11 m5) = true := by kernel_rfl
theorem fit_3_6 : (([4, 6] : List Nat).all fun m1 => ([7, 6] : List Nat).all fun m2 => ([8, 10] : List Nat).all fun m3 => ([7, 6] : List Nat).all fun m5 => chkFit 3 m1 m2 m3 6 m5) = true := by kernel_rfl
theorem fit_3_2 : (([4, 6] : List Nat).all fun m1 => ([7, 6] : List Nat).all fun m2 => ([8, 10] : List Nat).all fun m3 => ([7, 6] : List Nat).all fun m5 => chkFit 3 m1 m2 m3 2 m5) = true := by kernel_rfl
theorem fit_all {k0 k1 k2 k3 k4 k5 : Nat} (h0 : k0 < 4) (h1 : k1 < 3) (h2' : k2 < 2) (h3 : k3 < 3) (h4 : k4 < 3) (h5 : k5 < 2) : chkFit (mk0 k0) (mk1 k1) (mk2 k2) (mk3 k3) (mk4 k4) (mk5 k5) = true := by
 rw [chkFit_fst]
 have a1 : fst_ (mk1 k1) ∈ ([4, 6] : List Nat) := by rcases (show k1 = 0 ∨ k1 = 1 ∨ k1 = 2 by omega) with rfl | rfl | rfl <;> decide
 have a2 : mk2 k2 ∈ ([7, 6] : List Nat) := by rcases (show k2 = 0 ∨ k2 = 1 by omega) with rfl | rfl <;> decide
 have a3 : fst_ (mk3 k3) ∈ ([8, 10] : List Nat) := by rcases (show k3 = 0 ∨ k3 = 1 ∨ k3 = 2 by omega) with rfl | rfl | rfl <;> decide
 have a5 : mk5 k5 ∈ ([7, 6] : List Nat) := by rcases (show k5 = 0 ∨ k5 = 1 by omega) with rfl | rfl <;> decide
 have h2 : ∀ {m0 m4 : Nat}, (([4, 6] : List Nat).all fun m1 => ([7, 6] : List Nat).all fun m2 => ([8, 10] : List Nat).all fun m3 => ([7, 6] : List Nat).all fun m5 => chkFit m0 m1 m2 m3 m4 m5) = true → chkFit m0 (fst_ (mk1 k1)) (mk2 k2) (fst_ (mk3 k3)) m4 (mk5 k5) = true := fun h => List.all_eq_true.1 (List.all_eq_true.1 (List.all_eq_true.1 (List.all_eq_true.1 h _ a1) _ a2) _ a3) _ a5
 rcases (show k0 = 0 ∨ k0 = 1 ∨ k0 = 2 ∨ k0 = 3 by omega) with rfl | rfl | rfl | rfl <;> rcases (show k4 = 0 ∨ k4 = 1 ∨ k4 = 2 by omega) with rfl | rfl | rfl
 ·exact h2 fit_0_11
 ·exact h2 fit_0_6
 ·exact h2 fit_0_2
 ·exact h2 fit_1_11
 ·exact h2 fit_1_6
 ·exact h2 fit_1_2
 ·exact h2 fit_2_11
 ·exact h2 fit_2_6
 ·exact h2 fit_2_2
 ·exact h2 fit_3_11
 ·exact h2 fit_3_6
 ·exact h2 fit_3_2
def ts2 : List Tp := [⟨[97], txt 13, []⟩, ⟨[98], txt 12, []⟩]
def as2 : List Au := [auk 13, auk 12]
theorem sizes2 : sizesOf ts2 as2 = some [2, 1] := by kernel_rfl
theorem least2 : leastB (auk 13) [2, 1] 2 = true := by kernel_rfl
theorem fine2_ : (fine (auk 13) 2 (-1) && fine (auk 12) 2 (-1)) = true := by kernel_rfl
theorem i2_ {i : Nat} (h : i < 2) : i = 0 ∨ i = 1 := by omega
theorem good2 : Good ts2 as2 := by
 have hf := fine2_
 simp only [Bool.and_eq_true] at hf
 refine ⟨by decide, by decide, rfl, ?_, ?_, ?_, ?_, ?_⟩
 ·intro i hi; rcases i2_ hi with rfl | rfl <;> exact ⟨Nat.le_of_ble_eq_true rfl, .inr rfl⟩
 ·intro i hi; rcases i2_ hi with rfl | rfl <;> rfl
 ·intro i hi; rcases i2_ hi with rfl | rfl <;> first | rfl | decide
 ·intro i hi; rcases i2_ hi with rfl | rfl <;> first | rfl | decide
 ·intro i hi
  rcases i2_ hi with rfl | rfl
  ·exact ⟨13, by decide, rfl, rfl, hf.1⟩
  ·exact ⟨12, by decide, rfl, rfl, hf.2⟩
theorem pos2 : ∀ n ∈ ([2, 1] : List Int), 1 ≤ n ∧ n ≤ 150 := by decide
theorem name7 (m0 m1 m2 m3 m4 m5 : Nat) : ∀ t, t < 6 → ((tyk m0 m1 m2 m3 m4 m5).getD t dT).name ≠ []
 | 0, _ => (by decide : bDoc ≠ []) | 1, _ => (by decide : bP ≠ []) | 2, _ => (by decide : bH1 ≠ []) | 3, _ => (by decide : bUl ≠ []) | 4, _ => (by decide : bLi ≠ []) | 5, _ => (by decide : bEm ≠ []) | _ + 6, h => by omega
end Sch
end Go.Vl
end
section
namespace Go.Vl
namespace Fit
open Sch
theorem to_tr (A : Au) (i k : Nat) : A.to (i : Int) (k : Int) = tr A i k := by
 unfold Au.to tr; rw [Int.toNat_natCast, Int.toNat_natCast]
theorem acc_of {A : Au} (hsh : A.Shape) : ∀ {w : List Int} {i : Nat}, i < A.next.length → A.acc (i : Int) w → Acc A i (w.map Int.toNat)
 | [], i, hi, h => .done (by have := h.2; rwa [Int.toNat_natCast] at this)
 | c :: w, i, hi, h => by
  simp only [Au.acc] at h
  obtain ⟨h1, h2, h3, h4⟩ := h
  obtain ⟨k, rfl⟩ : ∃ k : Nat, c = (k : Int) := ⟨c.toNat, by omega⟩
  rw [to_tr] at h4
  have h0 : 0 ≤ tr A i k := by
   rcases Int.lt_or_le (tr A i k) 0 with h5 | h5
   ·exact absurd h4 (Au.acc_neg h5 w)
   ·exact h5
  obtain ⟨j, hj⟩ : ∃ j : Nat, tr A i k = (j : Int) := ⟨(tr A i k).toNat, by omega⟩
  have ht := (tr_lt hsh hi h0).1
  rw [hj] at h4 ht
  rw [Int.toNat_natCast] at ht
  rw [List.map_cons, Int.toNat_natCast]
  refine .step h0 ?_
  rw [hj, Int.toNat_natCast]
  exact acc_of hsh ht h4
theorem of_acc {A : Au} (hsh : A.Shape) : ∀ {w : List Nat} {i : Nat}, i < A.next.length → Acc A i w → A.acc (i : Int) (w.map fun k : Nat => (k : Int))
 | [], i, hi, .done h => ⟨Int.natCast_nonneg _, by rw [Int.toNat_natCast]; exact h⟩
 | k :: w, i, hi, .step h r => by
  have ht := tr_lt hsh hi h
  have := of_acc hsh ht.1 r
  rw [List.map_cons]
  simp only [Au.acc]
  refine ⟨Int.natCast_nonneg _, Int.natCast_nonneg _, by omega, ?_⟩
  rw [to_tr, show tr A i k = ((tr A i k).toNat : Int) from by omega]
  exact this
theorem Al.word {A : Au} {sz : List Int} {i : Nat} {ls : List Nat} {d f : Int} (h : Al A sz i ls d f) : ∃ w, Acc A i w := by
 induction h with
 | done h => exact ⟨[], .done h⟩
 | keep h r ih => obtain ⟨w, hw⟩ := ih; exact ⟨_, .step h hw⟩
 | drop r ih => exact ih
 | fill h r ih => obtain ⟨w, hw⟩ := ih; exact ⟨_, .step h hw⟩
theorem Acc.letters {A : Au} {P : Nat → Prop} (hn : ∀ i n, 0 ≤ tr A i n → P n) {i : Nat} {w : List Nat} (h : Acc A i w) : ∀ q ∈ w, P q := by
 induction h with
 | done => intro q hq; cases hq
 | step h r ih =>
  intro q hq
  rcases List.mem_cons.1 hq with rfl | hq
  ·exact hn _ _ h
  ·exact ih q hq
theorem small4 : ((List.range 14).all fun k => decide ((auk k).next.length ≤ 4)) = true := by kernel_rfl
theorem small (k : Nat) (hk : k < 14) : (auk k).next.length ≤ 4 := of_decide_eq_true (List.all_eq_true.1 small4 k (List.mem_range.2 hk))
theorem nat_map {w : List Int} (h : ∀ c ∈ w, 0 ≤ c) : w.map AV.int = (w.map Int.toNat).map fun k : Nat => AV.int (k : Int) := by
 rw [List.map_map]
 refine List.map_congr_left fun c hc => congrArg AV.int ?_
 have := h c hc
 show c = ((c.toNat : Nat) : Int)
 omega
end Fit
end Go.Vl
end
section
namespace Go.Vl
namespace Au
def dgt (i x : Nat) : List Int := (List.range i).map fun j => ((x / 3 ^ j % 3 : Nat) : Int)
theorem acc_app {a : Au} : ∀ (u : List Int) (i : Int) (w : List Int), (∀ c ∈ u, 0 ≤ c ∧ c < 8) → (a.acc i (u ++ w) ↔ a.acc (a.run i u) w)
 | [], i, w, _ => Iff.rfl
 | c :: u, i, w, h => by
  have hc := h c List.mem_cons_self
  by_cases hi : 0 ≤ i
  ·rw [List.cons_append, acc_cons hi hc.1 hc.2, run_cons a i c u hi]
   exact acc_app u _ w fun d hd => h d (List.mem_cons_of_mem _ hd)
  ·rw [run_neg (by omega)]
   exact ⟨fun h' => absurd h' (acc_neg (by omega) _), fun h' => absurd h' (acc_neg (by omega) _)⟩
theorem Canon.both_size {a b d : Au} (ha : a.Shape) (hb : b.Shape) (hd : d.Canon) (h : ∀ u, d.acc 0 u ↔ a.acc 0 u ∧ b.acc 0 u) : d.next.length ≤ (a.next.length + 1) * (b.next.length + 1) := by
 have hpa := ha.pos
 have hpb := hb.pos
 have hw : ∀ k, k < d.next.length → ∃ u : List Int, (∀ c ∈ u, 0 ≤ c ∧ c < 8) ∧ ∀ w, d.acc (k : Int) w ↔ a.acc (a.run 0 u) w ∧ b.acc (b.run 0 u) w := fun k hk => by
  obtain ⟨u, _, hu⟩ := hd.word k hk
  obtain ⟨v, hv⟩ := hd.live k hk
  have hr : ∀ c ∈ u, 0 ≤ c ∧ c < 8 := fun c hc => acc_over ((hu v).2 hv) c (List.mem_append_left _ hc)
  exact ⟨u, hr, fun w => by rw [← hu w, h, acc_app u 0 w hr, acc_app u 0 w hr]⟩
 obtain ⟨f, hf⟩ : ∃ f : Nat → List Int, ∀ k, k < d.next.length → (∀ c ∈ f k, 0 ≤ c ∧ c < 8) ∧ ∀ w, d.acc (k : Int) w ↔ a.acc (a.run 0 (f k)) w ∧ b.acc (b.run 0 (f k)) w :=
  ⟨fun k => if hk : k < d.next.length then Classical.choose (hw k hk) else [], fun k hk => by dsimp only; rw [dif_pos hk]; exact Classical.choose_spec (hw k hk)⟩
 have hra : ∀ k, k < d.next.length → -1 ≤ a.run 0 (f k) ∧ a.run 0 (f k) < a.next.length := fun k hk => run_range ha (f k) 0 (by decide) (by omega) (hf k hk).1
 have hrb : ∀ k, k < d.next.length → -1 ≤ b.run 0 (f k) ∧ b.run 0 (f k) < b.next.length := fun k hk => run_range hb (f k) 0 (by decide) (by omega) (hf k hk).1
 refine pigeon _ _ (fun k => (b.next.length + 1) * (a.run 0 (f k) + 1).toNat + (b.run 0 (f k) + 1).toNat) (fun k hk => ?_) (fun i j hi hj e => ?_)
 ·have h1 := hra k hk
  have h2 := hrb k hk
  have h3 : (b.next.length + 1) * (a.run 0 (f k) + 1).toNat ≤ (b.next.length + 1) * a.next.length := Nat.mul_le_mul_left _ (by omega)
  have h4 : (a.next.length + 1) * (b.next.length + 1) = (b.next.length + 1) * a.next.length + (b.next.length + 1) := by rw [Nat.mul_comm, Nat.mul_succ]
  show (b.next.length + 1) * (a.run 0 (f k) + 1).toNat + (b.run 0 (f k) + 1).toNat < _
  omega
 ·have h1 := hra i hi
  have h2 := hrb i hi
  have h3 := hra j hj
  have h4 := hrb j hj
  have e1 := congrArg (· / (b.next.length + 1)) e
  have e2 := congrArg (· % (b.next.length + 1)) e
  simp only [Nat.mul_add_div (Nat.succ_pos b.next.length), Nat.mul_add_mod] at e1 e2
  rw [Nat.div_eq_of_lt (by omega), Nat.div_eq_of_lt (by omega)] at e1
  rw [Nat.mod_eq_of_lt (by omega), Nat.mod_eq_of_lt (by omega)] at e2
  have ea : a.run 0 (f i) = a.run 0 (f j) := by omega
  have eb : b.run 0 (f i) = b.run 0 (f j) := by omega
  exact hd.apart i j hi hj fun w => by rw [(hf i hi).2, (hf j hj).2, ea, eb]
theorem Ord.both_size {a b d : Au} (ha : a.Shape) (hb : b.Shape) (hd : d.Ord) (h : ∀ u, d.acc 0 u ↔ a.acc 0 u ∧ b.acc 0 u) : d.next.length ≤ (a.next.length + 1) * (b.next.length + 1) := by
 rcases hd with hd | rfl
 ·exact hd.both_size ha hb h
 ·exact Nat.mul_pos (Nat.succ_pos _) (Nat.succ_pos _)
end Au
end Go.Vl
end
