/-
  Merged: WSPart WNew WFit WKids WTypes SchK FitL.
-/
import Derived.Test.YtphlkdbglpcikaaGreatDoorG13
set_option linter.unusedVariables false
set_option linter.unusedSimpArgs false
set_option maxRecDepth 100000

section
namespace Go.Proofs.YtphlkdbglpcikaaGreatDoor
open Go.Vl
open Y
namespace WSPart
set_option maxHeartbeats 1000000 in
theorem c_form (t : Tp) (h : Sch.formB t = true) : FnP Tryz.prog 49 [tpv t] (.bool true) :=  by
 refine FnC.mk Tryz.func49 (by kernel_rfl) rfl Tryz.ntmps49 rfl (fun w0 F => ?_)
 refine W.s ?_; refine W.r ?_; refine W.box (.t rfl) rfl rfl ?_; intro b1; refine W.q (.assign .k) rfl ?_; refine W.n ?_; refine W.h ?_; refine W.s ?_; refine W.s ?_; refine W.r ?_
 refine W.q (.fab (.t rfl) fa28_0) rfl (.q (.ldb1 0 (.t rfl) rfl ag9 rfl) rfl ?_)
 refine W.n ?_; refine W.h ?_; refine W.b ?_; refine W.s ?_; refine W.r ?_; refine W.q (.eqs (.t rfl) .k) rfl ?_; refine W.q (.assign (.t rfl)) rfl ?_; refine W.n ?_; refine W.h ?_; refine W.cond (.t rfl) (fun hc_t5 => ?_) (fun hc_t5 => ?_)
 ·skip
  refine W.s (.r (.q (.fab (.t rfl) fa28_1) rfl (.q (.ldb1 0 (.t rfl) rfl ag9 rfl) rfl (.q (.eqs (.t rfl) .k) rfl (.mv rfl rfl (.qgT rfl rfl (.fab (.t rfl) fa28_2) rfl (.qgT rfl rfl (.ldb1 0 (.c rfl) rfl ag26 rfl) rfl (.qgT rfl rfl (.lensl (.c rfl) Tryz.underlying26) rfl (.qgT rfl rfl (.eqi (.c rfl) .k) rfl ?_))))))))); refine W.q (.and (.t rfl) ⟨_, _, rfl, rfl, by ((simp; done))⟩) rfl ?_; refine W.asg rfl rfl (.n (.h ?_)); refine W.ret ?_; refine W.br (.hr ?_); refine W.retn (M' := []) (D := _) (rs := [.tmp 2]) (avs := [_]) Tryz.results49 ⟨rfl, trivial⟩ rfl (.refl _) ?_
  exact ⟨congrArg AV.bool (by ((unfold Sch.formB at h; simp_all; done))), rfl⟩
 ·skip
  refine W.s ?_; refine W.s ?_; refine W.r ?_; refine W.q (.eqs (.t rfl) .k) rfl ?_; refine W.q (.assign (.t rfl)) rfl ?_; refine W.n ?_; refine W.h ?_; refine W.cond (.t rfl) (fun hc_t16 => ?_) (fun hc_t16 => ?_)
  ·skip
   refine W.k ?_; refine W.h ?_; refine W.cond (.t rfl) (fun hc_t16 => ?_) (fun hc_t16 => ?_)
   ·skip
    refine W.s (.r (.q (.assign .k) rfl (.n (.h ?_)))); refine W.ret ?_; refine W.br (.hr ?_); refine W.retn (M' := []) (D := _) (rs := [.tmp 2]) (avs := [_]) Tryz.results49 ⟨rfl, trivial⟩ rfl (.refl _) ?_
    exact ⟨congrArg AV.bool (by ((unfold Sch.formB at h; simp_all; done))), rfl⟩
   ·skip
    refine W.s ?_; refine W.s ?_; refine W.r ?_; refine W.q (.eqs (.t rfl) .k) rfl ?_; refine W.q (.assign (.t rfl)) rfl ?_; refine W.n ?_; refine W.h ?_; refine W.cond (.t rfl) (fun hc_t21 => ?_) (fun hc_t21 => ?_)
    ·skip
     refine W.k ?_; refine W.h ?_; refine W.cond (.t rfl) (fun hc_t21 => ?_) (fun hc_t21 => ?_)
     ·skip
      refine W.s (.r (.q (.fab (.t rfl) fa28_1) rfl (.q (.ldb1 0 (.t rfl) rfl ag9 rfl) rfl (.q (.eqs (.t rfl) .k) rfl (.asg rfl rfl (.n (.h ?_))))))); refine W.ret ?_; refine W.br (.hr ?_); refine W.retn (M' := []) (D := _) (rs := [.tmp 2]) (avs := [_]) Tryz.results49 ⟨rfl, trivial⟩ rfl (.refl _) ?_
      exact ⟨congrArg AV.bool (by ((unfold Sch.formB at h; simp_all; done))), rfl⟩
     ·skip
      refine W.k (.bn (.h (.s (.r (.q (.assign .k) rfl (.n (.h ?_))))))); refine W.ret ?_; refine W.retn (M' := []) (D := _) (rs := [.tmp 2]) (avs := [_]) Tryz.results49 ⟨rfl, trivial⟩ rfl (.refl _) ?_
      exact ⟨congrArg AV.bool (by (rfl)), rfl⟩
    ·skip
     refine W.s ?_; refine W.r ?_; refine W.q (.eqs (.t rfl) .k) rfl ?_; refine W.q (.assign (.t rfl)) rfl ?_; refine W.n ?_; refine W.h ?_; refine W.cond (.t rfl) (fun hc_t21 => ?_) (fun hc_t21 => ?_)
     ·skip
      refine W.k ?_; refine W.h ?_; refine W.cond (.t rfl) (fun hc_t21 => ?_) (fun hc_t21 => ?_)
      ·skip
       refine W.s (.r (.q (.fab (.t rfl) fa28_1) rfl (.q (.ldb1 0 (.t rfl) rfl ag9 rfl) rfl (.q (.eqs (.t rfl) .k) rfl (.asg rfl rfl (.n (.h ?_))))))); refine W.ret ?_; refine W.br (.hr ?_); refine W.retn (M' := []) (D := _) (rs := [.tmp 2]) (avs := [_]) Tryz.results49 ⟨rfl, trivial⟩ rfl (.refl _) ?_
       exact ⟨congrArg AV.bool (by ((unfold Sch.formB at h; simp_all; done))), rfl⟩
      ·skip
       refine W.k (.bn (.h (.s (.r (.q (.assign .k) rfl (.n (.h ?_))))))); refine W.ret ?_; refine W.retn (M' := []) (D := _) (rs := [.tmp 2]) (avs := [_]) Tryz.results49 ⟨rfl, trivial⟩ rfl (.refl _) ?_
       exact ⟨congrArg AV.bool (by (rfl)), rfl⟩
     ·skip
      refine W.s ?_; refine W.r ?_; refine W.q (.eqs (.t rfl) .k) rfl ?_; refine W.q (.assign (.t rfl)) rfl ?_; refine W.n ?_; refine W.h ?_; refine W.cond (.t rfl) (fun hc_t21 => ?_) (fun hc_t21 => ?_)
      ·skip
       refine W.k ?_; refine W.h ?_; refine W.cond (.t rfl) (fun hc_t21 => ?_) (fun hc_t21 => ?_)
       ·skip
        refine W.s (.r (.q (.fab (.t rfl) fa28_1) rfl (.q (.ldb1 0 (.t rfl) rfl ag9 rfl) rfl (.q (.eqs (.t rfl) .k) rfl (.asg rfl rfl (.n (.h ?_))))))); refine W.ret ?_; refine W.br (.hr ?_); refine W.retn (M' := []) (D := _) (rs := [.tmp 2]) (avs := [_]) Tryz.results49 ⟨rfl, trivial⟩ rfl (.refl _) ?_
        exact ⟨congrArg AV.bool (by ((unfold Sch.formB at h; simp_all; done))), rfl⟩
       ·skip
        refine W.k (.bn (.h (.s (.r (.q (.assign .k) rfl (.n (.h ?_))))))); refine W.ret ?_; refine W.retn (M' := []) (D := _) (rs := [.tmp 2]) (avs := [_]) Tryz.results49 ⟨rfl, trivial⟩ rfl (.refl _) ?_
        exact ⟨congrArg AV.bool (by (rfl)), rfl⟩
      ·skip
       refine W.r ?_; refine W.q (.eqs (.t rfl) .k) rfl ?_; refine W.q (.assign (.t rfl)) rfl ?_; refine W.n ?_; refine W.h ?_; refine W.cond (.t rfl) (fun hc_t21 => ?_) (fun hc_t21 => ?_)
       ·skip
        refine W.s (.r (.q (.fab (.t rfl) fa28_1) rfl (.q (.ldb1 0 (.t rfl) rfl ag9 rfl) rfl (.q (.eqs (.t rfl) .k) rfl (.asg rfl rfl (.n (.h ?_))))))); refine W.ret ?_; refine W.br (.hr ?_); refine W.retn (M' := []) (D := _) (rs := [.tmp 2]) (avs := [_]) Tryz.results49 ⟨rfl, trivial⟩ rfl (.refl _) ?_
        exact ⟨congrArg AV.bool (by ((unfold Sch.formB at h; simp_all; done))), rfl⟩
       ·skip
        refine W.k (.bn (.h (.s (.r (.q (.assign .k) rfl (.n (.h ?_))))))); refine W.ret ?_; refine W.retn (M' := []) (D := _) (rs := [.tmp 2]) (avs := [_]) Tryz.results49 ⟨rfl, trivial⟩ rfl (.refl _) ?_
        exact ⟨congrArg AV.bool (by (rfl)), rfl⟩
  ·skip
   refine W.s ?_; refine W.r ?_; refine W.q (.eqs (.t rfl) .k) rfl ?_; refine W.q (.assign (.t rfl)) rfl ?_; refine W.n ?_; refine W.h ?_; refine W.cond (.t rfl) (fun hc_t16 => ?_) (fun hc_t16 => ?_)
   ·skip
    refine W.k ?_; refine W.h ?_; refine W.cond (.t rfl) (fun hc_t16 => ?_) (fun hc_t16 => ?_)
    ·skip
     refine W.s (.r (.q (.assign .k) rfl (.n (.h ?_)))); refine W.ret ?_; refine W.br (.hr ?_); refine W.retn (M' := []) (D := _) (rs := [.tmp 2]) (avs := [_]) Tryz.results49 ⟨rfl, trivial⟩ rfl (.refl _) ?_
     exact ⟨congrArg AV.bool (by ((unfold Sch.formB at h; simp_all; done))), rfl⟩
    ·skip
     refine W.s ?_; refine W.s ?_; refine W.r ?_; refine W.q (.eqs (.t rfl) .k) rfl ?_; refine W.q (.assign (.t rfl)) rfl ?_; refine W.n ?_; refine W.h ?_; refine W.cond (.t rfl) (fun hc_t21 => ?_) (fun hc_t21 => ?_)
     ·skip
      refine W.k ?_; refine W.h ?_; refine W.cond (.t rfl) (fun hc_t21 => ?_) (fun hc_t21 => ?_)
      ·skip
       refine W.s (.r (.q (.fab (.t rfl) fa28_1) rfl (.q (.ldb1 0 (.t rfl) rfl ag9 rfl) rfl (.q (.eqs (.t rfl) .k) rfl (.asg rfl rfl (.n (.h ?_))))))); refine W.ret ?_; refine W.br (.hr ?_); refine W.retn (M' := []) (D := _) (rs := [.tmp 2]) (avs := [_]) Tryz.results49 ⟨rfl, trivial⟩ rfl (.refl _) ?_
       exact ⟨congrArg AV.bool (by ((unfold Sch.formB at h; simp_all; done))), rfl⟩
      ·skip
       refine W.k (.bn (.h (.s (.r (.q (.assign .k) rfl (.n (.h ?_))))))); refine W.ret ?_; refine W.retn (M' := []) (D := _) (rs := [.tmp 2]) (avs := [_]) Tryz.results49 ⟨rfl, trivial⟩ rfl (.refl _) ?_
       exact ⟨congrArg AV.bool (by (rfl)), rfl⟩
     ·skip
      refine W.s ?_; refine W.r ?_; refine W.q (.eqs (.t rfl) .k) rfl ?_; refine W.q (.assign (.t rfl)) rfl ?_; refine W.n ?_; refine W.h ?_; refine W.cond (.t rfl) (fun hc_t21 => ?_) (fun hc_t21 => ?_)
      ·skip
       refine W.k ?_; refine W.h ?_; refine W.cond (.t rfl) (fun hc_t21 => ?_) (fun hc_t21 => ?_)
       ·skip
        refine W.s (.r (.q (.fab (.t rfl) fa28_1) rfl (.q (.ldb1 0 (.t rfl) rfl ag9 rfl) rfl (.q (.eqs (.t rfl) .k) rfl (.asg rfl rfl (.n (.h ?_))))))); refine W.ret ?_; refine W.br (.hr ?_); refine W.retn (M' := []) (D := _) (rs := [.tmp 2]) (avs := [_]) Tryz.results49 ⟨rfl, trivial⟩ rfl (.refl _) ?_
        exact ⟨congrArg AV.bool (by ((unfold Sch.formB at h; simp_all; done))), rfl⟩
       ·skip
        refine W.k (.bn (.h (.s (.r (.q (.assign .k) rfl (.n (.h ?_))))))); refine W.ret ?_; refine W.retn (M' := []) (D := _) (rs := [.tmp 2]) (avs := [_]) Tryz.results49 ⟨rfl, trivial⟩ rfl (.refl _) ?_
        exact ⟨congrArg AV.bool (by (rfl)), rfl⟩
      ·skip
       refine W.s ?_; refine W.r ?_; refine W.q (.eqs (.t rfl) .k) rfl ?_; refine W.q (.assign (.t rfl)) rfl ?_; refine W.n ?_; refine W.h ?_; refine W.cond (.t rfl) (fun hc_t21 => ?_) (fun hc_t21 => ?_)
       ·skip
        refine W.k ?_; refine W.h ?_; refine W.cond (.t rfl) (fun hc_t21 => ?_) (fun hc_t21 => ?_)
        ·skip
         refine W.s (.r (.q (.fab (.t rfl) fa28_1) rfl (.q (.ldb1 0 (.t rfl) rfl ag9 rfl) rfl (.q (.eqs (.t rfl) .k) rfl (.asg rfl rfl (.n (.h ?_))))))); refine W.ret ?_; refine W.br (.hr ?_); refine W.retn (M' := []) (D := _) (rs := [.tmp 2]) (avs := [_]) Tryz.results49 ⟨rfl, trivial⟩ rfl (.refl _) ?_
         exact ⟨congrArg AV.bool (by ((unfold Sch.formB at h; simp_all; done))), rfl⟩
        ·skip
         refine W.k (.bn (.h (.s (.r (.q (.assign .k) rfl (.n (.h ?_))))))); refine W.ret ?_; refine W.retn (M' := []) (D := _) (rs := [.tmp 2]) (avs := [_]) Tryz.results49 ⟨rfl, trivial⟩ rfl (.refl _) ?_
         exact ⟨congrArg AV.bool (by (rfl)), rfl⟩
       ·skip
        refine W.r ?_; refine W.q (.eqs (.t rfl) .k) rfl ?_; refine W.q (.assign (.t rfl)) rfl ?_; refine W.n ?_; refine W.h ?_; refine W.cond (.t rfl) (fun hc_t21 => ?_) (fun hc_t21 => ?_)
        ·skip
         refine W.s (.r (.q (.fab (.t rfl) fa28_1) rfl (.q (.ldb1 0 (.t rfl) rfl ag9 rfl) rfl (.q (.eqs (.t rfl) .k) rfl (.asg rfl rfl (.n (.h ?_))))))); refine W.ret ?_; refine W.br (.hr ?_); refine W.retn (M' := []) (D := _) (rs := [.tmp 2]) (avs := [_]) Tryz.results49 ⟨rfl, trivial⟩ rfl (.refl _) ?_
         exact ⟨congrArg AV.bool (by ((unfold Sch.formB at h; simp_all; done))), rfl⟩
        ·skip
         refine W.k (.bn (.h (.s (.r (.q (.assign .k) rfl (.n (.h ?_))))))); refine W.ret ?_; refine W.retn (M' := []) (D := _) (rs := [.tmp 2]) (avs := [_]) Tryz.results49 ⟨rfl, trivial⟩ rfl (.refl _) ?_
         exact ⟨congrArg AV.bool (by (rfl)), rfl⟩
   ·skip
    refine W.s ?_; refine W.r ?_; refine W.q (.eqs (.t rfl) .k) rfl ?_; refine W.q (.assign (.t rfl)) rfl ?_; refine W.n ?_; refine W.h ?_; refine W.cond (.t rfl) (fun hc_t16 => ?_) (fun hc_t16 => ?_)
    ·skip
     refine W.k ?_; refine W.h ?_; refine W.cond (.t rfl) (fun hc_t16 => ?_) (fun hc_t16 => ?_)
     ·skip
      refine W.s (.r (.q (.assign .k) rfl (.n (.h ?_)))); refine W.ret ?_; refine W.br (.hr ?_); refine W.retn (M' := []) (D := _) (rs := [.tmp 2]) (avs := [_]) Tryz.results49 ⟨rfl, trivial⟩ rfl (.refl _) ?_
      exact ⟨congrArg AV.bool (by ((unfold Sch.formB at h; simp_all; done))), rfl⟩
     ·skip
      refine W.s ?_; refine W.s ?_; refine W.r ?_; refine W.q (.eqs (.t rfl) .k) rfl ?_; refine W.q (.assign (.t rfl)) rfl ?_; refine W.n ?_; refine W.h ?_; refine W.cond (.t rfl) (fun hc_t21 => ?_) (fun hc_t21 => ?_)
      ·skip
       refine W.k ?_; refine W.h ?_; refine W.cond (.t rfl) (fun hc_t21 => ?_) (fun hc_t21 => ?_)
       ·skip
        refine W.s (.r (.q (.fab (.t rfl) fa28_1) rfl (.q (.ldb1 0 (.t rfl) rfl ag9 rfl) rfl (.q (.eqs (.t rfl) .k) rfl (.asg rfl rfl (.n (.h ?_))))))); refine W.ret ?_; refine W.br (.hr ?_); refine W.retn (M' := []) (D := _) (rs := [.tmp 2]) (avs := [_]) Tryz.results49 ⟨rfl, trivial⟩ rfl (.refl _) ?_
        exact ⟨congrArg AV.bool (by ((unfold Sch.formB at h; simp_all; done))), rfl⟩
       ·skip
        refine W.k (.bn (.h (.s (.r (.q (.assign .k) rfl (.n (.h ?_))))))); refine W.ret ?_; refine W.retn (M' := []) (D := _) (rs := [.tmp 2]) (avs := [_]) Tryz.results49 ⟨rfl, trivial⟩ rfl (.refl _) ?_
        exact ⟨congrArg AV.bool (by (rfl)), rfl⟩
      ·skip
       refine W.s ?_; refine W.r ?_; refine W.q (.eqs (.t rfl) .k) rfl ?_; refine W.q (.assign (.t rfl)) rfl ?_; refine W.n ?_; refine W.h ?_; refine W.cond (.t rfl) (fun hc_t21 => ?_) (fun hc_t21 => ?_)
       ·skip
        refine W.k ?_; refine W.h ?_; refine W.cond (.t rfl) (fun hc_t21 => ?_) (fun hc_t21 => ?_)
        ·skip
         refine W.s (.r (.q (.fab (.t rfl) fa28_1) rfl (.q (.ldb1 0 (.t rfl) rfl ag9 rfl) rfl (.q (.eqs (.t rfl) .k) rfl (.asg rfl rfl (.n (.h ?_))))))); refine W.ret ?_; refine W.br (.hr ?_); refine W.retn (M' := []) (D := _) (rs := [.tmp 2]) (avs := [_]) Tryz.results49 ⟨rfl, trivial⟩ rfl (.refl _) ?_
         exact ⟨congrArg AV.bool (by ((unfold Sch.formB at h; simp_all; done))), rfl⟩
        ·skip
         refine W.k (.bn (.h (.s (.r (.q (.assign .k) rfl (.n (.h ?_))))))); refine W.ret ?_; refine W.retn (M' := []) (D := _) (rs := [.tmp 2]) (avs := [_]) Tryz.results49 ⟨rfl, trivial⟩ rfl (.refl _) ?_
         exact ⟨congrArg AV.bool (by (rfl)), rfl⟩
       ·skip
        refine W.s ?_; refine W.r ?_; refine W.q (.eqs (.t rfl) .k) rfl ?_; refine W.q (.assign (.t rfl)) rfl ?_; refine W.n ?_; refine W.h ?_; refine W.cond (.t rfl) (fun hc_t21 => ?_) (fun hc_t21 => ?_)
        ·skip
         refine W.k ?_; refine W.h ?_; refine W.cond (.t rfl) (fun hc_t21 => ?_) (fun hc_t21 => ?_)
         ·skip
          refine W.s (.r (.q (.fab (.t rfl) fa28_1) rfl (.q (.ldb1 0 (.t rfl) rfl ag9 rfl) rfl (.q (.eqs (.t rfl) .k) rfl (.asg rfl rfl (.n (.h ?_))))))); refine W.ret ?_; refine W.br (.hr ?_); refine W.retn (M' := []) (D := _) (rs := [.tmp 2]) (avs := [_]) Tryz.results49 ⟨rfl, trivial⟩ rfl (.refl _) ?_
          exact ⟨congrArg AV.bool (by ((unfold Sch.formB at h; simp_all; done))), rfl⟩
         ·skip
          refine W.k (.bn (.h (.s (.r (.q (.assign .k) rfl (.n (.h ?_))))))); refine W.ret ?_; refine W.retn (M' := []) (D := _) (rs := [.tmp 2]) (avs := [_]) Tryz.results49 ⟨rfl, trivial⟩ rfl (.refl _) ?_
          exact ⟨congrArg AV.bool (by (rfl)), rfl⟩
        ·skip
         refine W.r ?_; refine W.q (.eqs (.t rfl) .k) rfl ?_; refine W.q (.assign (.t rfl)) rfl ?_; refine W.n ?_; refine W.h ?_; refine W.cond (.t rfl) (fun hc_t21 => ?_) (fun hc_t21 => ?_)
         ·skip
          refine W.s (.r (.q (.fab (.t rfl) fa28_1) rfl (.q (.ldb1 0 (.t rfl) rfl ag9 rfl) rfl (.q (.eqs (.t rfl) .k) rfl (.asg rfl rfl (.n (.h ?_))))))); refine W.ret ?_; refine W.br (.hr ?_); refine W.retn (M' := []) (D := _) (rs := [.tmp 2]) (avs := [_]) Tryz.results49 ⟨rfl, trivial⟩ rfl (.refl _) ?_
          exact ⟨congrArg AV.bool (by ((unfold Sch.formB at h; simp_all; done))), rfl⟩
         ·skip
          refine W.k (.bn (.h (.s (.r (.q (.assign .k) rfl (.n (.h ?_))))))); refine W.ret ?_; refine W.retn (M' := []) (D := _) (rs := [.tmp 2]) (avs := [_]) Tryz.results49 ⟨rfl, trivial⟩ rfl (.refl _) ?_
          exact ⟨congrArg AV.bool (by (rfl)), rfl⟩
    ·skip
     refine W.r ?_; refine W.q (.eqs (.t rfl) .k) rfl ?_; refine W.q (.assign (.t rfl)) rfl ?_; refine W.n ?_; refine W.h ?_; refine W.cond (.t rfl) (fun hc_t16 => ?_) (fun hc_t16 => ?_)
     ·skip
      refine W.s (.r (.q (.assign .k) rfl (.n (.h ?_)))); refine W.ret ?_; refine W.br (.hr ?_); refine W.retn (M' := []) (D := _) (rs := [.tmp 2]) (avs := [_]) Tryz.results49 ⟨rfl, trivial⟩ rfl (.refl _) ?_
      exact ⟨congrArg AV.bool (by ((unfold Sch.formB at h; simp_all; done))), rfl⟩
     ·skip
      refine W.s ?_; refine W.s ?_; refine W.r ?_; refine W.q (.eqs (.t rfl) .k) rfl ?_; refine W.q (.assign (.t rfl)) rfl ?_; refine W.n ?_; refine W.h ?_; refine W.cond (.t rfl) (fun hc_t21 => ?_) (fun hc_t21 => ?_)
      ·skip
       refine W.k ?_; refine W.h ?_; refine W.cond (.t rfl) (fun hc_t21 => ?_) (fun hc_t21 => ?_)
       ·skip
        refine W.s (.r (.q (.fab (.t rfl) fa28_1) rfl (.q (.ldb1 0 (.t rfl) rfl ag9 rfl) rfl (.q (.eqs (.t rfl) .k) rfl (.asg rfl rfl (.n (.h ?_))))))); refine W.ret ?_; refine W.br (.hr ?_); refine W.retn (M' := []) (D := _) (rs := [.tmp 2]) (avs := [_]) Tryz.results49 ⟨rfl, trivial⟩ rfl (.refl _) ?_
        exact ⟨congrArg AV.bool (by ((unfold Sch.formB at h; simp_all; done))), rfl⟩
       ·skip
        refine W.k (.bn (.h (.s (.r (.q (.assign .k) rfl (.n (.h ?_))))))); refine W.ret ?_; refine W.retn (M' := []) (D := _) (rs := [.tmp 2]) (avs := [_]) Tryz.results49 ⟨rfl, trivial⟩ rfl (.refl _) ?_
        exact ⟨congrArg AV.bool (by (rfl)), rfl⟩
      ·skip
       refine W.s ?_; refine W.r ?_; refine W.q (.eqs (.t rfl) .k) rfl ?_; refine W.q (.assign (.t rfl)) rfl ?_; refine W.n ?_; refine W.h ?_; refine W.cond (.t rfl) (fun hc_t21 => ?_) (fun hc_t21 => ?_)
       ·skip
        refine W.k ?_; refine W.h ?_; refine W.cond (.t rfl) (fun hc_t21 => ?_) (fun hc_t21 => ?_)
        ·skip
         refine W.s (.r (.q (.fab (.t rfl) fa28_1) rfl (.q (.ldb1 0 (.t rfl) rfl ag9 rfl) rfl (.q (.eqs (.t rfl) .k) rfl (.asg rfl rfl (.n (.h ?_))))))); refine W.ret ?_; refine W.br (.hr ?_); refine W.retn (M' := []) (D := _) (rs := [.tmp 2]) (avs := [_]) Tryz.results49 ⟨rfl, trivial⟩ rfl (.refl _) ?_
         exact ⟨congrArg AV.bool (by ((unfold Sch.formB at h; simp_all; done))), rfl⟩
        ·skip
         refine W.k (.bn (.h (.s (.r (.q (.assign .k) rfl (.n (.h ?_))))))); refine W.ret ?_; refine W.retn (M' := []) (D := _) (rs := [.tmp 2]) (avs := [_]) Tryz.results49 ⟨rfl, trivial⟩ rfl (.refl _) ?_
         exact ⟨congrArg AV.bool (by (rfl)), rfl⟩
       ·skip
        refine W.s ?_; refine W.r ?_; refine W.q (.eqs (.t rfl) .k) rfl ?_; refine W.q (.assign (.t rfl)) rfl ?_; refine W.n ?_; refine W.h ?_; refine W.cond (.t rfl) (fun hc_t21 => ?_) (fun hc_t21 => ?_)
        ·skip
         refine W.k ?_; refine W.h ?_; refine W.cond (.t rfl) (fun hc_t21 => ?_) (fun hc_t21 => ?_)
         ·skip
          refine W.s (.r (.q (.fab (.t rfl) fa28_1) rfl (.q (.ldb1 0 (.t rfl) rfl ag9 rfl) rfl (.q (.eqs (.t rfl) .k) rfl (.asg rfl rfl (.n (.h ?_))))))); refine W.ret ?_; refine W.br (.hr ?_); refine W.retn (M' := []) (D := _) (rs := [.tmp 2]) (avs := [_]) Tryz.results49 ⟨rfl, trivial⟩ rfl (.refl _) ?_
          exact ⟨congrArg AV.bool (by ((unfold Sch.formB at h; simp_all; done))), rfl⟩
         ·skip
          refine W.k (.bn (.h (.s (.r (.q (.assign .k) rfl (.n (.h ?_))))))); refine W.ret ?_; refine W.retn (M' := []) (D := _) (rs := [.tmp 2]) (avs := [_]) Tryz.results49 ⟨rfl, trivial⟩ rfl (.refl _) ?_
          exact ⟨congrArg AV.bool (by (rfl)), rfl⟩
        ·skip
         refine W.r ?_; refine W.q (.eqs (.t rfl) .k) rfl ?_; refine W.q (.assign (.t rfl)) rfl ?_; refine W.n ?_; refine W.h ?_; refine W.cond (.t rfl) (fun hc_t21 => ?_) (fun hc_t21 => ?_)
         ·skip
          refine W.s (.r (.q (.fab (.t rfl) fa28_1) rfl (.q (.ldb1 0 (.t rfl) rfl ag9 rfl) rfl (.q (.eqs (.t rfl) .k) rfl (.asg rfl rfl (.n (.h ?_))))))); refine W.ret ?_; refine W.br (.hr ?_); refine W.retn (M' := []) (D := _) (rs := [.tmp 2]) (avs := [_]) Tryz.results49 ⟨rfl, trivial⟩ rfl (.refl _) ?_
          exact ⟨congrArg AV.bool (by ((unfold Sch.formB at h; simp_all; done))), rfl⟩
         ·skip
          refine W.k (.bn (.h (.s (.r (.q (.assign .k) rfl (.n (.h ?_))))))); refine W.ret ?_; refine W.retn (M' := []) (D := _) (rs := [.tmp 2]) (avs := [_]) Tryz.results49 ⟨rfl, trivial⟩ rfl (.refl _) ?_
          exact ⟨congrArg AV.bool (by (rfl)), rfl⟩
theorem c_attrs1 (s : List UInt8) (h : s.length ≤ 1000) : FnP Tryz.prog 87 [.str s] (.bool (!(nameOk s))) :=  by
 refine FnC.mk Tryz.func87 (by kernel_rfl) rfl Tryz.ntmps87 rfl (fun w0 F => ?_)
 refine W.s (.r (.q (.assign .k) rfl (.n (.h (.s (.r (.mv rfl rfl ?_))))))); refine W.callp (WName.c_Name s (by omega)) ⟨(.t rfl), trivial⟩ rfl ?_; refine W.q (.not (.t rfl)) rfl (.asg rfl rfl (.n (.h ?_))); refine W.ret ?_; refine W.retn (M' := []) (D := _) (rs := [.tmp 2]) (avs := [_]) Tryz.results87 ⟨rfl, trivial⟩ rfl (.refl _) ?_
 exact ⟨rfl, rfl⟩
theorem c_attrs (l : List (List UInt8)) (h : Sch.attrsB l = true) : FnP Tryz.prog 50 [.sl 1 (l.map AV.str)] (.int 0) :=  by
 refine FnC.mk Tryz.func50 (by kernel_rfl) rfl Tryz.ntmps50 rfl (fun w0 F => ?_)
 have hll : (l.map AV.str).length = l.length := List.length_map ..
 simp only [Sch.attrsB, Bool.and_eq_true, decide_eq_true_eq] at h
 obtain ⟨⟨hall, hlen⟩, hdup⟩ := h
 have hal := List.all_eq_true.1 hall
 have hany : (l.any fun s => !(nameOk s)) = false := by rw [List.any_eq_false]; intro s hs; have := hal s hs; simp only [Bool.and_eq_true] at this; rw [this.1]; decide
 refine W.s (.r (.q (.assign .k) rfl (.n (.h (.s (.s (.r (.mv rfl rfl ?_)))))))); refine W.call (WSLib.c_ContainsFuncS l 87 [] [] (fun s => !(nameOk s)) (fun s hs => c_attrs1 s (by have := hal s hs; simp only [Bool.and_eq_true, decide_eq_true_eq] at this; exact this.2)) (by omega)) ⟨(.t rfl), .f, trivial⟩ (.refl _) rfl ?_
 rintro _ _ ⟨rfl, rfl⟩
 refine W.n (.h ?_); refine W.isb 6 false rfl (by exact hany) ?_; refine W.condF (.t rfl) (.k (.h (.s (.s (.r (.mv rfl rfl (.q (.lensl (.t rfl) Tryz.underlying26) rfl (.q (.gti (.t rfl) .k) rfl (.n (.h ?_)))))))))); refine W.isb 9 false rfl (by exact decide_eq_false (by omega)) ?_; refine W.condF (.t rfl) (.k (.h (.s (.s (.r (.mv rfl rfl (.q (.lensl (.t rfl) Tryz.underlying26) rfl ?_)))))))
 refine W.q (.move .k) rfl ?_; refine W.n ?_; refine W.h ?_; refine W.b ?_; refine W.loop (D := []) (ι := Nat) (fun i => [(12, true, .int (i : Int)), (11, true, .int ((l.map AV.str).length : Int)), (10, true, .sl 1 (l.map AV.str)), (0, true, .sl 1 (l.map AV.str))]) (fun _ => []) (fun i => i ≤ l.length) (fun i => l.length - i) 0 ⟨rfl, rfl, rfl, rfl, trivial⟩ (.refl _) (Nat.zero_le _) ?_; intro i hi
 dsimp only at hi ⊢
 rcases (show i < l.length ∨ i = l.length from by omega) with hlt | hend
 ·have hga := getD_mapG AV.str [] l i hlt
  have h1 : ((l.take i).any fun s => l.getD i [] == s) = false := by simpa using List.all_eq_true.1 hdup i (List.mem_range.2 hlt)
  refine W.s (.r (.q (.lti (.t rfl) (.t rfl)) rfl (.n (.h (.s ?_))))); refine W.isb 13 true rfl (by exact decide_eq_true (by omega)) ?_; refine W.condT (.t rfl) (.k (.h (.s (.b (.s (.r (.mv rfl rfl ?_))))))); refine W.q (.at (E := 9) (.t rfl) (.t rfl) Tryz.underlying26 ty9 (fun _ => ⟨by omega, hga⟩) rfl rfl) rfl ?_; refine W.q (.lde1 (.t rfl) ag9) rfl (.asg rfl rfl (.asg rfl rfl (.n (.h (.s (.r (.mv rfl rfl (.mv rfl rfl ?_)))))))); refine W.q (.takesl (n := i) (.t rfl) Tryz.underlying26 ty9 (.t rfl) rfl (fun _ => by omega)) rfl ?_; refine W.mv rfl rfl ?_; refine W.callp (WSLib.c_Contains (l.take i) (l.getD i []) (by rw [List.length_take]; omega)) ⟨(.t rfl), (.t rfl), trivial⟩ rfl ?_; refine W.n (.h ?_); refine W.isb 21 false rfl (by exact h1) ?_; refine W.condF (.t rfl) (.k (.bn (.h (.r (.q (.add (.t rfl) .k (fun _ => by omega)) rfl ?_)))))
  refine W.q (.move (.t rfl)) rfl ?_; refine W.n ?_; refine W.h ?_; refine W.reach (D := _) (i + 1) ⟨rfl, rfl, rfl, rfl, trivial⟩ (.refl _) ⟨by show i + 1 ≤ _; omega, by show _ - (i + 1) < _; omega⟩
 ·skip
  refine W.s (.r (.q (.lti (.t rfl) (.t rfl)) rfl (.n (.h (.s ?_))))); refine W.isb 13 false rfl (by exact decide_eq_false (by omega)) ?_; refine W.condF (.t rfl) (.ex (.he (.he (.bh (.h (.s (.r (.q (.assign .k) rfl (.n (.h ?_)))))))))); refine W.ret ?_; refine W.retn (M' := []) (D := _) (rs := [.tmp 2]) (avs := [_]) Tryz.results50 ⟨rfl, trivial⟩ rfl (.refl _) ?_
  exact ⟨rfl, rfl⟩
theorem c_lastText (ts : List Tp) (h : ts.length ≤ 1099511627776) : FnP Tryz.prog 52 [.sl 3 (ts.map tpv)] (.int (Sch.lastT ts)) :=  by
 refine FnC.mk Tryz.func52 (by kernel_rfl) rfl Tryz.ntmps52 rfl (fun w0 F => ?_)
 have hnl : (ts.map tpv).length = ts.length := List.length_map ..
 refine W.s (.r (.q (.assign .k) rfl (.n (.h (.s (.r (.q (.assign .k) rfl (.n (.h (.s (.s (.r (.mv rfl rfl (.q (.lensl (.t rfl) Tryz.underlying23) rfl ?_))))))))))))))
 refine W.q (.move .k) rfl ?_; refine W.n ?_; refine W.h ?_; refine W.b ?_; refine W.loop (D := []) (ι := Nat) (fun i => [(8, true, .int (i : Int)), (7, true, .int ((ts.map tpv).length : Int)), (6, true, .sl 3 (ts.map tpv)), (3, true, .int (Sch.lastG ts i))]) (fun _ => []) (fun i => i ≤ ts.length) (fun i => ts.length - i) 0 ⟨rfl, rfl, rfl, rfl, trivial⟩ (.refl _) (Nat.zero_le _) ?_; intro i hi
 dsimp only at hi ⊢
 rcases (show i < ts.length ∨ i = ts.length from by omega) with hlt | hend
 ·have hga := getD_mapG tpv ⟨[], [], []⟩ ts i hlt
  refine W.s (.r (.q (.lti (.t rfl) (.t rfl)) rfl (.n (.h (.s ?_))))); refine W.isb 9 true rfl (by exact decide_eq_true (by omega)) ?_; refine W.condT (.t rfl) (.k (.h (.s (.b (.s (.r (.mv rfl rfl ?_))))))); refine W.q (.at (E := 28) (.t rfl) (.t rfl) Tryz.underlying23 ty28 (fun _ => ⟨by omega, hga⟩) rfl rfl) rfl ?_; refine W.q (.lden (.t rfl) ag28 ty28 rfl rfl) rfl ?_
  refine W.alloc ty28 rfl rfl ?_; intro b5; refine W.q (.assign (.t rfl)) rfl ?_
  refine W.stb 0 (.t rfl) (.t rfl) rfl ty28 rfl rfl rfl (.n (.h (.s (.r (.q (.fab (.t rfl) fa28_0) rfl (.q (.ldb1 0 (.t rfl) rfl ag9 rfl) rfl ?_))))))
  refine W.q (.eqs (.t rfl) .k) rfl ?_; refine W.n ?_; refine W.h ?_; refine W.cond (.t rfl) (fun hc_t15 => ?_) (fun hc_t15 => ?_)
  ·have hnx : Sch.lastG ts (i + 1) = (i : Int) := by rw [Sch.lastG_succ]; exact if_pos (eq_of_beq hc_t15)
   refine W.r (.mv rfl rfl (.asg rfl rfl (.n (.bn (.h (.r (.q (.add (.t rfl) .k (fun _ => by omega)) rfl ?_)))))))
   refine W.q (.move (.t rfl)) rfl ?_; refine W.n ?_; refine W.h ?_; refine W.is (t := 3) (av' := .int (Sch.lastG ts (i + 1))) rfl (congrArg AV.int hnx.symm) ?_; refine W.reach (D := [_]) (i + 1) ⟨rfl, rfl, rfl, rfl, trivial⟩ (.refl _) ⟨by show i + 1 ≤ _; omega, by show _ - (i + 1) < _; omega⟩
  ·have hnx : Sch.lastG ts (i + 1) = Sch.lastG ts i := by rw [Sch.lastG_succ]; exact if_neg (beq_eq_false_iff_ne.1 hc_t15)
   refine W.k (.bn (.h (.r (.q (.add (.t rfl) .k (fun _ => by omega)) rfl ?_))))
   refine W.q (.move (.t rfl)) rfl ?_; refine W.n ?_; refine W.h ?_; refine W.is (t := 3) (av' := .int (Sch.lastG ts (i + 1))) rfl (congrArg AV.int hnx.symm) ?_; refine W.reach (D := [_]) (i + 1) ⟨rfl, rfl, rfl, rfl, trivial⟩ (.refl _) ⟨by show i + 1 ≤ _; omega, by show _ - (i + 1) < _; omega⟩
 ·rw [hend]
  refine W.s (.r (.q (.lti (.t rfl) (.t rfl)) rfl (.n (.h (.s ?_))))); refine W.isb 9 false rfl (by exact decide_eq_false (by omega)) ?_; refine W.condF (.t rfl) (.ex (.he (.he (.bh (.h (.s (.r (.mv rfl rfl (.asg rfl rfl (.n (.h ?_))))))))))); refine W.ret ?_; refine W.retn (M' := []) (D := _) (rs := [.tmp 2]) (avs := [_]) Tryz.results52 ⟨rfl, trivial⟩ rfl (.refl _) ?_
  exact ⟨rfl, rfl⟩
theorem c_New1 (u t : Tp) (b : Nat) : FnC Tryz.prog 48 [tpv u, .lit (.pointer (some ⟨b, 0, none⟩))] [.box b 28 [.str t.name, .str t.content, .sl 1 (t.attrs.map AV.str)]] (fun x M => x = .bool (u.name == t.name) ∧ M = [.box b 28 [.str t.name, .str t.content, .sl 1 (t.attrs.map AV.str)]]) :=  by
 refine FnC.mk Tryz.func48 (by kernel_rfl) rfl Tryz.ntmps48 rfl (fun w0 F => ?_)
 refine W.s ?_; refine W.r ?_; refine W.box (.t rfl) rfl rfl ?_; intro b2; refine W.q (.assign .k) rfl ?_; refine W.n ?_; refine W.h ?_; refine W.s ?_; refine W.r ?_
 refine W.q (.fab (.t rfl) fa28_0) rfl (.q (.ldb1 0 (.t rfl) rfl ag9 rfl) rfl (.q (.fab (.t rfl) fa28_0) rfl (.q (.ldb1 1 (.t rfl) rfl ag9 rfl) rfl (.q (.eqs (.t rfl) (.t rfl)) rfl (.asg rfl rfl (.n (.h ?_))))))); refine W.ret ?_; refine W.retn (M' := [.box b 28 _]) (D := [_]) (rs := [.tmp 3]) (avs := [_]) Tryz.results48 ⟨rfl, trivial⟩ rfl (List.Perm.swap _ _ []) ?_
 exact ⟨rfl, rfl⟩
theorem c_New2 (n : Int) : FnP Tryz.prog 55 [.int n] (.bool (n == 0 || decide (150 < n))) :=  by
 refine FnC.mk Tryz.func55 (by kernel_rfl) rfl Tryz.ntmps55 rfl (fun w0 F => ?_)
 refine W.s (.r (.q (.assign .k) rfl (.n (.h (.s (.r (.mv rfl rfl (.q (.eqi (.t rfl) .k) rfl (.mv rfl rfl (.qgF rfl rfl (.move (.t rfl)) rfl (.qgF rfl rfl (.gti (.c rfl) .k) rfl ?_))))))))))); refine W.q (.or (.t rfl) ⟨_, _, rfl, rfl, by ((simp; done))⟩) rfl ?_; refine W.asg rfl rfl (.n (.h ?_)); refine W.ret ?_; refine W.retn (M' := []) (rs := [.tmp 2]) (avs := [_]) Tryz.results55 ⟨rfl, trivial⟩ rfl (.refl _) ?_
 exact ⟨rfl, rfl⟩
end WSPart
end Go.Proofs.YtphlkdbglpcikaaGreatDoor
end
section
namespace Go.Proofs.YtphlkdbglpcikaaGreatDoor
open Go.Vl
open Y
namespace WNew
theorem c_New (ts : List Tp) (as_ : List Au) (hg : Sch.Good ts as_) (fin : List Int) (hfin : Sch.sizesOf ts as_ = some fin) (hall : (fin.any fun n => n == 0 || decide (150 < n)) = false) (M0 : List ME) (hI : ∀ n : Int, -1 ≤ n → n < 100 → FnC Tryz.prog 107 [.int n] M0 (fun r M => r = .str (itoa n) ∧ M = M0)) : FnC Tryz.prog 30 [.sl 3 (ts.map tpv)] M0 (fun r M => ∃ b, r = .tup [.lit (.pointer (some ⟨b, 0, none⟩)), .int 0] ∧ M = .box b 76 [.sl 3 (ts.map tpv), .sl 2 (as_.map Au.avx), .sl 1 (fin.map AV.int)] :: M0) :=  by
 refine FnC.mk Tryz.func30 (by kernel_rfl) rfl Tryz.ntmps30 rfl (fun w0 F => ?_)
 have hnl : (ts.map tpv).length = ts.length := List.length_map ..
 have hlen := hg.len
 have hpos := hg.pos
 have hfl : fin.length ≤ 8 := by
  have := Sch.mso_len 10 _ _ hfin
  rw [List.length_replicate] at this; omega
 refine W.s (.r (.q (.assign .k) rfl (.q (.assign .k) rfl (.n (.h (.s (.s (.r (.mv rfl rfl (.q (.lensl (.t rfl) Tryz.underlying23) rfl (.q (.lti (.t rfl) .k) rfl (.mv rfl rfl (.qgF rfl rfl (.move (.t rfl)) rfl (.qgF rfl rfl (.lensl (.c rfl) Tryz.underlying23) rfl ?_))))))))))))))
 refine W.qgF rfl rfl (.gti (.c rfl) .k) rfl ?_; refine W.q (.or (.t rfl) ⟨_, _, rfl, rfl, by ((simp; done))⟩) rfl ?_; refine W.n ?_; refine W.h ?_; refine W.isb 17 false rfl (by simp; omega) ?_; refine W.condF (.t rfl) ?_; refine W.k ?_; refine W.h ?_; refine W.s ?_; refine W.r ?_; refine W.q (.move (.t rfl)) rfl ?_; refine W.q (.build ty76 st76 rfl (fun hg => ⟨_, _, _, rfl, (.t rfl), rfl, rfl, rfl, rfl⟩)) rfl ?_; refine W.box (.t rfl) rfl rfl ?_; intro b20; refine W.q (.assign (.t rfl)) rfl ?_; refine W.n ?_; refine W.h ?_; refine W.s ?_; refine W.s ?_; refine W.r ?_; refine W.q (.move (.t rfl)) rfl ?_
 refine W.q (.lensl (.t rfl) Tryz.underlying23) rfl (.q (.move .k) rfl (.n (.h (.b ?_)))); refine W.own_nil 62 2 ?_; refine W.loop (D := []) (ι := Nat × Value) (fun z => [(23, true, .int (z.1 : Int)), (22, true, .int ((ts.map tpv).length : Int)), (21, true, .sl 3 (ts.map tpv)), (0, true, .sl 3 (ts.map tpv)), (4, true, .lit (.pointer (some ⟨b20, 0, none⟩)))]) (fun z => .arr z.2 62 2 ((as_.take z.1).map Au.avx) :: .box b20 76 [.sl 3 (ts.map tpv), .lit z.2, .lit (.slice none 0 0)] :: M0) (fun z => z.1 ≤ ts.length) (fun z => ts.length - z.1) (0, .slice none 0 0) ⟨rfl, rfl, rfl, rfl, rfl, trivial⟩ (by rw [List.append_nil]; exact .refl _) (Nat.zero_le _) ?_
 rintro ⟨i, va⟩ hi
 dsimp only at hi ⊢
 rcases (show i < ts.length ∨ i = ts.length from by omega) with hlt | hend
 ·have hgt := getD_mapG tpv Sch.dT ts i hlt
  have hname := hg.name i hlt
  have hone := hg.one i hlt
  have hform := hg.form i hlt
  have hattr := hg.attrs i hlt
  obtain ⟨k, hk, htc, hAk, hfi⟩ := hg.mach i hlt
  have kw := Sch.known k hk
  have htk := take_getDG Sch.dA as_ i (by have := hg.has; omega)
  rw [hAk] at htk
  generalize ts.getD i Sch.dT = t at hgt hname hone hform hattr htc
  obtain ⟨A, hA⟩ : ∃ A, Sch.auk k = A := ⟨_, rfl⟩
  have kw1 := kw.ord
  have hM := WMach.c_machine (Sch.itk k) [] kw.oks trivial t.content (by rw [htc]; exact (List.append_nil _).symm) (by rw [htc]; exact kw.len) (by have := kw.lv; simp only [It.anl]; omega) (Sch.auk k) kw.ord kw.acc kw.n32 ts.length hg.len (Sch.lastT ts) (by have := Sch.lastG_rng ts ts.length; have := hg.len; unfold Sch.lastT; omega) hfi M0 hI
  rw [hA] at htk hM
  rw [show ((ts.length : Nat) : Int) = ((ts.map tpv).length : Int) from by rw [hnl]] at hM
  refine W.s (.r (.q (.lti (.t rfl) (.t rfl)) rfl (.n (.h (.s ?_))))); refine W.isb 24 true rfl (by exact decide_eq_true (by omega)) ?_; refine W.condT (.t rfl) (.k (.h (.s (.b (.s (.r (.mv rfl rfl ?_))))))); refine W.q (.at (E := 28) (.t rfl) (.t rfl) Tryz.underlying23 ty28 (fun _ => ⟨by omega, hgt⟩) rfl rfl) rfl ?_; refine W.q (.lden (.t rfl) ag28 ty28 rfl rfl) rfl ?_
  refine W.alloc ty28 rfl rfl ?_; intro b6; refine W.q (.assign (.t rfl)) rfl ?_
  refine W.stb 0 (.t rfl) (.t rfl) rfl ty28 rfl rfl rfl (.n (.h (.s (.b (.s (.r (.q (.fab (.t rfl) fa28_0) rfl (.q (.ldb1 0 (.t rfl) rfl ag9 rfl) rfl (.q (.nes (.t rfl) .k) rfl (.mv rfl rfl (.qgT rfl rfl (.fab (.t rfl) fa28_0) rfl (.qgT rfl rfl (.ldb1 0 (.c rfl) rfl ag9 rfl) rfl ?_)))))))))))); refine W.callgT (Min := []) (caps := []) (avs := [_]) rfl rfl (fun hg => WName.c_Name t.name (by omega)) (fun hg => .f) (fun hg => ⟨(.i rfl (fun _ => hg)), trivial⟩) rfl (.refl _) rfl ?_; refine W.qgT rfl rfl (.not (.c rfl)) rfl ?_; refine W.q (.and (.t rfl) ⟨_, _, rfl, rfl, by ((simp; done))⟩) rfl ?_; refine W.asg rfl rfl (.n (.h ?_)); refine W.isb 28 false rfl (by rcases hname.2 with h | h; simp [h]; simp [h]) ?_; refine W.condF (.t rfl) (.s (.r (.mv rfl rfl (.mv rfl rfl ?_)))); refine W.q (.takesl (n := i) (.t rfl) Tryz.underlying23 ty28 (.t rfl) rfl (fun _ => by omega)) rfl ?_; refine W.q (.mkfn (caps := [.tmp 6]) (vs := [_]) ⟨(.t rfl), trivial⟩) rfl ?_; refine W.call (WSLib.c_ContainsFuncY (ts.take i) 48 [.pointer (some ⟨b6, 0, none⟩)] [.box b6 28 [.str t.name, .str t.content, .sl 1 (t.attrs.map AV.str)]] (fun u => u.name == t.name) (fun u _ => WSPart.c_New1 u t b6) (by rw [List.length_take]; omega)) ⟨(.t rfl), (.t rfl), trivial⟩ (.refl _) rfl ?_
  rintro _ _ ⟨rfl, rfl⟩
  refine W.asg rfl rfl (.n (.h ?_)); refine W.isb 38 false rfl (by exact hone) ?_; refine W.condF (.t rfl) (.s (.r (.q (.ldbn 0 (.t rfl) rfl ag28 ty28 rfl) rfl ?_))); refine W.callp (WSPart.c_form t hform) ⟨(.t rfl), trivial⟩ rfl ?_; refine W.q (.not (.t rfl)) rfl (.asg rfl rfl (.n (.h (.isb 44 false rfl (by rfl) (.condF (.t rfl) (.k (.bn (.h (.s (.s (.r (.q (.fab (.t rfl) fa28_2) rfl (.q (.ldb1 0 (.t rfl) rfl ag26 rfl) rfl ?_))))))))))))); refine W.callp (WSPart.c_attrs t.attrs hattr) ⟨(.t rfl), trivial⟩ rfl ?_; refine W.asg rfl rfl (.n (.h (.s (.r (.mv rfl rfl (.q (.nei (.t rfl) .k) rfl (.n (.h (.isb 52 false rfl (by rfl) (.condF (.t rfl) (.k (.h (.s ?_))))))))))))); refine W.drawnM (fun ee c_ => [.box b6 28 [.str t.name, .str t.content, .sl 1 (t.attrs.map AV.str)], .arr va 62 2 ((as_.take i).map Au.avx), .box b20 76 [.sl 3 (ts.map tpv), .lit va, .lit (.slice none 0 0)]] ++ ((bif ee 10 then [ME.box (c_ 10).1 62 (bif ee 11 then [.sl 1 (A.next.map pav), .sl 1 (A.final.map AV.bool)] else [.lit (.slice none 0 0), .lit (.slice none 0 0)])] else []) ++ M0)) (c0 := ks0) (by kernel_rfl) (by kernel_rfl) rfl ?_
  have hPm : ∀ (e : Nat → Bool) (c_ : Ks), ∃ Mr, List.Perm ((fun ee c_ => [.box b6 28 [.str t.name, .str t.content, .sl 1 (t.attrs.map AV.str)], .arr va 62 2 ((as_.take i).map Au.avx), .box b20 76 [.sl 3 (ts.map tpv), .lit va, .lit (.slice none 0 0)]] ++ ((bif ee 10 then [ME.box (c_ 10).1 62 (bif ee 11 then [.sl 1 (A.next.map pav), .sl 1 (A.final.map AV.bool)] else [.lit (.slice none 0 0), .lit (.slice none 0 0)])] else []) ++ M0)) e c_) (M0 ++ Mr) := fun e c_ => by
   dsimp only
   rw [← List.append_assoc]
   exact ⟨_, List.perm_append_comm⟩
  refine DM.q (fun e c hk => (.fab (.t rfl) fa28_1)) rfl (fun _ _ => rfl) (fun _ _ _ => rfl) (.q (fun e c hk => (.ldb1 0 (.t rfl) rfl ag9 rfl)) rfl (fun _ _ => rfl) (fun _ _ _ => rfl) (.q (fun e c hk => (.move (.t rfl))) rfl (fun _ _ => rfl) (fun _ _ _ => rfl) (.q (fun e c hk => (.lensl (.t rfl) Tryz.underlying23)) rfl (fun _ _ => rfl) (fun _ _ _ => rfl) ?_)))
  refine DM.q (fun e c hk => (.move (.t rfl))) rfl (fun _ _ => rfl) (fun _ _ _ => rfl) ?_; refine DM.callp (fun c => WSPart.c_lastText ts (by omega)) (fun c => ⟨(.t rfl), trivial⟩) rfl (fun _ _ => rfl) (fun _ _ _ => rfl) ?_; refine DM.callm (fun c => hM) (fun e c => hPm e c) (fun c => ⟨(.t rfl), (.t rfl), (.t rfl), trivial⟩) rfl (fun _ _ => rfl) (fun _ _ _ => rfl) ?_; refine DM.q (fun e c hk => (.move (.t rfl))) rfl (fun _ _ => rfl) (fun _ _ _ => rfl) ?_; refine DM.q (fun e c hk => (.extract (.t rfl) rfl)) rfl (fun _ _ => rfl) (fun _ _ _ => rfl) ?_; refine DM.q (fun e c hk => (.extract (.t rfl) rfl)) rfl (fun _ _ => rfl) (fun _ _ _ => rfl) ?_; refine DM.eff1 (av := fun c => .lit (.pointer (some ⟨(c 10).1, 0, none⟩))) rfl (fun c c_ h => by (simp only [h 10 (by (exact .inl rfl))])) (fun e c hk L_ hs Q h => ?_) ?_
  ·have hk_10 := hk.not
   have hk_11 := hk.down 11 (by kernel_rfl)
   simp only [addE, upd, eq_self, List.nil_append, List.cons_append, List.append_nil, hk_10, hk_11, Nat.reduceAdd, Nat.reduceEqDiff, ↓reduceIte, cond_true, cond_false] at h ⊢
   exact W.alloc ty62 rfl rfl (fun b => h (b, undef) _ (by (exact (List.perm_middle (l₁ := [_, _, _])).symm)))
  refine DM.eff0 (fun e c hk L_ hs Q h => ?_) ?_
  ·have hk_11 := hk.not
   have hk_10 := hk.up 10 (by kernel_rfl)
   simp only [addE, upd, eq_self, List.nil_append, List.cons_append, List.append_nil, hk_11, hk_10, Nat.reduceAdd, Nat.reduceEqDiff, ↓reduceIte, cond_true, cond_false] at h ⊢
   ((refine W.stb 3 (.t (hs _ _ rfl)) (.t (hs _ _ rfl)) rfl ty62 rfl rfl rfl ?_; exact h))
  refine DM.q (fun e c hk => (.assign (.t rfl))) rfl (fun _ _ => rfl) (fun _ _ _ => rfl) ?_; refine DM.nil (fun cc e_ he_ => ?_)
  simp only [he_ 10 (by decide), he_ 11 (by decide), cond_true, cond_false]
  generalize (cc 10).1 = b8
  refine W.perm (M' := .arr va 62 2 ((as_.take i).map Au.avx) :: .box b20 76 [.sl 3 (ts.map tpv), .lit va, .lit (.slice none 0 0)] :: .box b8 62 [.sl 1 (A.next.map pav), .sl 1 (A.final.map AV.bool)] :: .box b6 28 [.str t.name, .str t.content, .sl 1 (t.attrs.map AV.str)] :: M0) ?_ ?_
  ·exact (List.perm_middle (l₁ := [_])).trans (List.Perm.cons _ ((List.perm_middle (l₁ := [_])).trans (List.Perm.cons _ (List.perm_middle (l₁ := [_])))))
  refine W.h (.s (.s (.r (.mv rfl rfl (.q (.nei (.t rfl) .k) rfl (.n (.h (.isb 65 false rfl (by rfl) (.condF (.t rfl) (.k (.h ?_))))))))))); refine W.drawnE (ι := Value) (fun ee c => (bif ee 7 then ME.arr c 62 2 (((as_.take i).map Au.avx) ++ [A.avx]) else ME.arr va 62 2 ((as_.take i).map Au.avx)) :: ME.box b20 76 [.sl 3 (ts.map tpv), bif ee 10 then .lit c else .lit va, .lit (.slice none 0 0)] :: .box b8 62 [.sl 1 (A.next.map pav), .sl 1 (A.final.map AV.bool)] :: .box b6 28 [.str t.name, .str t.content, .sl 1 (t.attrs.map AV.str)] :: M0) 7 va (by kernel_rfl) (by kernel_rfl) rfl ?_; refine DE.q (fun e c hk => (.move (.t rfl))) rfl (fun _ _ => rfl) (.inr fun _ _ => rfl) (.q (fun e c hk => (.move (.t rfl))) rfl (fun _ _ => rfl) (.inr fun _ _ => rfl) (.q (fun e c hk => (.nilc (.t rfl))) rfl (fun _ _ => rfl) (.inr fun _ _ => rfl) (.q (fun e c hk => (.fab (.t rfl) fa76_1)) rfl (fun _ _ => rfl) (.inr fun _ _ => rfl) ?_))); refine DE.q (av := fun _ => .lit va) (fun e c hk => by have h := hk.down 10 (by kernel_rfl); simp only [h, cond_false]; exact Ev.ldb1 1 (.t rfl) rfl ag74 rfl) rfl (fun _ _ => rfl) (.inr fun _ _ => rfl) ?_; refine DE.q (fun e c hk => (.ldbn 2 (.t rfl) rfl ag62 ty62 rfl)) rfl (fun _ _ => rfl) (.inr fun _ _ => rfl) ?_
  refine DE.bs (es := fun _ => [_]) Tryz.underlying74 ty62 (fun c => ⟨rfl, (.t rfl), rfl, rfl, trivial⟩) (fun _ => rfl) (by decide) rfl rfl (fun _ _ => rfl) (.inr fun _ _ => rfl) ?_; refine DE.eff1 (av := fun v => .lit v) rfl rfl (fun e c hk L_ hs Q h => ?_) ?_
  ·have hk_7 := hk.not
   have hk_10 := hk.down 10 (by kernel_rfl)
   simp only [addE, hk_7, hk_10, Nat.reduceAdd, Nat.reduceEqDiff, ↓reduceIte, cond_true, cond_false] at h ⊢
   ((refine W.app 0 (.t (hs _ _ rfl)) rfl (.sl (.t (hs _ _ rfl)) (by intro e he; rw [List.mem_singleton.1 he]; rfl)) Tryz.underlying74 ni74 ty62 rfl rfl (by rw [List.length_map, List.length_take]; simp only [List.length_cons, List.length_nil]; omega) rfl ?_; exact h))
  refine DE.q (fun e c hk => (.nilc (.t rfl))) rfl (fun _ _ => rfl) (.inr fun _ _ => rfl) (.q (fun e c hk => (.fab (.t rfl) fa76_1)) rfl (fun _ _ => rfl) (.inr fun _ _ => rfl) ?_)
  refine DE.eff0 (fun e c hk L_ hs Q h => ?_) ?_
  ·have hk_10 := hk.not
   have hk_7 := hk.up 7 (by kernel_rfl)
   simp only [addE, hk_10, hk_7, Nat.reduceAdd, Nat.reduceEqDiff, ↓reduceIte, cond_true, cond_false] at h ⊢
   refine W.arr_inv 0 rfl (fun a9 n9 c9 h9 => ?_)
   subst h9
   refine W.stb 1 (.t (hs _ _ rfl)) (.t (hs _ _ rfl)) rfl ty74 rfl rfl rfl ?_
   exact h
  refine DE.nil (fun v74 e_ he_ => ?_)
  simp only [he_ 7 (by decide), he_ 10 (by decide), cond_true, cond_false]
  refine W.bn (.h (.r (.q (.add (.t rfl) .k (fun _ => by omega)) rfl ?_)))
  refine W.q (.move (.t rfl)) rfl ?_; refine W.n ?_; refine W.h ?_; refine W.reach (D := [.box b8 62 [.sl 1 (A.next.map pav), .sl 1 (A.final.map AV.bool)], .box b6 28 [.str t.name, .str t.content, .sl 1 (t.attrs.map AV.str)]]) (i + 1, v74) ⟨rfl, rfl, rfl, rfl, rfl, trivial⟩ ?_ ⟨hlt, by show ts.length - (i + 1) < ts.length - i; omega⟩
  dsimp only
  rw [htk, List.map_append]
  exact List.Perm.cons _ (List.Perm.cons _ (List.perm_append_comm (l₁ := [_, _])))
 ·subst hend
  rw [List.take_of_length_le (by have := hg.has; omega)]
  refine W.s (.r (.q (.lti (.t rfl) (.t rfl)) rfl (.n (.h (.s ?_))))); refine W.isb 24 false rfl (by exact decide_eq_false (by omega)) ?_; refine W.condF (.t rfl) (.ex (.he (.he (.bh (.h (.s (.r ?_))))))); refine W.freezeA (M1 := .box b20 76 [.sl 3 (ts.map tpv), .lit va, .lit (.slice none 0 0)] :: M0) (M2 := .box b20 76 [.sl 3 (ts.map tpv), .sl 2 (as_.map Au.avx), .lit (.slice none 0 0)] :: M0) (D := []) (v := va) (L' := []) (by ((rw [List.append_nil]; done))) trivial ⟨.box ⟨.refl _, .hit, .refl _, trivial⟩, FrzMs.refl _⟩ ?_; refine W.mv rfl rfl ?_; refine W.call (WMeas.c_measure b20 ts as_ hg.has hg.sh (by omega) fin hfin) ⟨(.t rfl), trivial⟩ (.refl _) rfl ?_
  rintro _ _ ⟨rfl, vs, rfl⟩
  refine W.freezeA (M1 := .box b20 76 [.sl 3 (ts.map tpv), .sl 2 (as_.map Au.avx), .lit vs] :: M0) (M2 := .box b20 76 [.sl 3 (ts.map tpv), .sl 2 (as_.map Au.avx), .sl 1 (fin.map AV.int)] :: M0) (D := []) (v := vs) (L' := []) (by rw [List.append_nil]; exact List.Perm.swap _ _ _) trivial ⟨.box ⟨.refl _, .refl _, .hit, trivial⟩, FrzMs.refl _⟩ ?_; refine W.n (.h (.s (.s (.r (.mv rfl rfl (.q (.nilc (.t rfl)) rfl (.q (.fab (.t rfl) fa76_2) rfl (.q (.ldb1 0 (.t rfl) rfl ag22 rfl) rfl ?_)))))))); refine W.call (WConts.c_ContainsFuncI fin 55 [] [] (fun n => n == 0 || decide (150 < n)) (fun n _ => WSPart.c_New2 n) (by omega)) ⟨(.t rfl), .f, trivial⟩ (.refl _) rfl ?_
  rintro _ _ ⟨rfl, rfl⟩
  refine W.n (.h ?_); refine W.isb 84 false rfl (by exact hall) ?_; refine W.condF (.t rfl) (.k (.h (.s (.r (.mv rfl rfl (.asg rfl rfl (.q (.assign .k) rfl (.n (.h ?_))))))))); refine W.ret ?_; refine W.retn (M' := (.box b20 76 [.sl 3 (ts.map tpv), .sl 2 (as_.map Au.avx), .sl 1 (fin.map AV.int)] :: M0)) (D := []) (rs := [.tmp 2, .tmp 3]) (avs := [_, _]) Tryz.results30 ⟨rfl, rfl, trivial⟩ rfl (by rw [List.append_nil]; exact .refl _) ?_
  exact ⟨b20, rfl, rfl⟩
end WNew
end Go.Proofs.YtphlkdbglpcikaaGreatDoor
end
section
namespace Go.Proofs.YtphlkdbglpcikaaGreatDoor
open Go.Vl
open Y
namespace WFit
theorem c_fault1 (ts : List Tp) (k : Int) (b3 : Nat) : FnC Tryz.prog 57 [.int k, .lit (.pointer (some ⟨b3, 0, none⟩))] [.box b3 23 [.sl 3 (ts.map tpv)]] (fun r M => r = .bool (decide (k < 0) || decide ((ts.length : Int) ≤ k)) ∧ M = [.box b3 23 [.sl 3 (ts.map tpv)]]) :=  by
 refine FnC.mk Tryz.func57 (by kernel_rfl) rfl Tryz.ntmps57 rfl (fun w0 F => ?_)
 refine W.s (.r (.q (.assign .k) rfl (.n (.h (.s (.r (.mv rfl rfl (.q (.lti (.t rfl) .k) rfl (.mv rfl rfl (.qgF rfl rfl (.move (.t rfl)) rfl (.qgF rfl rfl (.ldb1 0 (.t rfl) rfl ag23 rfl) rfl (.qgF rfl rfl (.lensl (.c rfl) Tryz.underlying23) rfl (.qgF rfl rfl (.gei (.c rfl) (.c rfl)) rfl ?_))))))))))))); refine W.q (.or (.t rfl) ⟨_, _, rfl, rfl, by ((simp; done))⟩) rfl ?_; refine W.asg rfl rfl (.n (.h ?_)); refine W.ret ?_; refine W.retn (M' := [.box b3 23 [.sl 3 (ts.map tpv)]]) (D := []) (rs := [.tmp 3]) (avs := [_]) Tryz.results57 ⟨rfl, trivial⟩ rfl (.refl _) ?_
 exact ⟨congrArg AV.bool (by rw [List.length_map]), rfl⟩
theorem c_fault (ts : List Tp) (as_ : List Au) (hg : Sch.Good ts as_) (fin : List Int) (hfin : Sch.sizesOf ts as_ = some fin) (hall : (fin.any fun n => n == 0 || decide (150 < n)) = false) (M0 : List ME) (hI : ∀ n : Int, -1 ≤ n → n < 100 → FnC Tryz.prog 107 [.int n] M0 (fun r M => r = .str (itoa n) ∧ M = M0)) (t : Nat) (ht : t < ts.length) (hnm : (ts.getD t Sch.dT).name ≠ []) (ks : List Nat) (hks : ks.length ≤ 40) (hkt : ∀ k ∈ ks, k < ts.length) : FnC Tryz.prog 32 [.sl 3 (ts.map tpv), .int (t : Int), .sl 1 (ks.map fun k : Nat => AV.int (k : Int))] M0 (fun r M => ∃ b, r = .tup [.lit (.pointer (some ⟨b, 0, none⟩)), .int 0] ∧ M = .box b 76 [.sl 3 (ts.map tpv), .sl 2 (as_.map Au.avx), .sl 1 (fin.map AV.int)] :: M0) :=  by
 refine FnC.mk Tryz.func32 (by kernel_rfl) rfl Tryz.ntmps32 rfl (fun w0 F => ?_)
 have hnl : (ts.map tpv).length = ts.length := List.length_map ..
 have hlen7 : (ks.map fun k : Nat => AV.int (k : Int)).length = ks.length := List.length_map ..
 have hgt := getD_mapG tpv Sch.dT ts t ht
 have hne : ((ts.getD t Sch.dT).name == []) = false := beq_eq_false_iff_ne.2 hnm
 have hany : ((ks.map fun k : Nat => (k : Int)).any fun k => decide (k < 0) || decide ((ts.length : Int) ≤ k)) = false := by
  rw [List.any_eq_false]
  intro k hk
  obtain ⟨q, hq, rfl⟩ := List.mem_map.1 hk
  have := hkt q hq
  simp; omega
 refine W.s ?_; refine W.r ?_; refine W.box (.t rfl) rfl rfl ?_; intro b3; refine W.q (.assign .k) rfl ?_; refine W.q (.assign .k) rfl ?_; refine W.n ?_; refine W.h ?_; refine W.s ?_; refine W.r ?_
 refine W.q (.ldb1 0 (.t rfl) rfl ag23 rfl) rfl ?_; refine W.call (WNew.c_New ts as_ hg fin hfin hall M0 hI) ⟨(.t rfl), trivial⟩ ((List.perm_append_comm (l₁ := [_]))) rfl ?_
 rintro _ M' ⟨b9, rfl, hM'⟩
 rw [hM']
 refine W.perm (M' := .box b3 23 [.sl 3 (ts.map tpv)] :: .box b9 76 [.sl 3 (ts.map tpv), .sl 2 (as_.map Au.avx), .sl 1 (fin.map AV.int)] :: M0) (List.perm_append_comm (l₂ := [_])) ?_; refine W.mv rfl rfl (.q (.extract (.t rfl) rfl) rfl (.q (.extract (.t rfl) rfl) rfl (.asg rfl rfl (.asg rfl rfl (.n (.h (.s (.b (.s (.r (.mv rfl rfl (.q (.nei (.t rfl) .k) rfl (.asg rfl rfl (.n (.h (.isb 15 false rfl (by rfl) (.condF (.t rfl) (.s (.r (.mv rfl rfl (.q (.lensl (.t rfl) Tryz.underlying22) rfl (.q (.gti (.t rfl) .k) rfl (.asg rfl rfl ?_))))))))))))))))))))))); refine W.n (.h ?_); refine W.isb 19 false rfl (by exact decide_eq_false (by omega)) ?_; refine W.condF (.t rfl) (.s (.r (.mv rfl rfl (.q (.lti (.t rfl) .k) rfl (.mv rfl rfl (.qgF rfl rfl (.move (.t rfl)) rfl (.qgF rfl rfl (.ldb1 0 (.t rfl) rfl ag23 rfl) rfl (.qgF rfl rfl (.lensl (.c rfl) Tryz.underlying23) rfl (.qgF rfl rfl (.gei (.c rfl) (.c rfl)) rfl ?_))))))))); refine W.q (.or (.t rfl) ⟨_, _, rfl, rfl, by ((simp; done))⟩) rfl ?_; refine W.mv rfl rfl (.qgF rfl rfl (.ldb1 0 (.t rfl) rfl ag23 rfl) rfl (.qgF rfl rfl (.move (.t rfl)) rfl ?_)); refine W.qgF rfl rfl (.at (E := 28) (.c rfl) (.c rfl) Tryz.underlying23 ty28 (fun hg => ⟨by omega, hgt⟩) rfl rfl) rfl ?_; refine W.qgF rfl rfl (.fae (.c rfl) fa28_0 rfl) rfl (.qgF rfl rfl (.lde1 (.c rfl) ag9) rfl (.qgF rfl rfl (.eqs (.c rfl) .k) rfl ?_)); refine W.q (.or (.t rfl) ⟨_, _, rfl, rfl, by ((simp; done))⟩) rfl ?_; refine W.asg rfl rfl (.n (.h ?_)); refine W.isb 23 false rfl (by rw [hne]; simp; omega) ?_; refine W.condF (.t rfl) (.s (.r (.mv rfl rfl ?_))); refine W.is (t := 41) (av' := .sl 1 ((ks.map fun k : Nat => (k : Int)).map AV.int)) rfl (congrArg (AV.sl 1) (by rw [List.map_map]; rfl)) ?_; refine W.q (.mkfn (caps := [.tmp 3]) (vs := [_]) ⟨(.t rfl), trivial⟩) rfl ?_; refine W.call (WConts.c_ContainsFuncI (ks.map fun k : Nat => (k : Int)) 57 [.pointer (some ⟨b3, 0, none⟩)] [.box b3 23 [.sl 3 (ts.map tpv)]] (fun k => decide (k < 0) || decide ((ts.length : Int) ≤ k)) (fun k _ => c_fault1 ts k b3) (by rw [List.length_map]; omega)) ⟨(.t rfl), (.t rfl), trivial⟩ (.refl _) rfl ?_
 rintro _ _ ⟨rfl, rfl⟩
 refine W.asg rfl rfl (.n (.h ?_)); refine W.isb 40 false rfl (by exact hany) ?_; refine W.condF (.t rfl) (.k (.bn (.h (.s (.r (.mv rfl rfl (.asg rfl rfl (.q (.assign .k) rfl (.n (.h ?_)))))))))); refine W.ret ?_; refine W.retn (M' := (.box b9 76 [.sl 3 (ts.map tpv), .sl 2 (as_.map Au.avx), .sl 1 (fin.map AV.int)] :: M0)) (D := [_]) (rs := [.tmp 6, .tmp 7]) (avs := [_, _]) Tryz.results32 ⟨rfl, rfl, trivial⟩ rfl (List.perm_append_comm (l₁ := [_])) ?_
 exact ⟨b9, rfl, rfl⟩
theorem c_Cost (ts : List Tp) (as_ : List Au) (hg : Sch.Good ts as_) (fin : List Int) (hfin : Sch.sizesOf ts as_ = some fin) (hall : (fin.any fun n => n == 0 || decide (150 < n)) = false) (hpos : ∀ n ∈ fin, 1 ≤ n ∧ n ≤ 150) (M0 : List ME) (hI : ∀ n : Int, -1 ≤ n → n < 100 → FnC Tryz.prog 107 [.int n] M0 (fun r M => r = .str (itoa n) ∧ M = M0)) (t : Nat) (ht : t < ts.length) (hnm : (ts.getD t Sch.dT).name ≠ []) (ks : List Nat) (hks : ks.length ≤ 40) (hkt : ∀ k ∈ ks, k < ts.length) : FnC Tryz.prog 19 [.sl 3 (ts.map tpv), .int (t : Int), .sl 1 (ks.map fun k : Nat => AV.int (k : Int))] M0 (fun r M => (∃ rows, Fit.Opt (as_.getD t Sch.dA) fin ks rows ∧ r = .tup [.int (Fit.cel rows 0 0).d, .int (Fit.cel rows 0 0).f, .int 0]) ∧ M = M0) :=  by
 refine FnC.mk Tryz.func19 (by kernel_rfl) rfl Tryz.ntmps19 rfl (fun w0 F => ?_)
 have hlen8 := hg.len
 have hsl : fin.length = ts.length := by
  have := Sch.mso_len 10 _ _ hfin
  rwa [List.length_replicate] at this
 have gf := Fit.gf_of hg hsl hpos ht
 have hk8 : ∀ k ∈ ks, k < 8 := fun k hk => by have := hkt k hk; omega
 have hF := c_fault ts as_ hg fin hfin hall M0 hI t ht hnm ks hks hkt
 refine W.s (.r (.q (.assign .k) rfl (.q (.assign .k) rfl (.q (.assign .k) rfl (.n (.h (.s (.r (.mv rfl rfl (.mv rfl rfl (.mv rfl rfl ?_))))))))))); refine W.call (hF) ⟨(.t rfl), (.t rfl), (.t rfl), trivial⟩ ((by ((rw [List.append_nil]; done)))) rfl ?_
 rintro _ M' ⟨b, rfl, hM'⟩
 rw [hM', List.append_nil]
 refine W.mv rfl rfl (.q (.extract (.t rfl) rfl) rfl (.q (.extract (.t rfl) rfl) rfl (.asg rfl rfl (.asg rfl rfl (.n (.h (.s (.s (.r (.mv rfl rfl (.q (.nei (.t rfl) .k) rfl (.n (.h (.isb 19 false rfl (by rfl) (.condF (.t rfl) (.k (.h (.s (.r (.mv rfl rfl (.mv rfl rfl (.mv rfl rfl ?_)))))))))))))))))))))); refine W.call (WFPlan.c_plan b ts as_ fin (as_.getD t Sch.dA) gf.sh gf.n32 gf.sz gf.col t gf.at_ ks (by omega) hk8) ⟨(.t rfl), (.t rfl), (.t rfl), trivial⟩ (.refl _) rfl ?_
 rintro _ _ ⟨p, rows, ho, rfl, rfl⟩
 have hrl := ho.len
 have hg0 := getD_mapG Fit.rowv [] rows 0 (by omega)
 have hr0 := ho.row 0 (Nat.zero_le _)
 have hps := gf.sh.pos
 have hg1 : ((rows.getD 0 []).map Fit.ctv)[0]? = some (Fit.ctv (Fit.cel rows 0 0)) := Fit.getD_ctv _ 0 (by omega)
 have hrl0 : (rows.map Fit.rowv).length = rows.length := List.length_map ..
 have hr1 : ((rows.getD 0 []).map Fit.ctv).length = (rows.getD 0 []).length := List.length_map ..
 refine W.q (.nilc (.t rfl)) rfl (.q (.fab (.t rfl) fa86_3) rfl (.q (.ldb1 0 (.t rfl) rfl ag84 rfl) rfl ?_)); refine W.q (.at (E := 83) (.t rfl) .k Tryz.underlying84 ty83 (fun hg => ⟨by omega, hg0⟩) rfl rfl) rfl ?_; refine W.q (.lde1 (.t rfl) ag83) rfl ?_; refine W.q (.at (E := 82) (.t rfl) .k Tryz.underlying83 ty82 (fun hg => ⟨by omega, hg1⟩) rfl rfl) rfl ?_; refine W.q (.lden (.t rfl) ag82 ty82 rfl rfl) rfl ?_
 refine W.alloc ty82 rfl rfl ?_; intro b10
 refine W.stb 0 (.t rfl) (.t rfl) rfl ty82 rfl rfl rfl (.n (.h (.s ?_))); refine W.drawnE (ι := Unit) (fun _ _ => _) 9 () (by kernel_rfl) (by kernel_rfl) rfl ?_; refine DE.q (fun e c hk => (.fab (.t rfl) fa82_0)) rfl (fun _ _ => rfl) (.inr fun _ _ => rfl) (.q (fun e c hk => (.fab (.t rfl) fa81_0)) rfl (fun _ _ => rfl) (.inr fun _ _ => rfl) (.q (fun e c hk => (.ldb1 0 (.t rfl) rfl ag3 rfl)) rfl (fun _ _ => rfl) (.inr fun _ _ => rfl) (.q (fun e c hk => (.fab (.t rfl) fa82_0)) rfl (fun _ _ => rfl) (.inr fun _ _ => rfl) (.q (fun e c hk => (.fab (.t rfl) fa81_1)) rfl (fun _ _ => rfl) (.inr fun _ _ => rfl) (.q (fun e c hk => (.ldb1 0 (.t rfl) rfl ag3 rfl)) rfl (fun _ _ => rfl) (.inr fun _ _ => rfl) ?_)))))
 refine DE.q (fun e c hk => (.assign (.t rfl))) rfl (fun _ _ => rfl) (.inr fun _ _ => rfl) ?_; refine DE.q (fun e c hk => (.assign (.t rfl))) rfl (fun _ _ => rfl) (.inr fun _ _ => rfl) ?_; refine DE.q (fun e c hk => (.assign .k)) rfl (fun _ _ => rfl) (.inr fun _ _ => rfl) ?_; refine DE.nil (fun c_ e_ he_ => ?_)
 dsimp only
 refine W.h ?_; refine W.ret ?_; refine W.retn (M' := M0) (D := [_, _, _]) (rs := [.tmp 6, .tmp 7, .tmp 8]) (avs := [_, _, _]) Tryz.results19 ⟨rfl, rfl, rfl, trivial⟩ rfl (List.perm_append_comm (l₁ := [_, _, _])) ?_
 exact ⟨⟨rows, ho, rfl⟩, rfl⟩
theorem c_Fit (ts : List Tp) (as_ : List Au) (hg : Sch.Good ts as_) (fin : List Int) (hfin : Sch.sizesOf ts as_ = some fin) (hall : (fin.any fun n => n == 0 || decide (150 < n)) = false) (hpos : ∀ n ∈ fin, 1 ≤ n ∧ n ≤ 150) (M0 : List ME) (hI : ∀ n : Int, -1 ≤ n → n < 100 → FnC Tryz.prog 107 [.int n] M0 (fun r M => r = .str (itoa n) ∧ M = M0)) (t : Nat) (ht : t < ts.length) (hnm : (ts.getD t Sch.dT).name ≠ []) (ks : List Nat) (hks : ks.length ≤ 40) (hkt : ∀ k ∈ ks, k < ts.length) (hex : ∃ d f, Fit.Al (as_.getD t Sch.dA) fin 0 ks d f) : FnC Tryz.prog 22 [.sl 3 (ts.map tpv), .int (t : Int), .sl 1 (ks.map fun k : Nat => AV.int (k : Int))] M0 (fun r M => (∃ rows m w fr, Fit.Opt (as_.getD t Sch.dA) fin ks rows ∧ Fit.Tr (as_.getD t Sch.dA) fin ks rows m 0 0 w fr ∧ r = .tup [.sl 1 (w.map fun k : Nat => AV.int (k : Int)), .sl 1 (fr.map AV.int), .int 0]) ∧ M = M0) :=  by
 refine FnC.mk Tryz.func22 (by kernel_rfl) rfl Tryz.ntmps22 rfl (fun w0 F => ?_)
 have hlen8 := hg.len
 have hsl : fin.length = ts.length := by
  have := Sch.mso_len 10 _ _ hfin
  rwa [List.length_replicate] at this
 have gf := Fit.gf_of hg hsl hpos ht
 have hk8 : ∀ k ∈ ks, k < 8 := fun k hk => by have := hkt k hk; omega
 have hF := c_fault ts as_ hg fin hfin hall M0 hI t ht hnm ks hks hkt
 refine W.s (.r (.q (.assign .k) rfl (.q (.assign .k) rfl (.q (.assign .k) rfl (.n (.h (.s (.r (.mv rfl rfl (.mv rfl rfl (.mv rfl rfl ?_))))))))))); refine W.call (hF) ⟨(.t rfl), (.t rfl), (.t rfl), trivial⟩ ((by ((rw [List.append_nil]; done)))) rfl ?_
 rintro _ M' ⟨b, rfl, hM'⟩
 rw [hM', List.append_nil]
 refine W.mv rfl rfl (.q (.extract (.t rfl) rfl) rfl (.q (.extract (.t rfl) rfl) rfl (.asg rfl rfl (.asg rfl rfl (.n (.h (.s (.s (.r (.mv rfl rfl (.q (.nei (.t rfl) .k) rfl (.n (.h (.isb 18 false rfl (by rfl) (.condF (.t rfl) (.k (.h (.s (.r (.mv rfl rfl (.mv rfl rfl (.mv rfl rfl ?_)))))))))))))))))))))); refine W.call (WFBest.c_Best b ts as_ fin (as_.getD t Sch.dA) gf.sh gf.n32 gf.sz gf.col t gf.at_ ks (by omega) hk8 hex) ⟨(.t rfl), (.t rfl), (.t rfl), trivial⟩ (.refl _) rfl ?_
 rintro _ M' ⟨⟨rows, m, w, fr, ho, hTr, rfl⟩, rfl⟩
 refine W.mv rfl rfl (.q (.extract (.t rfl) rfl) rfl (.q (.extract (.t rfl) rfl) rfl (.asg rfl rfl (.asg rfl rfl (.n (.h (.s (.r (.mv rfl rfl (.mv rfl rfl (.asg rfl rfl (.asg rfl rfl (.q (.assign .k) rfl (.n (.h ?_))))))))))))))); refine W.ret ?_; refine W.retn (M' := M0) (D := [_]) (rs := [.tmp 6, .tmp 7, .tmp 8]) (avs := [_, _, _]) Tryz.results22 ⟨rfl, rfl, rfl, trivial⟩ rfl (List.perm_append_comm (l₁ := [_])) ?_
 exact ⟨⟨rows, m, w, fr, ho, hTr, rfl⟩, rfl⟩
end WFit
end Go.Proofs.YtphlkdbglpcikaaGreatDoor
end
section
namespace Go.Proofs.YtphlkdbglpcikaaGreatDoor
open Go.Vl
open Y
namespace WKids
theorem kids_map (l : List Int) (n q : Nat) (hq : 0 < q) : ((l.take n).map fun z => z % (q : Int)).map AV.int = ((l.take n).map fun z => (z % (q : Int)).toNat).map fun k : Nat => AV.int (k : Int) := by
 rw [List.map_map, List.map_map]
 refine List.map_congr_left fun z _ => congrArg AV.int ?_
 have := Int.emod_nonneg z (by omega : (q : Int) ≠ 0)
 show z % (q : Int) = ((z % (q : Int)).toNat : Int)
 omega
theorem c_Kids (l : List Int) (n q : Nat) (hn : n ≤ 1000) (hq : 0 < q) (hq2 : q ≤ 1000) (hl : l.length ≤ 1099511627776) : FnC Tryz.prog 18 [.sl 1 (l.map AV.int), .int (n : Int), .int (q : Int)] [] (fun r M => ∃ v, r = .lit v ∧ M = [.arr v 3 1 (((l.take n).map fun z => (z % (q : Int)).toNat).map fun k : Nat => AV.int (k : Int))]) :=  by
 refine FnC.mk Tryz.func18 (by kernel_rfl) rfl Tryz.ntmps18 rfl (fun w0 F => ?_)
 have hll : (l.map AV.int).length = l.length := List.length_map ..
 refine W.s (.r (.q (.assign .k) rfl (.n (.h (.s (.r (.q (.assign .k) rfl (.n (.h (.s (.s (.r (.q (.assign .k) rfl (.n (.h (.b ?_)))))))))))))))); refine W.own_nil 3 1 ?_; refine W.loop (D := []) (ι := Nat × Value) (fun z => [(8, true, .int (z.1 : Int)), (7, true, .lit z.2), (0, true, .sl 1 (l.map AV.int)), (1, true, .int (n : Int)), (2, true, .int (q : Int))]) (fun z => [.arr z.2 3 1 (((l.take z.1).map fun z => z % (q : Int)).map AV.int)]) (fun z => z.1 ≤ l.length ∧ z.1 ≤ n) (fun z => l.length - z.1) (0, .slice none 0 0) ⟨rfl, rfl, rfl, rfl, rfl, trivial⟩ (.refl _) ⟨Nat.zero_le _, Nat.zero_le _⟩ ?_
 rintro ⟨i, v⟩ ⟨hi, hin⟩
 dsimp only at hi hin ⊢
 rcases (show (i < l.length ∧ i < n) ∨ i = l.length ∨ i = n from by omega) with ⟨hlt, hlt2⟩ | hend
 ·have hgl := getD_map l i hlt
  have htk := take_getDG 0 l i hlt
  refine W.s (.s (.r (.mv rfl rfl (.mv rfl rfl (.q (.lensl (.t rfl) Tryz.underlying22) rfl (.q (.lti (.t rfl) (.t rfl)) rfl (.mv rfl rfl (.qgT rfl rfl (.move (.t rfl)) rfl (.qgT rfl rfl (.move (.t rfl)) rfl (.qgT rfl rfl (.lti (.c rfl) (.c rfl)) rfl ?_)))))))))); refine W.q (.and (.t rfl) ⟨_, _, rfl, rfl, by ((simp; done))⟩) rfl ?_; refine W.n (.h ?_); refine W.isb 17 true rfl (by simp; omega) ?_; refine W.condT (.t rfl) (.k (.h (.s (.b (.r (.mv rfl rfl (.mv rfl rfl (.mv rfl rfl ?_)))))))); refine W.q (.at (E := 3) (.t rfl) (.t rfl) Tryz.underlying22 ty3 (fun _ => ⟨by omega, hgl⟩) rfl rfl) rfl ?_; refine W.q (.lde1 (.t rfl) ag3) rfl (.mv rfl rfl ?_); refine W.callp (Base.c_Picked (l.getD i 0) (q : Int) (by omega) (by omega)) ⟨(.t rfl), (.t rfl), trivial⟩ rfl ?_; refine W.bs (es := [_]) Tryz.underlying22 ty3 ⟨rfl, (.t rfl), rfl, rfl, trivial⟩ rfl (by decide) rfl rfl ?_; refine W.app 0 (.t rfl) rfl (.sl (.t rfl) (by ((simp [AV.okc, shV]; done)))) Tryz.underlying22 ni22 ty3 rfl rfl (by rw [List.length_map, List.length_map, List.length_take]; simp only [List.length_cons, List.length_nil]; omega) rfl ?_
  intro v28; refine W.q (.assign (.t rfl)) rfl ?_; refine W.n ?_; refine W.bn ?_; refine W.h ?_; refine W.r ?_; refine W.q (.move (.t rfl)) rfl ?_
  refine W.q (.add (.t rfl) .k (fun _ => by omega)) rfl ?_
  refine W.q (.assign (.t rfl)) rfl ?_; refine W.n ?_; refine W.h ?_; refine W.reach (D := []) (i + 1, v28) ⟨rfl, rfl, rfl, rfl, rfl, trivial⟩ (by rw [List.append_nil]; (try dsimp only); rw [htk, List.map_append, List.map_append]; exact .refl _) ⟨⟨hlt, hlt2⟩, by show l.length - (i + 1) < l.length - i; omega⟩
 ·have htk : l.take i = l.take n := by rcases hend with h | h; rw [List.take_of_length_le (by omega), List.take_of_length_le (by omega)]; rw [h]
  rw [htk, kids_map l n q hq]
  refine W.s (.s (.r (.mv rfl rfl (.mv rfl rfl (.q (.lensl (.t rfl) Tryz.underlying22) rfl (.q (.lti (.t rfl) (.t rfl)) rfl (.mv rfl rfl (.qgT rfl rfl (.move (.t rfl)) rfl (.qgT rfl rfl (.move (.t rfl)) rfl (.qgT rfl rfl (.lti (.c rfl) (.c rfl)) rfl ?_)))))))))); refine W.q (.and (.t rfl) ⟨_, _, rfl, rfl, by ((simp; done))⟩) rfl ?_; refine W.n (.h ?_); refine W.isb 17 false rfl (by simp; omega) ?_; refine W.condF (.t rfl) (.ex (.he (.he (.bh (.h (.s (.r (.mv rfl rfl (.asg rfl rfl (.n (.h ?_))))))))))); refine W.ret ?_; refine W.retn (M' := [.arr v 3 1 (((l.take n).map fun z => (z % (q : Int)).toNat).map fun k : Nat => AV.int (k : Int))]) (D := []) (rs := [.tmp 6]) (avs := [_]) Tryz.results18 ⟨rfl, trivial⟩ rfl (.refl _) ?_
  exact ⟨v, rfl, rfl⟩
end WKids
end Go.Proofs.YtphlkdbglpcikaaGreatDoor
end
section
namespace Go.Proofs.YtphlkdbglpcikaaGreatDoor
open Go.Vl
open Y
namespace WTypes
theorem pk_lt (l : List Int) (i n : Nat) (hn : 0 < n) : Sch.pk l i n < n := by
 unfold Sch.pk
 split
 ·exact hn
 ·have h1 := Int.emod_nonneg (l.getD i 0) (by omega : (n : Int) ≠ 0)
  have h2 := Int.emod_lt_of_pos (l.getD i 0) (by omega : (0 : Int) < n)
  omega
theorem pick_txt (ks : List Nat) (k : Nat) (hk : k < ks.length) : (ks.map Sch.txt).getD k [] = Sch.txt (ks.getD k 0) := by
 rw [List.getD_eq_getElem?_getD, List.getElem?_map, List.getD_eq_getElem?_getD, List.getElem?_eq_getElem hk]; rfl
theorem c_pick (b : Nat) (l : List Int) (i : Nat) (hi : i < 100) (hl : l.length ≤ 1099511627776) (ss : List (List UInt8)) (hs : 0 < ss.length) (hs2 : ss.length < 100) : FnC Tryz.prog 29 [.int (i : Int), .sl 1 (ss.map AV.str), .lit (.pointer (some ⟨b, 0, none⟩))] [.box b 22 [.sl 1 (l.map AV.int)]] (fun r M => r = .str (ss.getD (Sch.pk l i ss.length) []) ∧ M = [.box b 22 [.sl 1 (l.map AV.int)]]) :=  by
 refine FnC.mk Tryz.func29 (by kernel_rfl) rfl Tryz.ntmps29 rfl (fun w0 F => ?_)
 have hsl : (ss.map AV.str).length = ss.length := List.length_map ..
 have hll : (l.map AV.int).length = l.length := List.length_map ..
 have hg0 := getD_mapG AV.str [] ss 0 hs
 refine W.s (.r (.q (.assign .k) rfl (.n (.h (.s (.s (.r (.mv rfl rfl (.q (.ldb1 0 (.t rfl) rfl ag22 rfl) rfl (.q (.lensl (.t rfl) Tryz.underlying22) rfl ?_))))))))))
 refine W.q (.gei (.t rfl) (.t rfl)) rfl ?_; refine W.n ?_; refine W.h ?_; refine W.cond (.t rfl) (fun hc_t9 => ?_) (fun hc_t9 => ?_)
 ·have h9 := of_decide_eq_true hc_t9
  have hpk : Sch.pk l i ss.length = 0 := if_pos (by omega)
  refine W.s (.r (.mv rfl rfl ?_)); refine W.q (.at (E := 9) (.t rfl) .k Tryz.underlying26 ty9 (fun _ => ⟨by omega, hg0⟩) rfl rfl) rfl ?_; refine W.q (.lde1 (.t rfl) ag9) rfl (.asg rfl rfl (.n (.h ?_))); refine W.ret ?_; refine W.hr ?_; refine W.retn (M' := [.box b 22 [.sl 1 (l.map AV.int)]]) (D := []) (rs := [.tmp 5]) (avs := [_]) Tryz.results29 ⟨rfl, trivial⟩ rfl (.refl _) ?_
  exact ⟨congrArg AV.str (by rw [hpk]), rfl⟩
 ·have h9 := of_decide_eq_false hc_t9
  have hlt : i < l.length := by omega
  have hgl := getD_map l i hlt
  have hpk : Sch.pk l i ss.length = (l.getD i 0 % (ss.length : Int)).toNat := if_neg (by omega)
  obtain ⟨z, hz⟩ : ∃ z, l.getD i 0 = z := ⟨_, rfl⟩
  rw [hz] at hgl hpk
  have hz1 := Int.emod_nonneg z (by omega : (ss.length : Int) ≠ 0)
  have hz2 := Int.emod_lt_of_pos z (by omega : (0 : Int) < ss.length)
  have hgp := getD_mapG AV.str [] ss (z % (ss.length : Int)).toNat (by omega)
  refine W.k (.h (.s (.r (.mv rfl rfl (.q (.ldb1 0 (.t rfl) rfl ag22 rfl) rfl (.mv rfl rfl ?_)))))); refine W.q (.at (E := 3) (.t rfl) (.t rfl) Tryz.underlying22 ty3 (fun _ => ⟨by omega, hgl⟩) rfl rfl) rfl ?_; refine W.q (.lde1 (.t rfl) ag3) rfl (.mv rfl rfl (.q (.lensl (.t rfl) Tryz.underlying26) rfl ?_)); refine W.is (t := 19) (av' := .int (ss.length : Int)) rfl (congrArg AV.int (by rw [hsl])) ?_; refine W.callp (Base.c_Picked z (ss.length : Int) (by omega) (by omega)) ⟨(.t rfl), (.t rfl), trivial⟩ rfl ?_; refine W.q (.at (E := 9) (.t rfl) (.t rfl) Tryz.underlying26 ty9 (fun _ => ⟨by omega, hgp⟩) rfl rfl) rfl ?_; refine W.q (.lde1 (.t rfl) ag9) rfl (.asg rfl rfl (.n (.h ?_))); refine W.ret ?_; refine W.retn (M' := [.box b 22 [.sl 1 (l.map AV.int)]]) (D := []) (rs := [.tmp 5]) (avs := [_]) Tryz.results29 ⟨rfl, trivial⟩ rfl (.refl _) ?_
  exact ⟨congrArg AV.str (by rw [hpk]), rfl⟩
theorem c_Types (l : List Int) (hl : l.length ≤ 1099511627776) : FnP Tryz.prog 12 [.sl 1 (l.map AV.int)] (.sl 3 ((Sch.tys (Sch.pk l 0 4) (Sch.pk l 1 3) (Sch.pk l 2 2) (Sch.pk l 3 3) (Sch.pk l 4 3) (Sch.pk l 5 2)).map tpv)) :=  by
 refine FnC.mk Tryz.func12 (by kernel_rfl) rfl Tryz.ntmps12 rfl (fun w0 F => ?_)
 refine W.s ?_; refine W.r ?_; refine W.box (.t rfl) rfl rfl ?_; intro b1; refine W.q (.assign .k) rfl ?_; refine W.n ?_; refine W.h ?_; refine W.s ?_; refine W.r ?_; refine W.q (.mkfn (caps := [.tmp 1]) (vs := [_]) ⟨(.t rfl), trivial⟩) rfl ?_; refine W.q (.assign (.t rfl)) rfl ?_; refine W.n ?_; refine W.h ?_; refine W.s ?_; refine W.r ?_; refine W.q (.move (.t rfl)) rfl ?_; refine W.bs (es := [_, _, _, _]) Tryz.underlying26 ty9 ⟨rfl, .k, rfl, rfl, rfl, .k, rfl, rfl, rfl, .k, rfl, rfl, rfl, .k, rfl, rfl, trivial⟩ rfl (by decide) rfl rfl ?_; refine W.is (t := 6) (av' := .sl 1 (([0, 1, 2, 3].map Sch.txt).map AV.str)) rfl (congrArg (fun x => AV.sl 1 (x.map AV.str)) (by decide : ([[40, 98, 124, 99, 124, 100, 41, 43], [99, 63, 98, 42], [40, 98, 124, 100, 41, 42], [99, 98, 43, 100, 63]] : List (List UInt8)) = [0, 1, 2, 3].map Sch.txt)) ?_; refine W.callv (caps := [.pointer (some ⟨b1, 0, none⟩)]) (avs := [_, _]) (c_pick b1 l 0 (by decide) hl ([0, 1, 2, 3].map Sch.txt) (by decide) (by decide)) (.t rfl) ⟨.k, (.t rfl), trivial⟩ rfl (.refl _) rfl ?_
 rintro _ _ ⟨rfl, rfl⟩
 rw [show (List.map Sch.txt [0, 1, 2, 3]).length = 4 from rfl, pick_txt [0, 1, 2, 3] _ (pk_lt l 0 4 (by decide))]
 refine W.q (.build ty28 st28 rfl (fun hg => ⟨_, _, _, rfl, .k, rfl, rfl, rfl, _, _, _, rfl, (.t rfl), rfl, rfl, rfl, rfl⟩)) rfl ?_; refine W.nils (t := 8) (g := true) (cs' := [.str Sch.bDoc, .str (Sch.txt (([0, 1, 2, 3] : List Nat).getD (Sch.pk l 0 4) 0)), .sl 1 []]) rfl ⟨.inl rfl, .inl rfl, .inr ⟨rfl, 1, rfl⟩, trivial⟩ ?_; refine W.mv rfl rfl ?_; refine W.bs (es := [_, _, _]) Tryz.underlying26 ty9 ⟨rfl, .k, rfl, rfl, rfl, .k, rfl, rfl, rfl, .k, rfl, rfl, trivial⟩ rfl (by decide) rfl rfl ?_; refine W.is (t := 10) (av' := .sl 1 (([4, 5, 6].map Sch.txt).map AV.str)) rfl (congrArg (fun x => AV.sl 1 (x.map AV.str)) (by decide : ([[103, 63, 40, 102, 43, 103, 63, 41, 42], [40, 102, 124, 103, 102, 41, 42, 103, 63], [103, 63]] : List (List UInt8)) = [4, 5, 6].map Sch.txt)) ?_; refine W.callv (caps := [.pointer (some ⟨b1, 0, none⟩)]) (avs := [_, _]) (c_pick b1 l 1 (by decide) hl ([4, 5, 6].map Sch.txt) (by decide) (by decide)) (.t rfl) ⟨.k, (.t rfl), trivial⟩ rfl (.refl _) rfl ?_
 rintro _ _ ⟨rfl, rfl⟩
 rw [show (List.map Sch.txt [4, 5, 6]).length = 3 from rfl, pick_txt [4, 5, 6] _ (pk_lt l 1 3 (by decide))]
 refine W.bs (es := [_]) Tryz.underlying26 ty9 ⟨rfl, .k, rfl, rfl, trivial⟩ rfl (by decide) rfl rfl ?_; refine W.q (.build ty28 st28 rfl (fun hg => ⟨_, _, _, rfl, .k, rfl, rfl, rfl, _, _, _, rfl, (.t rfl), rfl, rfl, rfl, _, _, _, rfl, (.t rfl), rfl, rfl, rfl, rfl⟩)) rfl (.mv rfl rfl ?_); refine W.bs (es := [_, _]) Tryz.underlying26 ty9 ⟨rfl, .k, rfl, rfl, rfl, .k, rfl, rfl, trivial⟩ rfl (by decide) rfl rfl ?_; refine W.is (t := 15) (av' := .sl 1 (([7, 6].map Sch.txt).map AV.str)) rfl (congrArg (fun x => AV.sl 1 (x.map AV.str)) (by decide : ([[103], [103, 63]] : List (List UInt8)) = [7, 6].map Sch.txt)) ?_; refine W.callv (caps := [.pointer (some ⟨b1, 0, none⟩)]) (avs := [_, _]) (c_pick b1 l 2 (by decide) hl ([7, 6].map Sch.txt) (by decide) (by decide)) (.t rfl) ⟨.k, (.t rfl), trivial⟩ rfl (.refl _) rfl ?_
 rintro _ _ ⟨rfl, rfl⟩
 rw [show (List.map Sch.txt [7, 6]).length = 2 from rfl, pick_txt [7, 6] _ (pk_lt l 2 2 (by decide))]
 refine W.q (.build ty28 st28 rfl (fun hg => ⟨_, _, _, rfl, .k, rfl, rfl, rfl, _, _, _, rfl, (.t rfl), rfl, rfl, rfl, rfl⟩)) rfl ?_; refine W.nils (t := 17) (g := true) (cs' := [.str Sch.bH1, .str (Sch.txt (([7, 6] : List Nat).getD (Sch.pk l 2 2) 0)), .sl 1 []]) rfl ⟨.inl rfl, .inl rfl, .inr ⟨rfl, 1, rfl⟩, trivial⟩ ?_; refine W.mv rfl rfl ?_; refine W.bs (es := [_, _, _]) Tryz.underlying26 ty9 ⟨rfl, .k, rfl, rfl, rfl, .k, rfl, rfl, rfl, .k, rfl, rfl, trivial⟩ rfl (by decide) rfl rfl ?_; refine W.is (t := 19) (av' := .sl 1 (([8, 9, 10].map Sch.txt).map AV.str)) rfl (congrArg (fun x => AV.sl 1 (x.map AV.str)) (by decide : ([[101, 43], [101, 101, 42], [101, 42]] : List (List UInt8)) = [8, 9, 10].map Sch.txt)) ?_; refine W.callv (caps := [.pointer (some ⟨b1, 0, none⟩)]) (avs := [_, _]) (c_pick b1 l 3 (by decide) hl ([8, 9, 10].map Sch.txt) (by decide) (by decide)) (.t rfl) ⟨.k, (.t rfl), trivial⟩ rfl (.refl _) rfl ?_
 rintro _ _ ⟨rfl, rfl⟩
 rw [show (List.map Sch.txt [8, 9, 10]).length = 3 from rfl, pick_txt [8, 9, 10] _ (pk_lt l 3 3 (by decide))]
 refine W.q (.build ty28 st28 rfl (fun hg => ⟨_, _, _, rfl, .k, rfl, rfl, rfl, _, _, _, rfl, (.t rfl), rfl, rfl, rfl, rfl⟩)) rfl ?_; refine W.nils (t := 21) (g := true) (cs' := [.str Sch.bUl, .str (Sch.txt (([8, 9, 10] : List Nat).getD (Sch.pk l 3 3) 0)), .sl 1 []]) rfl ⟨.inl rfl, .inl rfl, .inr ⟨rfl, 1, rfl⟩, trivial⟩ ?_; refine W.mv rfl rfl ?_; refine W.bs (es := [_, _, _]) Tryz.underlying26 ty9 ⟨rfl, .k, rfl, rfl, rfl, .k, rfl, rfl, rfl, .k, rfl, rfl, trivial⟩ rfl (by decide) rfl rfl ?_; refine W.is (t := 23) (av' := .sl 1 (([11, 6, 2].map Sch.txt).map AV.str)) rfl (congrArg (fun x => AV.sl 1 (x.map AV.str)) (by decide : ([[98, 43], [103, 63], [40, 98, 124, 100, 41, 42]] : List (List UInt8)) = [11, 6, 2].map Sch.txt)) ?_; refine W.callv (caps := [.pointer (some ⟨b1, 0, none⟩)]) (avs := [_, _]) (c_pick b1 l 4 (by decide) hl ([11, 6, 2].map Sch.txt) (by decide) (by decide)) (.t rfl) ⟨.k, (.t rfl), trivial⟩ rfl (.refl _) rfl ?_
 rintro _ _ ⟨rfl, rfl⟩
 rw [show (List.map Sch.txt [11, 6, 2]).length = 3 from rfl, pick_txt [11, 6, 2] _ (pk_lt l 4 3 (by decide))]
 refine W.q (.build ty28 st28 rfl (fun hg => ⟨_, _, _, rfl, .k, rfl, rfl, rfl, _, _, _, rfl, (.t rfl), rfl, rfl, rfl, rfl⟩)) rfl ?_; refine W.nils (t := 25) (g := true) (cs' := [.str Sch.bLi, .str (Sch.txt (([11, 6, 2] : List Nat).getD (Sch.pk l 4 3) 0)), .sl 1 []]) rfl ⟨.inl rfl, .inl rfl, .inr ⟨rfl, 1, rfl⟩, trivial⟩ ?_; refine W.mv rfl rfl ?_; refine W.bs (es := [_, _]) Tryz.underlying26 ty9 ⟨rfl, .k, rfl, rfl, rfl, .k, rfl, rfl, trivial⟩ rfl (by decide) rfl rfl ?_; refine W.is (t := 27) (av' := .sl 1 (([7, 6].map Sch.txt).map AV.str)) rfl (congrArg (fun x => AV.sl 1 (x.map AV.str)) (by decide : ([[103], [103, 63]] : List (List UInt8)) = [7, 6].map Sch.txt)) ?_; refine W.callv (caps := [.pointer (some ⟨b1, 0, none⟩)]) (avs := [_, _]) (c_pick b1 l 5 (by decide) hl ([7, 6].map Sch.txt) (by decide) (by decide)) (.t rfl) ⟨.k, (.t rfl), trivial⟩ rfl (.refl _) rfl ?_
 rintro _ _ ⟨rfl, rfl⟩
 rw [show (List.map Sch.txt [7, 6]).length = 2 from rfl, pick_txt [7, 6] _ (pk_lt l 5 2 (by decide))]
 refine W.q (.build ty28 st28 rfl (fun hg => ⟨_, _, _, rfl, .k, rfl, rfl, rfl, _, _, _, rfl, (.t rfl), rfl, rfl, rfl, rfl⟩)) rfl ?_; refine W.nils (t := 29) (g := true) (cs' := [.str Sch.bEm, .str (Sch.txt (([7, 6] : List Nat).getD (Sch.pk l 5 2) 0)), .sl 1 []]) rfl ⟨.inl rfl, .inl rfl, .inr ⟨rfl, 1, rfl⟩, trivial⟩ ?_; refine W.q (.build ty28 st28 rfl (fun hg => rfl)) rfl ?_; refine W.nils (t := 30) (g := true) (cs' := [.str [], .str [], .sl 1 []]) rfl ⟨.inl rfl, .inl rfl, .inr ⟨rfl, 1, rfl⟩, trivial⟩ ?_; refine W.bs (es := [_, _, _, _, _, _, _]) Tryz.underlying23 ty28 ⟨rfl, (.t rfl), rfl, rfl, rfl, (.t rfl), rfl, rfl, rfl, (.t rfl), rfl, rfl, rfl, (.t rfl), rfl, rfl, rfl, (.t rfl), rfl, rfl, rfl, (.t rfl), rfl, rfl, rfl, (.t rfl), rfl, rfl, trivial⟩ rfl (by decide) rfl rfl ?_; refine W.asg rfl rfl (.n (.h ?_)); refine W.ret ?_; refine W.retn (M' := []) (D := _) (rs := [.tmp 2]) (avs := [_]) Tryz.results12 ⟨rfl, trivial⟩ rfl (.refl _) ?_
 exact ⟨rfl, rfl⟩
end WTypes
end Go.Proofs.YtphlkdbglpcikaaGreatDoor
end
section
namespace Go.Vl
namespace Sch
def bytesB : List UInt8 → List UInt8 → Bool
 | [], [] => true
 | a :: l, b :: m => Nat.beq a.toNat b.toNat && bytesB l m
 | _, _ => false
theorem bytesB_eq : ∀ {l m : List UInt8}, bytesB l m = true → l = m
 | [], [], _ => rfl
 | a :: l, b :: m, h => by
  simp only [bytesB, Bool.and_eq_true] at h
  rw [UInt8.toNat_inj.1 (Nat.eq_of_beq_eq_true h.1), bytesB_eq h.2]
 | [], _ :: _, h => by cases h
 | _ :: _, [], h => by cases h
mutual
def ndB : Nd → Nd → Bool
 | .mk n a t p, .mk n' a' t' p' => bytesB n n' && a.isEmpty && a'.isEmpty && bytesB t t' && ndsB p p'
def ndsB : List Nd → List Nd → Bool
 | [], [] => true
 | d :: l, e :: m => ndB d e && ndsB l m
 | _, _ => false
end
mutual
theorem ndB_eq : ∀ {d e : Nd}, ndB d e = true → d = e
 | .mk n a t p, .mk n' a' t' p', h => by
  simp only [ndB, Bool.and_eq_true, List.isEmpty_iff] at h
  rw [bytesB_eq h.1.1.1.1, h.1.1.1.2, h.1.1.2, bytesB_eq h.1.2, ndsB_eq h.2]
theorem ndsB_eq : ∀ {l m : List Nd}, ndsB l m = true → l = m
 | [], [], _ => rfl
 | d :: l, e :: m, h => by
  simp only [ndsB, Bool.and_eq_true] at h
  rw [ndB_eq h.1, ndsB_eq h.2]
 | [], _ :: _, h => by cases h
 | _ :: _, [], h => by cases h
end
def mk0 (k : Nat) : Nat := ([0, 1, 2, 3] : List Nat).getD k 0
def mk1 (k : Nat) : Nat := ([4, 5, 6] : List Nat).getD k 0
def mk2 (k : Nat) : Nat := ([7, 6] : List Nat).getD k 0
def mk3 (k : Nat) : Nat := ([8, 9, 10] : List Nat).getD k 0
def mk4 (k : Nat) : Nat := ([11, 6, 2] : List Nat).getD k 0
def mk5 (k : Nat) : Nat := ([7, 6] : List Nat).getD k 0
def tyk (m0 m1 m2 m3 m4 m5 : Nat) : List Tp := [⟨bDoc, txt m0, []⟩, ⟨bP, txt m1, [bClass]⟩, ⟨bH1, txt m2, []⟩, ⟨bUl, txt m3, []⟩, ⟨bLi, txt m4, []⟩, ⟨bEm, txt m5, []⟩, ⟨[], [], []⟩]
def ask (m0 m1 m2 m3 m4 m5 : Nat) : List Au := [auk m0, auk m1, auk m2, auk m3, auk m4, auk m5, auk 12]
theorem fine_all : ((List.range 14).all fun k => fine (auk k) 7 6 && fine (auk k) 8 6) = true := by kernel_rfl
theorem i7 {i : Nat} (h : i < 7) : i = 0 ∨ i = 1 ∨ i = 2 ∨ i = 3 ∨ i = 4 ∨ i = 5 ∨ i = 6 := by omega
theorem good_tyk (m0 m1 m2 m3 m4 m5 : Nat) (h : m0 < 14 ∧ m1 < 14 ∧ m2 < 14 ∧ m3 < 14 ∧ m4 < 14 ∧ m5 < 14) : Good (tyk m0 m1 m2 m3 m4 m5) (ask m0 m1 m2 m3 m4 m5) := by
 have hf : ∀ k, k < 14 → fine (auk k) 7 6 = true := fun k hk => by
  have := List.all_eq_true.1 fine_all k (List.mem_range.2 hk)
  simp only [Bool.and_eq_true] at this; exact this.1
 refine ⟨Nat.le_of_ble_eq_true rfl, Nat.le_of_ble_eq_true rfl, rfl, ?_, ?_, ?_, ?_, ?_⟩
 ·intro i hi; rcases i7 hi with rfl | rfl | rfl | rfl | rfl | rfl | rfl <;> first | exact ⟨Nat.le_of_ble_eq_true rfl, .inr rfl⟩ | exact ⟨Nat.le_of_ble_eq_true rfl, .inl rfl⟩
 ·intro i hi; rcases i7 hi with rfl | rfl | rfl | rfl | rfl | rfl | rfl <;> rfl
 ·intro i hi; rcases i7 hi with rfl | rfl | rfl | rfl | rfl | rfl | rfl <;> first | rfl | decide
 ·intro i hi; rcases i7 hi with rfl | rfl | rfl | rfl | rfl | rfl | rfl <;> first | rfl | decide
 ·intro i hi
  rcases i7 hi with rfl | rfl | rfl | rfl | rfl | rfl | rfl
  ·exact ⟨m0, h.1, rfl, rfl, hf _ h.1⟩
  ·exact ⟨m1, h.2.1, rfl, rfl, hf _ h.2.1⟩
  ·exact ⟨m2, h.2.2.1, rfl, rfl, hf _ h.2.2.1⟩
  ·exact ⟨m3, h.2.2.2.1, rfl, rfl, hf _ h.2.2.2.1⟩
  ·exact ⟨m4, h.2.2.2.2.1, rfl, rfl, hf _ h.2.2.2.2.1⟩
  ·exact ⟨m5, h.2.2.2.2.2, rfl, rfl, hf _ h.2.2.2.2.2⟩
  ·exact ⟨12, by decide, rfl, rfl, hf _ (by decide)⟩
theorem stepm_congr {ts ts' : List Tp} (h : ∀ i, (ts.getD i dT).name = (ts'.getD i dT).name) (as_ : List Au) (s : List Int × Bool) (i : Nat) : stepm ts as_ s i = stepm ts' as_ s i := by
 unfold stepm; rw [h i]
theorem rndm_congr {ts ts' : List Tp} (h : ∀ i, (ts.getD i dT).name = (ts'.getD i dT).name) (as_ : List Au) (s : List Int × Bool) : ∀ k, rndm ts as_ s k = rndm ts' as_ s k
 | 0 => rfl
 | k + 1 => by
  simp only [rndm, rndm_congr h as_ s k]
  cases rndm ts' as_ s k with
  | none => rfl
  | some r => exact stepm_congr h as_ r k
theorem mso_congr {ts ts' : List Tp} (h : ∀ i, (ts.getD i dT).name = (ts'.getD i dT).name) (hl : ts.length = ts'.length) (as_ : List Au) : ∀ n z, mso ts as_ n z = mso ts' as_ n z
 | 0, _ => rfl
 | n + 1, z => by
  simp only [mso, rndm_congr h as_, hl]
  cases rndm ts' as_ (z, false) ts'.length with
  | none => rfl
  | some r => simp only [mso_congr h hl as_ n]
theorem sizesOf_congr {ts ts' : List Tp} (h : ∀ i, (ts.getD i dT).name = (ts'.getD i dT).name) (hl : ts.length = ts'.length) (as_ : List Au) : sizesOf ts as_ = sizesOf ts' as_ := by
 unfold sizesOf; rw [mso_congr h hl, hl]
theorem names7 (m0 m1 m2 m3 m4 m5 n0 n1 n2 n3 n4 n5 : Nat) : ∀ i, ((tyk m0 m1 m2 m3 m4 m5).getD i dT).name = ((tyk n0 n1 n2 n3 n4 n5).getD i dT).name
 | 0 => rfl | 1 => rfl | 2 => rfl | 3 => rfl | 4 => rfl | 5 => rfl | 6 => rfl | _ + 7 => rfl
theorem tys_tyk (k0 k1 k2 k3 k4 k5 : Nat) : tys k0 k1 k2 k3 k4 k5 = tyk (mk0 k0) (mk1 k1) (mk2 k2) (mk3 k3) (mk4 k4) (mk5 k5) := rfl
def fst_ (m : Nat) : Nat := if m = 5 then 4 else if m = 9 then 8 else m
theorem auk_fst (m : Nat) : auk (fst_ m) = auk m := by
 unfold fst_
 split
 ·rename_i h; rw [h]; rfl
 ·split
  ·rename_i h; rw [h]; rfl
  ·rfl
theorem ask_fst (m0 m1 m2 m3 m4 m5 : Nat) : ask m0 (fst_ m1) m2 (fst_ m3) m4 m5 = ask m0 m1 m2 m3 m4 m5 := by
 unfold ask; rw [auk_fst, auk_fst]
theorem mk_lt {k0 k1 k2 k3 k4 k5 : Nat} (h0 : k0 < 4) (h1 : k1 < 3) (h2 : k2 < 2) (h3 : k3 < 3) (h4 : k4 < 3) (h5 : k5 < 2) : mk0 k0 < 14 ∧ mk1 k1 < 14 ∧ mk2 k2 < 14 ∧ mk3 k3 < 14 ∧ mk4 k4 < 14 ∧ mk5 k5 < 14 := by
 refine ⟨?_, ?_, ?_, ?_, ?_, ?_⟩
 ·exact (by decide : ∀ k : Fin 4, mk0 k.val < 14) ⟨k0, h0⟩
 ·exact (by decide : ∀ k : Fin 3, mk1 k.val < 14) ⟨k1, h1⟩
 ·exact (by decide : ∀ k : Fin 2, mk2 k.val < 14) ⟨k2, h2⟩
 ·exact (by decide : ∀ k : Fin 3, mk3 k.val < 14) ⟨k3, h3⟩
 ·exact (by decide : ∀ k : Fin 3, mk4 k.val < 14) ⟨k4, h4⟩
 ·exact (by decide : ∀ k : Fin 2, mk5 k.val < 14) ⟨k5, h5⟩
end Sch
end Go.Vl
end
section
namespace Go.Vl
namespace Fit
open Sch
section
variable {A : Au} {sz : List Int}
theorem Al.all {i : Nat} {f : Int} (h : Al A sz i [] 0 f) : ∀ ks : List Nat, Al A sz i ks (ks.length : Int) f
 | [] => h
 | k :: ks => by
  have := Al.drop (k := k) (Al.all h ks)
  rwa [show ((k :: ks).length : Int) = (ks.length : Int) + 1 from by simp] 
theorem Al.remove {i k : Nat} {ls : List Nat} {d f : Int} (h : Al A sz i ls d f) : ∀ l1 l2 : List Nat, ls = l1 ++ k :: l2 → ∃ d' f', d' ≤ d ∧ Al A sz i (l1 ++ l2) d' f' := by
 induction h with
 | done h => intro l1 l2 e; simp at e
 | @keep i q ks d f h r ih =>
  intro l1 l2 e
  cases l1 with
  | nil =>
   obtain ⟨rfl, rfl⟩ := List.cons.inj e
   exact ⟨d, _, Int.le_refl _, .fill h r⟩
  | cons a l1 =>
   obtain ⟨rfl, rfl⟩ := List.cons.inj e
   obtain ⟨d', f', h1, h2⟩ := ih l1 l2 rfl
   exact ⟨d', f', h1, .keep h h2⟩
 | @drop i q ks d f r ih =>
  intro l1 l2 e
  cases l1 with
  | nil =>
   obtain ⟨rfl, rfl⟩ := List.cons.inj e
   exact ⟨d, f, by omega, r⟩
  | cons a l1 =>
   obtain ⟨rfl, rfl⟩ := List.cons.inj e
   obtain ⟨d', f', h1, h2⟩ := ih l1 l2 rfl
   exact ⟨d' + 1, f', by omega, .drop h2⟩
 | fill h r ih =>
  intro l1 l2 e
  obtain ⟨d', f', h1, h2⟩ := ih l1 l2 e
  exact ⟨d', _, h1, .fill h h2⟩
theorem Al.insert {i k : Nat} {ls : List Nat} {d f : Int} (h : Al A sz i ls d f) : ∀ l1 l2 : List Nat, ls = l1 ++ l2 → Al A sz i (l1 ++ k :: l2) (d + 1) f := by
 induction h with
 | done h =>
  intro l1 l2 e
  obtain ⟨rfl, rfl⟩ := List.append_eq_nil_iff.1 e.symm
  exact .drop (.done h)
 | @keep i q ks d f h r ih =>
  intro l1 l2 e
  cases l1 with
  | nil => subst e; exact .drop (.keep h r)
  | cons a l1 =>
   obtain ⟨rfl, rfl⟩ := List.cons.inj e
   exact .keep h (ih l1 l2 rfl)
 | @drop i q ks d f r ih =>
  intro l1 l2 e
  cases l1 with
  | nil => subst e; exact .drop (.drop r)
  | cons a l1 =>
   obtain ⟨rfl, rfl⟩ := List.cons.inj e
   exact .drop (ih l1 l2 rfl)
 | fill h r ih =>
  intro l1 l2 e
  exact .fill h (ih l1 l2 e)
inductive Acc (A : Au) : Nat → List Nat → Prop
 | done {i : Nat} (h : A.final.getD i false = true) : Acc A i []
 | step {i k : Nat} {w : List Nat} (h : 0 ≤ tr A i k) (r : Acc A (tr A i k).toNat w) : Acc A i (k :: w)
theorem Acc.al {i : Nat} {w : List Nat} (h : Acc A i w) : Al A sz i w 0 0 := by
 induction h with
 | done h => exact .done h
 | step h r ih => exact .keep h ih
theorem Al.end0 (hz : Sz A sz) {i : Nat} {ls : List Nat} {d f : Int} (h : Al A sz i ls d f) (hl : ls = []) (hf : f = 0) : A.final.getD i false = true := by
 cases h with
 | done h => exact h
 | keep h r => cases hl
 | drop r => cases hl
 | fill h r => have := r.nn hz; have := hz.lo _ _ h; omega
theorem Al.end_ (hz : Sz A sz) {i : Nat} (h : Al A sz i [] 0 0) : A.final.getD i false = true := h.end0 hz rfl rfl
end
section
variable {A : Au} {sz : List Int} {ks : List Nat} {rows : List (List Ct)}
theorem Opt.ok0 (hsh : A.Shape) (ho : Opt A sz ks rows) (hex : ∃ d f, Al A sz 0 ks d f) : (cel rows 0 0).ok = true := by
 obtain ⟨d, f, h⟩ := hex
 have := (ho.cel_best (Nat.zero_le _) hsh.pos).le d f (by rwa [List.drop_zero])
 exact this.1
theorem Opt.le0 (hsh : A.Shape) (ho : Opt A sz ks rows) {d f : Int} (h : Al A sz 0 ks d f) : (cel rows 0 0).Le d f := (ho.cel_best (Nat.zero_le _) hsh.pos).le d f (by rwa [List.drop_zero])
theorem Opt.al0 (hsh : A.Shape) (ho : Opt A sz ks rows) (hok : (cel rows 0 0).ok = true) : Al A sz 0 ks (cel rows 0 0).d (cel rows 0 0).f := by
 have := (ho.cel_best (Nat.zero_le _) hsh.pos).al hok
 rwa [List.drop_zero] at this
theorem fewer (hsh : A.Shape) {l1 l2 : List Nat} {k : Nat} {rows2 : List (List Ct)} (ho : Opt A sz (l1 ++ k :: l2) rows) (ho2 : Opt A sz (l1 ++ l2) rows2) (hex : ∃ f, Al A sz 0 [] 0 f) : (cel rows2 0 0).d ≤ (cel rows 0 0).d ∧ (cel rows 0 0).d ≤ (cel rows2 0 0).d + 1 := by
 obtain ⟨f0, h0⟩ := hex
 have h1 := ho.ok0 hsh ⟨_, _, h0.all _⟩
 have h2 := ho2.ok0 hsh ⟨_, _, h0.all _⟩
 obtain ⟨d', f', h3, h4⟩ := (ho.al0 hsh h1).remove l1 l2 rfl
 have h5 := (ho2.le0 hsh h4).2
 have h6 := (ho.le0 hsh ((ho2.al0 hsh h2).insert l1 l2 rfl)).2
 omega
def Pot (A : Au) (sz : List Int) (o : List Int) : Prop := (∀ i, A.final.getD i false = true → o.getD i 0 ≤ 0) ∧ ∀ i n, 0 ≤ tr A i n → o.getD i 0 ≤ sz.getD n 0 + o.getD (tr A i n).toNat 0
theorem Pot.le {o : List Int} (hp : Pot A sz o) (hz : Sz A sz) {i : Nat} {ls : List Nat} {d f : Int} (h : Al A sz i ls d f) : d = ls.length → o.getD i 0 ≤ f := by
 induction h with
 | done h => intro _; exact hp.1 _ h
 | keep h r ih =>
  intro e
  have := (r.nn hz).2.1
  simp only [List.length_cons] at e
  omega
 | drop r ih =>
  intro e
  simp only [List.length_cons] at e
  exact ih (by omega)
 | @fill i n ks d f h r ih =>
  intro e
  have := ih e
  have := hp.2 _ _ h
  omega
theorem bound (hsh : A.Shape) (hz : Sz A sz) {o : List Int} (hp : Pot A sz o) (hal : Al A sz 0 [] 0 (o.getD 0 0)) (ho : Opt A sz ks rows) {rows0 : List (List Ct)} (ho0 : Opt A sz [] rows0) :
 (0 ≤ (cel rows 0 0).d ∧ (cel rows 0 0).d ≤ ks.length) ∧ (cel rows0 0 0).d = 0 ∧ (cel rows0 0 0).f = o.getD 0 0 ∧ ((cel rows 0 0).d < ks.length ∨ (cel rows 0 0).f = o.getD 0 0) := by
 have h1 := ho.ok0 hsh ⟨_, _, hal.all _⟩
 have h2 := ho0.ok0 hsh ⟨_, _, hal⟩
 have a1 := ho.al0 hsh h1
 have a2 := ho0.al0 hsh h2
 have n1 := a1.nn hz
 have n2 := a2.nn hz
 have l1 := (ho.le0 hsh (hal.all ks)).2
 have l2 := (ho0.le0 hsh hal).2
 have p1 := hp.le hz a1
 have p2 := hp.le hz a2
 simp only [List.length_nil, Int.natCast_zero] at n2 p2
 have p2' := p2 (by omega)
 refine ⟨⟨n1.1, n1.2.1⟩, by omega, by omega, ?_⟩
 by_cases e : (cel rows 0 0).d = (ks.length : Int)
 ·right; have := p1 e; omega
 ·left; omega
theorem Tr.acc (hsh : A.Shape) (hz : Sz A sz) (ho : Opt A sz ks rows) {m i k : Nat} {w : List Nat} {fr : List Int} (h : Tr A sz ks rows m i k w fr) : k ≤ ks.length → i < A.next.length → (cel rows k i).ok = true → Acc A i w := by
 induction h with
 | @stop i k h hk =>
  intro hkl hi hok
  have := (ho.cel_best hkl hi).al hok
  rw [h.1, h.2, List.drop_of_length_le (by omega)] at this
  exact .done (this.end_ hz)
 | keep hk hg r ih =>
  intro _ hi hok
  have h2 := goesB_iff.1 hg
  exact .step h2.1 (ih hk (tr_lt hsh hi h2.1).1 h2.2.1)
 | fill hs hg hn r ih =>
  intro hk hi hok
  have h2 := fillP_iff.1 (firstN_some hn).1
  exact .step h2.1 (ih hk (tr_lt hsh hi h2.1).1 h2.2.1)
 | drop hk hg hn hc r ih =>
  intro _ hi hok
  exact ih hk hi hc.1
theorem Tr.letters {P : Nat → Prop} (hP : ∀ k ∈ ks, P k) (hn : ∀ i n, 0 ≤ tr A i n → P n) {m i k : Nat} {w : List Nat} {fr : List Int} (h : Tr A sz ks rows m i k w fr) : ∀ q ∈ w, P q := by
 induction h with
 | stop => intro q hq; cases hq
 | keep hk hg r ih =>
  intro q hq
  rcases List.mem_cons.1 hq with rfl | hq
  ·exact hn _ _ (goesB_iff.1 hg).1
  ·exact ih q hq
 | fill hs hg hf r ih =>
  intro q hq
  rcases List.mem_cons.1 hq with rfl | hq
  ·exact hn _ _ (fillP_iff.1 (firstN_some hf).1).1
  ·exact ih q hq
 | drop hk hg hn hc r ih => exact ih
def upto (k : Nat) : Nat → List Int
 | 0 => []
 | n + 1 => (k : Int) :: upto (k + 1) n
theorem upto_len (k : Nat) : ∀ n, (upto k n).length = n
 | 0 => rfl
 | n + 1 => by simp [upto, upto_len (k + 1) n]
theorem upto_get : ∀ (n k i : Nat), i < n → (upto k n).getD i 0 = ((k + i : Nat) : Int)
 | 0, _, _, h => by omega
 | n + 1, k, 0, h => rfl
 | n + 1, k, i + 1, h => by
  show (upto (k + 1) n).getD i 0 = _
  rw [upto_get n (k + 1) i (by omega)]; congr 1; omega
theorem Opt.zero (hz : Sz A sz) (ho : Opt A sz ks rows) {k i : Nat} (hk : k ≤ ks.length) (hi : i < A.next.length) (ha : Acc A i (ks.drop k)) : (cel rows k i).ok = true ∧ (cel rows k i).d = 0 ∧ (cel rows k i).f = 0 := by
 have h1 := (ho.cel_best hk hi).le _ _ ha.al
 have h2 := ((ho.cel_best hk hi).al h1.1).nn hz
 have := h1.2
 exact ⟨h1.1, by omega, by omega⟩
theorem Tr.fixed (hsh : A.Shape) (hz : Sz A sz) (ho : Opt A sz ks rows) : ∀ {m i k : Nat} {w : List Nat} {fr : List Int}, Tr A sz ks rows m i k w fr → k ≤ ks.length → i < A.next.length → Acc A i (ks.drop k) → w = ks.drop k ∧ fr = upto k (ks.length - k) := by
 intro m
 induction m with
 | zero =>
  intro i k w fr h hk hi ha
  cases h with
  | stop h hk => exact ⟨by rw [List.drop_of_length_le (by omega)], by rw [show ks.length - k = 0 by omega]; rfl⟩
 | succ m ih =>
  intro i k w fr h hk hi ha
  have hz0 := ho.zero hz hk hi ha
  have hkl : k < ks.length := by
   rcases Nat.lt_or_ge k ks.length with h1 | h1
   ·exact h1
   ·exfalso
    cases h with
    | keep h1 => omega
    | fill h2 => exact h2 ⟨hz0.2.1, hz0.2.2, by omega⟩
    | drop h1 => omega
  rw [drop_cons hkl] at ha ⊢
  cases ha with
  | step h1 ha =>
   have ht := (tr_lt hsh hi h1).1
   have hz1 := ho.zero hz (k := k + 1) hkl ht ha
   have hg : goesB rows i k 0 0 (tr A i (ks.getD k 0)) (k + 1) = true := goesB_iff.2 ⟨h1, hz1.1, by rw [hz1.2.1, hz0.2.1]; rfl, by rw [hz1.2.2, hz0.2.2]; rfl⟩
   obtain ⟨m', w', fr', e1, rfl, rfl, hr⟩ := h.inv_keep hkl hg
   obtain rfl : m = m' := by omega
   obtain ⟨rfl, rfl⟩ := ih hr hkl ht ha
   refine ⟨rfl, ?_⟩
   rw [show ks.length - k = (ks.length - (k + 1)) + 1 by omega]; rfl
theorem Tr.short (hsh : A.Shape) (hz : Sz A sz) (hm : ∀ i n, 0 ≤ tr A i n → (i : Int) ≤ tr A i n) {m i k : Nat} {w : List Nat} {fr : List Int} (h : Tr A sz ks rows m i k w fr) : k ≤ ks.length → i < A.next.length → w.length + i + k + 1 ≤ ks.length + A.next.length := by
 induction h with
 | stop h hk => intro _ hi; simp; omega
 | keep hk hg r ih =>
  intro _ hi
  have h2 := goesB_iff.1 hg
  have := ih hk (tr_lt hsh hi h2.1).1
  have := hm _ _ h2.1
  simp only [List.length_cons]; omega
 | @fill m i k n w fr hs hg hn r ih =>
  intro hk hi
  have h2 := fillP_iff.1 (firstN_some hn).1
  have := ih hk (tr_lt hsh hi h2.1).1
  have h3 := hm _ _ h2.1
  have h4 := hz.lo _ _ h2.1
  have h5 : (tr A i n).toNat ≠ i := fun e => by have h6 := h2.2.2.2; rw [e] at h6; omega
  simp only [List.length_cons]; omega
 | drop hk hg hn hc r ih =>
  intro _ hi
  have := ih hk hi
  omega
theorem Tr.short2 (hsh : A.Shape) (hz : Sz A sz) (ho : Opt A sz ks rows) (h2s : A.next.length = 2) (hf : A.final.getD 0 false = true) (hsim : ∀ n, 0 ≤ tr A 1 n → tr A 0 n = tr A 1 n) {m i k : Nat} {w : List Nat} {fr : List Int} (h : Tr A sz ks rows m i k w fr) : k ≤ ks.length → i < A.next.length → w.length + 2 * k ≤ 2 * ks.length + i := by
 have dom : ∀ {ls : List Nat} {d f : Int}, Al A sz 1 ls d f → Al A sz 0 ls d f := by
  intro ls d f h
  generalize hj : (1 : Nat) = j at h
  induction h with
  | done h => exact .done hf
  | keep h r ih => subst hj; have e := hsim _ h; rw [← e] at h r; exact .keep h r
  | drop r ih => exact .drop (ih hj)
  | fill h r ih => subst hj; have e := hsim _ h; rw [← e] at h r; exact .fill h r
 induction h with
 | stop h hk => intro _ hi; simp; omega
 | keep hk hg r ih =>
  intro _ hi
  have h2 := goesB_iff.1 hg
  have ht := (tr_lt hsh hi h2.1).1
  have := ih hk ht
  simp only [List.length_cons]; omega
 | @fill m i k n w fr hs hg hn r ih =>
  intro hk hi
  have h2 := fillP_iff.1 (firstN_some hn).1
  have ht := (tr_lt hsh hi h2.1).1
  have := ih hk ht
  have h4 := hz.lo _ _ h2.1
  have h5 : (tr A i n).toNat ≠ i := fun e => by have h6 := h2.2.2.2; rw [e] at h6; omega
  have h7 : i ≠ 0 := by
   rintro rfl
   have e1 : (tr A 0 n).toNat = 1 := by omega
   rw [e1] at h2
   have h8 := (ho.cel_best hk hi).le _ _ (dom ((ho.cel_best hk (by omega)).al h2.2.1))
   have := h8.2
   omega
  simp only [List.length_cons]; omega
 | drop hk hg hn hc r ih =>
  intro _ hi
  have := ih hk hi
  omega
def used (fr : List Int) : Nat := fr.countP fun z => decide (0 ≤ z)
theorem Tr.from_ (hsh : A.Shape) (ho : Opt A sz ks rows) {m i k : Nat} {w : List Nat} {fr : List Int} (h : Tr A sz ks rows m i k w fr) : k ≤ ks.length → i < A.next.length → fr.length = w.length ∧ (cel rows k i).d + (used fr : Int) = (ks.length : Int) - k := by
 induction h with
 | stop h hk => intro _ _; simp [used]; omega
 | @keep m i k w fr hk hg r ih =>
  intro _ hi
  have h2 := goesB_iff.1 hg
  have h3 := ih hk (tr_lt hsh hi h2.1).1
  have e : used ((k : Int) :: fr) = used fr + 1 := by unfold used; rw [List.countP_cons, if_pos (decide_eq_true (Int.natCast_nonneg k))]
  rw [e]
  simp only [List.length_cons]
  omega
 | @fill m i k n w fr hs hg hn r ih =>
  intro hk hi
  have h2 := fillP_iff.1 (firstN_some hn).1
  have h3 := ih hk (tr_lt hsh hi h2.1).1
  have e : used (-1 :: fr) = used fr := by unfold used; rw [List.countP_cons, if_neg (by decide)]; rfl
  rw [e]
  simp only [List.length_cons]
  omega
 | drop hk hg hn hc r ih =>
  intro _ hi
  have := ih hk hi
  omega
theorem Al.dead (hz : Sz A sz) {q : Nat} (hq : ∀ i, tr A i q < 0) {i : Nat} {ls : List Nat} {d f : Int} (h : Al A sz i ls d f) : q ∈ ls → 1 ≤ d := by
 induction h with
 | done h => intro hm; cases hm
 | @keep i k ks d f h r ih =>
  intro hm
  rcases List.mem_cons.1 hm with rfl | hm
  ·have := hq i; omega
  ·exact ih hm
 | drop r ih =>
  intro hm
  have := (r.nn hz).1
  omega
 | fill h r ih => exact ih
theorem odd_cost (hz : Sz A sz) {q : Nat} (hq : ∀ i, tr A i q < 0) {l1 l2 : List Nat} (hks : ks = l1 ++ q :: l2) (ho : Opt A sz ks rows) {k i : Nat} (hk : k ≤ l1.length) (hi : i < A.next.length) (ha : Acc A i (l1.drop k ++ l2)) : (cel rows k i).ok = true ∧ (cel rows k i).d = 1 ∧ (cel rows k i).f = 0 := by
 have hkl : k ≤ ks.length := by rw [hks, List.length_append]; omega
 have hd : ks.drop k = l1.drop k ++ q :: l2 := by rw [hks, List.drop_append_of_le_length hk]
 have hb := ho.cel_best hkl hi
 rw [hd] at hb
 have h1 := hb.le _ _ ((ha.al (sz := sz)).insert (k := q) (l1.drop k) l2 rfl)
 have h2 := hb.al h1.1
 have h3 := h2.nn hz
 have h4 := h2.dead hz hq (by simp)
 have := h1.2
 exact ⟨h1.1, by omega, by omega⟩
theorem Tr.odd (hsh : A.Shape) (hz : Sz A sz) {q : Nat} (hq : ∀ i, tr A i q < 0) {l1 l2 : List Nat} (hks : ks = l1 ++ q :: l2) (ho : Opt A sz ks rows) : ∀ {m i k : Nat} {w : List Nat} {fr : List Int}, Tr A sz ks rows m i k w fr → k ≤ l1.length → i < A.next.length → Acc A i (l1.drop k ++ l2) → w = l1.drop k ++ l2 ∧ fr = upto k (l1.length - k) ++ upto (l1.length + 1) l2.length := by
 have hkl : ks.length = l1.length + l2.length + 1 := by rw [hks, List.length_append, List.length_cons]; omega
 intro m
 induction m with
 | zero =>
  intro i k w fr h hk hi ha
  cases h with
  | stop h hk => omega
 | succ m ih =>
  intro i k w fr h hk hi ha
  have hc := odd_cost hz hq hks ho hk hi ha
  have hns : ¬ ((cel rows k i).d = 0 ∧ (cel rows k i).f = 0 ∧ k = ks.length) := fun h => by omega
  rcases Nat.lt_or_ge k l1.length with hlt | hge
  ·have hg1 : ks.getD k 0 = l1.getD k 0 := by rw [hks, List.getD_eq_getElem?_getD, List.getElem?_append_left hlt, List.getD_eq_getElem?_getD]
   rw [drop_cons hlt, List.cons_append] at ha ⊢
   cases ha with
   | step h1 ha =>
    have ht := (tr_lt hsh hi h1).1
    have hc1 := odd_cost hz hq hks ho (k := k + 1) hlt ht ha
    have hg : goesB rows i k 0 0 (tr A i (ks.getD k 0)) (k + 1) = true := by rw [hg1]; exact goesB_iff.2 ⟨h1, hc1.1, by rw [hc1.2.1, hc.2.1]; rfl, by rw [hc1.2.2, hc.2.2]; rfl⟩
    obtain ⟨m', w', fr', e1, rfl, rfl, hr⟩ := h.inv_keep (by omega) hg
    obtain rfl : m = m' := by omega
    rw [hg1] at hr ⊢
    obtain ⟨rfl, rfl⟩ := ih hr hlt ht ha
    refine ⟨rfl, ?_⟩
    rw [show l1.length - k = (l1.length - (k + 1)) + 1 by omega]; rfl
  ·obtain rfl : k = l1.length := by omega
   have hg1 : ks.getD l1.length 0 = q := by rw [hks, List.getD_eq_getElem?_getD, List.getElem?_append_right (Nat.le_refl _), Nat.sub_self]; rfl
   have hng : ¬ (l1.length < ks.length ∧ goesB rows i l1.length 0 0 (tr A i (ks.getD l1.length 0)) (l1.length + 1) = true) := by
    rintro ⟨_, h2⟩
    have := (goesB_iff.1 h2).1
    rw [hg1] at this
    have := hq i
    omega
   cases hfn : firstN (fillP A sz rows i l1.length) 8 0 with
   | some n =>
    have h2 := fillP_iff.1 (firstN_some hfn).1
    have h3 := hz.lo _ _ h2.1
    have h4 := ((ho.cel_best (k := l1.length) (by omega) (tr_lt hsh hi h2.1).1).al h2.2.1).nn hz
    omega
   | none =>
    obtain ⟨h1, h2, m', e1, hr⟩ := h.inv_drop hns hng hfn
    rw [List.drop_of_length_le (Nat.le_refl _), List.nil_append] at ha ⊢
    have hd2 : ks.drop (l1.length + 1) = l2 := by rw [hks]; simp
    obtain ⟨rfl, rfl⟩ := hr.fixed hsh hz ho h1 hi (by rw [hd2]; exact ha)
    refine ⟨hd2, ?_⟩
    rw [Nat.sub_self, show ks.length - (l1.length + 1) = l2.length by omega]; rfl
theorem odd_map (w : List Nat) (i : Nat) : (((w.take i).map fun k : Nat => AV.int (k : Int)) ++ [AV.int 3]) ++ ((w.drop i).map fun k : Nat => AV.int (k : Int)) = (w.take i ++ 3 :: w.drop i).map fun k : Nat => AV.int (k : Int) := by
 rw [List.map_append, List.map_cons, List.append_assoc]; rfl
theorem upto2_get (i n j : Nat) (h : j < i + n) : (upto 0 i ++ upto (i + 1) n).getD j 0 = if i ≤ j then ((j + 1 : Nat) : Int) else (j : Int) := by
 rw [List.getD_eq_getElem?_getD]
 split
 ·rename_i h1
  rw [List.getElem?_append_right (by rw [upto_len]; exact h1), upto_len, ← List.getD_eq_getElem?_getD, upto_get _ _ _ (by omega)]
  congr 1; omega
 ·rename_i h1
  rw [List.getElem?_append_left (by rw [upto_len]; omega), ← List.getD_eq_getElem?_getD, upto_get _ _ _ (by omega)]
  congr 1; omega
end
end Fit
end Go.Vl
end
