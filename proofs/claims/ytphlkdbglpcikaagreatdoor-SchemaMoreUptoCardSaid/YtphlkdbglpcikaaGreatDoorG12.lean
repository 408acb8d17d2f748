/-
  Merged: WSPart Change CallM WNew WToGoF WCheap.
-/
import Derived.Test.YtphlkdbglpcikaaGreatDoorG11

section
set_option linter.unusedVariables false
set_option linter.unusedSimpArgs false
set_option maxRecDepth 100000
namespace Go.Proofs.YtphlkdbglpcikaaGreatDoor
open Go.Vl

namespace WSPart
theorem ty9 : Ty Tryz.prog 9 1 16 (.string ⟨#[]⟩) := Ty.of (by kernel_rfl)
theorem ty26 : Ty Tryz.prog 26 1 24 (.slice none 0 0) := Ty.of (by kernel_rfl)
theorem ty28 : Ty Tryz.prog 28 3 56 (.agg #[.string ⟨#[]⟩, .string ⟨#[]⟩, .slice none 0 0]) := Ty.of (by kernel_rfl)
theorem ag9 : IsAgg Tryz.prog 9 false := ⟨_, Tryz.underlying9, rfl⟩
theorem ag26 : IsAgg Tryz.prog 26 false := ⟨_, Tryz.underlying26, rfl⟩
theorem ag28 : IsAgg Tryz.prog 28 true := ⟨_, Tryz.underlying28, rfl⟩
theorem fa28_0 : FieldAt Tryz.prog 28 0 0 1 false := ⟨_, _, Tryz.underlying28, rfl, rfl, ty9.size, ag9, by decide⟩
theorem fa28_1 : FieldAt Tryz.prog 28 1 1 1 false := ⟨_, _, Tryz.underlying28, rfl, rfl, ty9.size, ag9, by decide⟩
theorem fa28_2 : FieldAt Tryz.prog 28 2 2 1 false := ⟨_, _, Tryz.underlying28, rfl, rfl, ty26.size, ag26, by decide⟩
set_option maxHeartbeats 1000000 in
theorem c_form (t : Tp) (h : Sch.formB t = true) : FnP Tryz.prog 49 [tpv t] (.bool true) :=  by
  refine FnC.mk Tryz.func49 (by kernel_rfl) rfl Tryz.ntmps49 rfl (fun w0 F => ?_)
  refine W.seq ?_; refine W.region ?_; refine W.box (.t rfl) rfl rfl ?_; intro b1; refine W.q (Ev.assign .k) rfl ?_; refine W.nil ?_; refine W.then ?_; refine W.seq ?_; refine W.seq ?_; refine W.region ?_
  (refine W.q (Ev.fab (.t rfl) fa28_0) rfl ?_)
  (refine W.q (Ev.ldb1 0 (.t rfl) rfl ag9 rfl) rfl ?_)
  refine W.nil ?_; refine W.then ?_; refine W.block ?_; refine W.seq ?_; refine W.region ?_; refine W.q (Ev.eqs (.t rfl) .k) rfl ?_; refine W.q (Ev.assign (.t rfl)) rfl ?_; refine W.nil ?_; refine W.then ?_; refine W.cond (.t rfl) (fun hc_t5 => ?_) (fun hc_t5 => ?_)
  · skip
    refine W.seq ?_; refine W.region ?_
    (refine W.q (Ev.fab (.t rfl) fa28_1) rfl ?_)
    (refine W.q (Ev.ldb1 0 (.t rfl) rfl ag9 rfl) rfl ?_)
    refine W.q (Ev.eqs (.t rfl) .k) rfl ?_; refine W.q (Ev.move (.t rfl)) rfl ?_
    (refine W.qgT rfl rfl (Ev.fab (.t rfl) fa28_2) rfl ?_)
    (refine W.qgT rfl rfl (Ev.ldb1 0 (.c rfl) rfl ag26 rfl) rfl ?_)
    (refine W.qgT rfl rfl (Ev.lensl (.c rfl) Tryz.underlying26) rfl ?_)
    refine W.qgT rfl rfl (Ev.eqi (.c rfl) .k) rfl ?_; refine W.q (Ev.and (.t rfl) ⟨_, _, rfl, rfl, by ((simp; done))⟩) rfl ?_; refine W.q (Ev.assign (.t rfl)) rfl ?_; refine W.nil ?_; refine W.then ?_; refine W.ret ?_; refine W.blk_ret ?_; refine W.then_ret ?_; refine W.retn (M' := []) (D := _) (rs := [.tmp 2]) (avs := [_]) Tryz.results49 ⟨rfl, trivial⟩ rfl (.refl _) ?_
    exact ⟨congrArg AV.bool (by ((unfold Sch.formB at h; simp_all; done))), rfl⟩
  · skip
    refine W.seq ?_; refine W.seq ?_; refine W.region ?_; refine W.q (Ev.eqs (.t rfl) .k) rfl ?_; refine W.q (Ev.assign (.t rfl)) rfl ?_; refine W.nil ?_; refine W.then ?_; refine W.cond (.t rfl) (fun hc_t16 => ?_) (fun hc_t16 => ?_)
    · skip
      refine W.skip ?_; refine W.then ?_; refine W.cond (.t rfl) (fun hc_t16 => ?_) (fun hc_t16 => ?_)
      · skip
        refine W.seq ?_; refine W.region ?_; refine W.q (Ev.assign .k) rfl ?_; refine W.nil ?_; refine W.then ?_; refine W.ret ?_; refine W.blk_ret ?_; refine W.then_ret ?_; refine W.retn (M' := []) (D := _) (rs := [.tmp 2]) (avs := [_]) Tryz.results49 ⟨rfl, trivial⟩ rfl (.refl _) ?_
        exact ⟨congrArg AV.bool (by ((unfold Sch.formB at h; simp_all; done))), rfl⟩
      · skip
        refine W.seq ?_; refine W.seq ?_; refine W.region ?_; refine W.q (Ev.eqs (.t rfl) .k) rfl ?_; refine W.q (Ev.assign (.t rfl)) rfl ?_; refine W.nil ?_; refine W.then ?_; refine W.cond (.t rfl) (fun hc_t21 => ?_) (fun hc_t21 => ?_)
        · skip
          refine W.skip ?_; refine W.then ?_; refine W.cond (.t rfl) (fun hc_t21 => ?_) (fun hc_t21 => ?_)
          · skip
            refine W.seq ?_; refine W.region ?_
            (refine W.q (Ev.fab (.t rfl) fa28_1) rfl ?_)
            (refine W.q (Ev.ldb1 0 (.t rfl) rfl ag9 rfl) rfl ?_)
            refine W.q (Ev.eqs (.t rfl) .k) rfl ?_; refine W.q (Ev.assign (.t rfl)) rfl ?_; refine W.nil ?_; refine W.then ?_; refine W.ret ?_; refine W.blk_ret ?_; refine W.then_ret ?_; refine W.retn (M' := []) (D := _) (rs := [.tmp 2]) (avs := [_]) Tryz.results49 ⟨rfl, trivial⟩ rfl (.refl _) ?_
            exact ⟨congrArg AV.bool (by ((unfold Sch.formB at h; simp_all; done))), rfl⟩
          · skip
            refine W.skip ?_; refine W.blk_normal ?_; refine W.then ?_; refine W.seq ?_; refine W.region ?_; refine W.q (Ev.assign .k) rfl ?_; refine W.nil ?_; refine W.then ?_; refine W.ret ?_; refine W.retn (M' := []) (D := _) (rs := [.tmp 2]) (avs := [_]) Tryz.results49 ⟨rfl, trivial⟩ rfl (.refl _) ?_
            exact ⟨congrArg AV.bool (by (rfl)), rfl⟩
        · skip
          refine W.seq ?_; refine W.region ?_; refine W.q (Ev.eqs (.t rfl) .k) rfl ?_; refine W.q (Ev.assign (.t rfl)) rfl ?_; refine W.nil ?_; refine W.then ?_; refine W.cond (.t rfl) (fun hc_t21 => ?_) (fun hc_t21 => ?_)
          · skip
            refine W.skip ?_; refine W.then ?_; refine W.cond (.t rfl) (fun hc_t21 => ?_) (fun hc_t21 => ?_)
            · skip
              refine W.seq ?_; refine W.region ?_
              (refine W.q (Ev.fab (.t rfl) fa28_1) rfl ?_)
              (refine W.q (Ev.ldb1 0 (.t rfl) rfl ag9 rfl) rfl ?_)
              refine W.q (Ev.eqs (.t rfl) .k) rfl ?_; refine W.q (Ev.assign (.t rfl)) rfl ?_; refine W.nil ?_; refine W.then ?_; refine W.ret ?_; refine W.blk_ret ?_; refine W.then_ret ?_; refine W.retn (M' := []) (D := _) (rs := [.tmp 2]) (avs := [_]) Tryz.results49 ⟨rfl, trivial⟩ rfl (.refl _) ?_
              exact ⟨congrArg AV.bool (by ((unfold Sch.formB at h; simp_all; done))), rfl⟩
            · skip
              refine W.skip ?_; refine W.blk_normal ?_; refine W.then ?_; refine W.seq ?_; refine W.region ?_; refine W.q (Ev.assign .k) rfl ?_; refine W.nil ?_; refine W.then ?_; refine W.ret ?_; refine W.retn (M' := []) (D := _) (rs := [.tmp 2]) (avs := [_]) Tryz.results49 ⟨rfl, trivial⟩ rfl (.refl _) ?_
              exact ⟨congrArg AV.bool (by (rfl)), rfl⟩
          · skip
            refine W.seq ?_; refine W.region ?_; refine W.q (Ev.eqs (.t rfl) .k) rfl ?_; refine W.q (Ev.assign (.t rfl)) rfl ?_; refine W.nil ?_; refine W.then ?_; refine W.cond (.t rfl) (fun hc_t21 => ?_) (fun hc_t21 => ?_)
            · skip
              refine W.skip ?_; refine W.then ?_; refine W.cond (.t rfl) (fun hc_t21 => ?_) (fun hc_t21 => ?_)
              · skip
                refine W.seq ?_; refine W.region ?_
                (refine W.q (Ev.fab (.t rfl) fa28_1) rfl ?_)
                (refine W.q (Ev.ldb1 0 (.t rfl) rfl ag9 rfl) rfl ?_)
                refine W.q (Ev.eqs (.t rfl) .k) rfl ?_; refine W.q (Ev.assign (.t rfl)) rfl ?_; refine W.nil ?_; refine W.then ?_; refine W.ret ?_; refine W.blk_ret ?_; refine W.then_ret ?_; refine W.retn (M' := []) (D := _) (rs := [.tmp 2]) (avs := [_]) Tryz.results49 ⟨rfl, trivial⟩ rfl (.refl _) ?_
                exact ⟨congrArg AV.bool (by ((unfold Sch.formB at h; simp_all; done))), rfl⟩
              · skip
                refine W.skip ?_; refine W.blk_normal ?_; refine W.then ?_; refine W.seq ?_; refine W.region ?_; refine W.q (Ev.assign .k) rfl ?_; refine W.nil ?_; refine W.then ?_; refine W.ret ?_; refine W.retn (M' := []) (D := _) (rs := [.tmp 2]) (avs := [_]) Tryz.results49 ⟨rfl, trivial⟩ rfl (.refl _) ?_
                exact ⟨congrArg AV.bool (by (rfl)), rfl⟩
            · skip
              refine W.region ?_; refine W.q (Ev.eqs (.t rfl) .k) rfl ?_; refine W.q (Ev.assign (.t rfl)) rfl ?_; refine W.nil ?_; refine W.then ?_; refine W.cond (.t rfl) (fun hc_t21 => ?_) (fun hc_t21 => ?_)
              · skip
                refine W.seq ?_; refine W.region ?_
                (refine W.q (Ev.fab (.t rfl) fa28_1) rfl ?_)
                (refine W.q (Ev.ldb1 0 (.t rfl) rfl ag9 rfl) rfl ?_)
                refine W.q (Ev.eqs (.t rfl) .k) rfl ?_; refine W.q (Ev.assign (.t rfl)) rfl ?_; refine W.nil ?_; refine W.then ?_; refine W.ret ?_; refine W.blk_ret ?_; refine W.then_ret ?_; refine W.retn (M' := []) (D := _) (rs := [.tmp 2]) (avs := [_]) Tryz.results49 ⟨rfl, trivial⟩ rfl (.refl _) ?_
                exact ⟨congrArg AV.bool (by ((unfold Sch.formB at h; simp_all; done))), rfl⟩
              · skip
                refine W.skip ?_; refine W.blk_normal ?_; refine W.then ?_; refine W.seq ?_; refine W.region ?_; refine W.q (Ev.assign .k) rfl ?_; refine W.nil ?_; refine W.then ?_; refine W.ret ?_; refine W.retn (M' := []) (D := _) (rs := [.tmp 2]) (avs := [_]) Tryz.results49 ⟨rfl, trivial⟩ rfl (.refl _) ?_
                exact ⟨congrArg AV.bool (by (rfl)), rfl⟩
    · skip
      refine W.seq ?_; refine W.region ?_; refine W.q (Ev.eqs (.t rfl) .k) rfl ?_; refine W.q (Ev.assign (.t rfl)) rfl ?_; refine W.nil ?_; refine W.then ?_; refine W.cond (.t rfl) (fun hc_t16 => ?_) (fun hc_t16 => ?_)
      · skip
        refine W.skip ?_; refine W.then ?_; refine W.cond (.t rfl) (fun hc_t16 => ?_) (fun hc_t16 => ?_)
        · skip
          refine W.seq ?_; refine W.region ?_; refine W.q (Ev.assign .k) rfl ?_; refine W.nil ?_; refine W.then ?_; refine W.ret ?_; refine W.blk_ret ?_; refine W.then_ret ?_; refine W.retn (M' := []) (D := _) (rs := [.tmp 2]) (avs := [_]) Tryz.results49 ⟨rfl, trivial⟩ rfl (.refl _) ?_
          exact ⟨congrArg AV.bool (by ((unfold Sch.formB at h; simp_all; done))), rfl⟩
        · skip
          refine W.seq ?_; refine W.seq ?_; refine W.region ?_; refine W.q (Ev.eqs (.t rfl) .k) rfl ?_; refine W.q (Ev.assign (.t rfl)) rfl ?_; refine W.nil ?_; refine W.then ?_; refine W.cond (.t rfl) (fun hc_t21 => ?_) (fun hc_t21 => ?_)
          · skip
            refine W.skip ?_; refine W.then ?_; refine W.cond (.t rfl) (fun hc_t21 => ?_) (fun hc_t21 => ?_)
            · skip
              refine W.seq ?_; refine W.region ?_
              (refine W.q (Ev.fab (.t rfl) fa28_1) rfl ?_)
              (refine W.q (Ev.ldb1 0 (.t rfl) rfl ag9 rfl) rfl ?_)
              refine W.q (Ev.eqs (.t rfl) .k) rfl ?_; refine W.q (Ev.assign (.t rfl)) rfl ?_; refine W.nil ?_; refine W.then ?_; refine W.ret ?_; refine W.blk_ret ?_; refine W.then_ret ?_; refine W.retn (M' := []) (D := _) (rs := [.tmp 2]) (avs := [_]) Tryz.results49 ⟨rfl, trivial⟩ rfl (.refl _) ?_
              exact ⟨congrArg AV.bool (by ((unfold Sch.formB at h; simp_all; done))), rfl⟩
            · skip
              refine W.skip ?_; refine W.blk_normal ?_; refine W.then ?_; refine W.seq ?_; refine W.region ?_; refine W.q (Ev.assign .k) rfl ?_; refine W.nil ?_; refine W.then ?_; refine W.ret ?_; refine W.retn (M' := []) (D := _) (rs := [.tmp 2]) (avs := [_]) Tryz.results49 ⟨rfl, trivial⟩ rfl (.refl _) ?_
              exact ⟨congrArg AV.bool (by (rfl)), rfl⟩
          · skip
            refine W.seq ?_; refine W.region ?_; refine W.q (Ev.eqs (.t rfl) .k) rfl ?_; refine W.q (Ev.assign (.t rfl)) rfl ?_; refine W.nil ?_; refine W.then ?_; refine W.cond (.t rfl) (fun hc_t21 => ?_) (fun hc_t21 => ?_)
            · skip
              refine W.skip ?_; refine W.then ?_; refine W.cond (.t rfl) (fun hc_t21 => ?_) (fun hc_t21 => ?_)
              · skip
                refine W.seq ?_; refine W.region ?_
                (refine W.q (Ev.fab (.t rfl) fa28_1) rfl ?_)
                (refine W.q (Ev.ldb1 0 (.t rfl) rfl ag9 rfl) rfl ?_)
                refine W.q (Ev.eqs (.t rfl) .k) rfl ?_; refine W.q (Ev.assign (.t rfl)) rfl ?_; refine W.nil ?_; refine W.then ?_; refine W.ret ?_; refine W.blk_ret ?_; refine W.then_ret ?_; refine W.retn (M' := []) (D := _) (rs := [.tmp 2]) (avs := [_]) Tryz.results49 ⟨rfl, trivial⟩ rfl (.refl _) ?_
                exact ⟨congrArg AV.bool (by ((unfold Sch.formB at h; simp_all; done))), rfl⟩
              · skip
                refine W.skip ?_; refine W.blk_normal ?_; refine W.then ?_; refine W.seq ?_; refine W.region ?_; refine W.q (Ev.assign .k) rfl ?_; refine W.nil ?_; refine W.then ?_; refine W.ret ?_; refine W.retn (M' := []) (D := _) (rs := [.tmp 2]) (avs := [_]) Tryz.results49 ⟨rfl, trivial⟩ rfl (.refl _) ?_
                exact ⟨congrArg AV.bool (by (rfl)), rfl⟩
            · skip
              refine W.seq ?_; refine W.region ?_; refine W.q (Ev.eqs (.t rfl) .k) rfl ?_; refine W.q (Ev.assign (.t rfl)) rfl ?_; refine W.nil ?_; refine W.then ?_; refine W.cond (.t rfl) (fun hc_t21 => ?_) (fun hc_t21 => ?_)
              · skip
                refine W.skip ?_; refine W.then ?_; refine W.cond (.t rfl) (fun hc_t21 => ?_) (fun hc_t21 => ?_)
                · skip
                  refine W.seq ?_; refine W.region ?_
                  (refine W.q (Ev.fab (.t rfl) fa28_1) rfl ?_)
                  (refine W.q (Ev.ldb1 0 (.t rfl) rfl ag9 rfl) rfl ?_)
                  refine W.q (Ev.eqs (.t rfl) .k) rfl ?_; refine W.q (Ev.assign (.t rfl)) rfl ?_; refine W.nil ?_; refine W.then ?_; refine W.ret ?_; refine W.blk_ret ?_; refine W.then_ret ?_; refine W.retn (M' := []) (D := _) (rs := [.tmp 2]) (avs := [_]) Tryz.results49 ⟨rfl, trivial⟩ rfl (.refl _) ?_
                  exact ⟨congrArg AV.bool (by ((unfold Sch.formB at h; simp_all; done))), rfl⟩
                · skip
                  refine W.skip ?_; refine W.blk_normal ?_; refine W.then ?_; refine W.seq ?_; refine W.region ?_; refine W.q (Ev.assign .k) rfl ?_; refine W.nil ?_; refine W.then ?_; refine W.ret ?_; refine W.retn (M' := []) (D := _) (rs := [.tmp 2]) (avs := [_]) Tryz.results49 ⟨rfl, trivial⟩ rfl (.refl _) ?_
                  exact ⟨congrArg AV.bool (by (rfl)), rfl⟩
              · skip
                refine W.region ?_; refine W.q (Ev.eqs (.t rfl) .k) rfl ?_; refine W.q (Ev.assign (.t rfl)) rfl ?_; refine W.nil ?_; refine W.then ?_; refine W.cond (.t rfl) (fun hc_t21 => ?_) (fun hc_t21 => ?_)
                · skip
                  refine W.seq ?_; refine W.region ?_
                  (refine W.q (Ev.fab (.t rfl) fa28_1) rfl ?_)
                  (refine W.q (Ev.ldb1 0 (.t rfl) rfl ag9 rfl) rfl ?_)
                  refine W.q (Ev.eqs (.t rfl) .k) rfl ?_; refine W.q (Ev.assign (.t rfl)) rfl ?_; refine W.nil ?_; refine W.then ?_; refine W.ret ?_; refine W.blk_ret ?_; refine W.then_ret ?_; refine W.retn (M' := []) (D := _) (rs := [.tmp 2]) (avs := [_]) Tryz.results49 ⟨rfl, trivial⟩ rfl (.refl _) ?_
                  exact ⟨congrArg AV.bool (by ((unfold Sch.formB at h; simp_all; done))), rfl⟩
                · skip
                  refine W.skip ?_; refine W.blk_normal ?_; refine W.then ?_; refine W.seq ?_; refine W.region ?_; refine W.q (Ev.assign .k) rfl ?_; refine W.nil ?_; refine W.then ?_; refine W.ret ?_; refine W.retn (M' := []) (D := _) (rs := [.tmp 2]) (avs := [_]) Tryz.results49 ⟨rfl, trivial⟩ rfl (.refl _) ?_
                  exact ⟨congrArg AV.bool (by (rfl)), rfl⟩
      · skip
        refine W.seq ?_; refine W.region ?_; refine W.q (Ev.eqs (.t rfl) .k) rfl ?_; refine W.q (Ev.assign (.t rfl)) rfl ?_; refine W.nil ?_; refine W.then ?_; refine W.cond (.t rfl) (fun hc_t16 => ?_) (fun hc_t16 => ?_)
        · skip
          refine W.skip ?_; refine W.then ?_; refine W.cond (.t rfl) (fun hc_t16 => ?_) (fun hc_t16 => ?_)
          · skip
            refine W.seq ?_; refine W.region ?_; refine W.q (Ev.assign .k) rfl ?_; refine W.nil ?_; refine W.then ?_; refine W.ret ?_; refine W.blk_ret ?_; refine W.then_ret ?_; refine W.retn (M' := []) (D := _) (rs := [.tmp 2]) (avs := [_]) Tryz.results49 ⟨rfl, trivial⟩ rfl (.refl _) ?_
            exact ⟨congrArg AV.bool (by ((unfold Sch.formB at h; simp_all; done))), rfl⟩
          · skip
            refine W.seq ?_; refine W.seq ?_; refine W.region ?_; refine W.q (Ev.eqs (.t rfl) .k) rfl ?_; refine W.q (Ev.assign (.t rfl)) rfl ?_; refine W.nil ?_; refine W.then ?_; refine W.cond (.t rfl) (fun hc_t21 => ?_) (fun hc_t21 => ?_)
            · skip
              refine W.skip ?_; refine W.then ?_; refine W.cond (.t rfl) (fun hc_t21 => ?_) (fun hc_t21 => ?_)
              · skip
                refine W.seq ?_; refine W.region ?_
                (refine W.q (Ev.fab (.t rfl) fa28_1) rfl ?_)
                (refine W.q (Ev.ldb1 0 (.t rfl) rfl ag9 rfl) rfl ?_)
                refine W.q (Ev.eqs (.t rfl) .k) rfl ?_; refine W.q (Ev.assign (.t rfl)) rfl ?_; refine W.nil ?_; refine W.then ?_; refine W.ret ?_; refine W.blk_ret ?_; refine W.then_ret ?_; refine W.retn (M' := []) (D := _) (rs := [.tmp 2]) (avs := [_]) Tryz.results49 ⟨rfl, trivial⟩ rfl (.refl _) ?_
                exact ⟨congrArg AV.bool (by ((unfold Sch.formB at h; simp_all; done))), rfl⟩
              · skip
                refine W.skip ?_; refine W.blk_normal ?_; refine W.then ?_; refine W.seq ?_; refine W.region ?_; refine W.q (Ev.assign .k) rfl ?_; refine W.nil ?_; refine W.then ?_; refine W.ret ?_; refine W.retn (M' := []) (D := _) (rs := [.tmp 2]) (avs := [_]) Tryz.results49 ⟨rfl, trivial⟩ rfl (.refl _) ?_
                exact ⟨congrArg AV.bool (by (rfl)), rfl⟩
            · skip
              refine W.seq ?_; refine W.region ?_; refine W.q (Ev.eqs (.t rfl) .k) rfl ?_; refine W.q (Ev.assign (.t rfl)) rfl ?_; refine W.nil ?_; refine W.then ?_; refine W.cond (.t rfl) (fun hc_t21 => ?_) (fun hc_t21 => ?_)
              · skip
                refine W.skip ?_; refine W.then ?_; refine W.cond (.t rfl) (fun hc_t21 => ?_) (fun hc_t21 => ?_)
                · skip
                  refine W.seq ?_; refine W.region ?_
                  (refine W.q (Ev.fab (.t rfl) fa28_1) rfl ?_)
                  (refine W.q (Ev.ldb1 0 (.t rfl) rfl ag9 rfl) rfl ?_)
                  refine W.q (Ev.eqs (.t rfl) .k) rfl ?_; refine W.q (Ev.assign (.t rfl)) rfl ?_; refine W.nil ?_; refine W.then ?_; refine W.ret ?_; refine W.blk_ret ?_; refine W.then_ret ?_; refine W.retn (M' := []) (D := _) (rs := [.tmp 2]) (avs := [_]) Tryz.results49 ⟨rfl, trivial⟩ rfl (.refl _) ?_
                  exact ⟨congrArg AV.bool (by ((unfold Sch.formB at h; simp_all; done))), rfl⟩
                · skip
                  refine W.skip ?_; refine W.blk_normal ?_; refine W.then ?_; refine W.seq ?_; refine W.region ?_; refine W.q (Ev.assign .k) rfl ?_; refine W.nil ?_; refine W.then ?_; refine W.ret ?_; refine W.retn (M' := []) (D := _) (rs := [.tmp 2]) (avs := [_]) Tryz.results49 ⟨rfl, trivial⟩ rfl (.refl _) ?_
                  exact ⟨congrArg AV.bool (by (rfl)), rfl⟩
              · skip
                refine W.seq ?_; refine W.region ?_; refine W.q (Ev.eqs (.t rfl) .k) rfl ?_; refine W.q (Ev.assign (.t rfl)) rfl ?_; refine W.nil ?_; refine W.then ?_; refine W.cond (.t rfl) (fun hc_t21 => ?_) (fun hc_t21 => ?_)
                · skip
                  refine W.skip ?_; refine W.then ?_; refine W.cond (.t rfl) (fun hc_t21 => ?_) (fun hc_t21 => ?_)
                  · skip
                    refine W.seq ?_; refine W.region ?_
                    (refine W.q (Ev.fab (.t rfl) fa28_1) rfl ?_)
                    (refine W.q (Ev.ldb1 0 (.t rfl) rfl ag9 rfl) rfl ?_)
                    refine W.q (Ev.eqs (.t rfl) .k) rfl ?_; refine W.q (Ev.assign (.t rfl)) rfl ?_; refine W.nil ?_; refine W.then ?_; refine W.ret ?_; refine W.blk_ret ?_; refine W.then_ret ?_; refine W.retn (M' := []) (D := _) (rs := [.tmp 2]) (avs := [_]) Tryz.results49 ⟨rfl, trivial⟩ rfl (.refl _) ?_
                    exact ⟨congrArg AV.bool (by ((unfold Sch.formB at h; simp_all; done))), rfl⟩
                  · skip
                    refine W.skip ?_; refine W.blk_normal ?_; refine W.then ?_; refine W.seq ?_; refine W.region ?_; refine W.q (Ev.assign .k) rfl ?_; refine W.nil ?_; refine W.then ?_; refine W.ret ?_; refine W.retn (M' := []) (D := _) (rs := [.tmp 2]) (avs := [_]) Tryz.results49 ⟨rfl, trivial⟩ rfl (.refl _) ?_
                    exact ⟨congrArg AV.bool (by (rfl)), rfl⟩
                · skip
                  refine W.region ?_; refine W.q (Ev.eqs (.t rfl) .k) rfl ?_; refine W.q (Ev.assign (.t rfl)) rfl ?_; refine W.nil ?_; refine W.then ?_; refine W.cond (.t rfl) (fun hc_t21 => ?_) (fun hc_t21 => ?_)
                  · skip
                    refine W.seq ?_; refine W.region ?_
                    (refine W.q (Ev.fab (.t rfl) fa28_1) rfl ?_)
                    (refine W.q (Ev.ldb1 0 (.t rfl) rfl ag9 rfl) rfl ?_)
                    refine W.q (Ev.eqs (.t rfl) .k) rfl ?_; refine W.q (Ev.assign (.t rfl)) rfl ?_; refine W.nil ?_; refine W.then ?_; refine W.ret ?_; refine W.blk_ret ?_; refine W.then_ret ?_; refine W.retn (M' := []) (D := _) (rs := [.tmp 2]) (avs := [_]) Tryz.results49 ⟨rfl, trivial⟩ rfl (.refl _) ?_
                    exact ⟨congrArg AV.bool (by ((unfold Sch.formB at h; simp_all; done))), rfl⟩
                  · skip
                    refine W.skip ?_; refine W.blk_normal ?_; refine W.then ?_; refine W.seq ?_; refine W.region ?_; refine W.q (Ev.assign .k) rfl ?_; refine W.nil ?_; refine W.then ?_; refine W.ret ?_; refine W.retn (M' := []) (D := _) (rs := [.tmp 2]) (avs := [_]) Tryz.results49 ⟨rfl, trivial⟩ rfl (.refl _) ?_
                    exact ⟨congrArg AV.bool (by (rfl)), rfl⟩
        · skip
          refine W.region ?_; refine W.q (Ev.eqs (.t rfl) .k) rfl ?_; refine W.q (Ev.assign (.t rfl)) rfl ?_; refine W.nil ?_; refine W.then ?_; refine W.cond (.t rfl) (fun hc_t16 => ?_) (fun hc_t16 => ?_)
          · skip
            refine W.seq ?_; refine W.region ?_; refine W.q (Ev.assign .k) rfl ?_; refine W.nil ?_; refine W.then ?_; refine W.ret ?_; refine W.blk_ret ?_; refine W.then_ret ?_; refine W.retn (M' := []) (D := _) (rs := [.tmp 2]) (avs := [_]) Tryz.results49 ⟨rfl, trivial⟩ rfl (.refl _) ?_
            exact ⟨congrArg AV.bool (by ((unfold Sch.formB at h; simp_all; done))), rfl⟩
          · skip
            refine W.seq ?_; refine W.seq ?_; refine W.region ?_; refine W.q (Ev.eqs (.t rfl) .k) rfl ?_; refine W.q (Ev.assign (.t rfl)) rfl ?_; refine W.nil ?_; refine W.then ?_; refine W.cond (.t rfl) (fun hc_t21 => ?_) (fun hc_t21 => ?_)
            · skip
              refine W.skip ?_; refine W.then ?_; refine W.cond (.t rfl) (fun hc_t21 => ?_) (fun hc_t21 => ?_)
              · skip
                refine W.seq ?_; refine W.region ?_
                (refine W.q (Ev.fab (.t rfl) fa28_1) rfl ?_)
                (refine W.q (Ev.ldb1 0 (.t rfl) rfl ag9 rfl) rfl ?_)
                refine W.q (Ev.eqs (.t rfl) .k) rfl ?_; refine W.q (Ev.assign (.t rfl)) rfl ?_; refine W.nil ?_; refine W.then ?_; refine W.ret ?_; refine W.blk_ret ?_; refine W.then_ret ?_; refine W.retn (M' := []) (D := _) (rs := [.tmp 2]) (avs := [_]) Tryz.results49 ⟨rfl, trivial⟩ rfl (.refl _) ?_
                exact ⟨congrArg AV.bool (by ((unfold Sch.formB at h; simp_all; done))), rfl⟩
              · skip
                refine W.skip ?_; refine W.blk_normal ?_; refine W.then ?_; refine W.seq ?_; refine W.region ?_; refine W.q (Ev.assign .k) rfl ?_; refine W.nil ?_; refine W.then ?_; refine W.ret ?_; refine W.retn (M' := []) (D := _) (rs := [.tmp 2]) (avs := [_]) Tryz.results49 ⟨rfl, trivial⟩ rfl (.refl _) ?_
                exact ⟨congrArg AV.bool (by (rfl)), rfl⟩
            · skip
              refine W.seq ?_; refine W.region ?_; refine W.q (Ev.eqs (.t rfl) .k) rfl ?_; refine W.q (Ev.assign (.t rfl)) rfl ?_; refine W.nil ?_; refine W.then ?_; refine W.cond (.t rfl) (fun hc_t21 => ?_) (fun hc_t21 => ?_)
              · skip
                refine W.skip ?_; refine W.then ?_; refine W.cond (.t rfl) (fun hc_t21 => ?_) (fun hc_t21 => ?_)
                · skip
                  refine W.seq ?_; refine W.region ?_
                  (refine W.q (Ev.fab (.t rfl) fa28_1) rfl ?_)
                  (refine W.q (Ev.ldb1 0 (.t rfl) rfl ag9 rfl) rfl ?_)
                  refine W.q (Ev.eqs (.t rfl) .k) rfl ?_; refine W.q (Ev.assign (.t rfl)) rfl ?_; refine W.nil ?_; refine W.then ?_; refine W.ret ?_; refine W.blk_ret ?_; refine W.then_ret ?_; refine W.retn (M' := []) (D := _) (rs := [.tmp 2]) (avs := [_]) Tryz.results49 ⟨rfl, trivial⟩ rfl (.refl _) ?_
                  exact ⟨congrArg AV.bool (by ((unfold Sch.formB at h; simp_all; done))), rfl⟩
                · skip
                  refine W.skip ?_; refine W.blk_normal ?_; refine W.then ?_; refine W.seq ?_; refine W.region ?_; refine W.q (Ev.assign .k) rfl ?_; refine W.nil ?_; refine W.then ?_; refine W.ret ?_; refine W.retn (M' := []) (D := _) (rs := [.tmp 2]) (avs := [_]) Tryz.results49 ⟨rfl, trivial⟩ rfl (.refl _) ?_
                  exact ⟨congrArg AV.bool (by (rfl)), rfl⟩
              · skip
                refine W.seq ?_; refine W.region ?_; refine W.q (Ev.eqs (.t rfl) .k) rfl ?_; refine W.q (Ev.assign (.t rfl)) rfl ?_; refine W.nil ?_; refine W.then ?_; refine W.cond (.t rfl) (fun hc_t21 => ?_) (fun hc_t21 => ?_)
                · skip
                  refine W.skip ?_; refine W.then ?_; refine W.cond (.t rfl) (fun hc_t21 => ?_) (fun hc_t21 => ?_)
                  · skip
                    refine W.seq ?_; refine W.region ?_
                    (refine W.q (Ev.fab (.t rfl) fa28_1) rfl ?_)
                    (refine W.q (Ev.ldb1 0 (.t rfl) rfl ag9 rfl) rfl ?_)
                    refine W.q (Ev.eqs (.t rfl) .k) rfl ?_; refine W.q (Ev.assign (.t rfl)) rfl ?_; refine W.nil ?_; refine W.then ?_; refine W.ret ?_; refine W.blk_ret ?_; refine W.then_ret ?_; refine W.retn (M' := []) (D := _) (rs := [.tmp 2]) (avs := [_]) Tryz.results49 ⟨rfl, trivial⟩ rfl (.refl _) ?_
                    exact ⟨congrArg AV.bool (by ((unfold Sch.formB at h; simp_all; done))), rfl⟩
                  · skip
                    refine W.skip ?_; refine W.blk_normal ?_; refine W.then ?_; refine W.seq ?_; refine W.region ?_; refine W.q (Ev.assign .k) rfl ?_; refine W.nil ?_; refine W.then ?_; refine W.ret ?_; refine W.retn (M' := []) (D := _) (rs := [.tmp 2]) (avs := [_]) Tryz.results49 ⟨rfl, trivial⟩ rfl (.refl _) ?_
                    exact ⟨congrArg AV.bool (by (rfl)), rfl⟩
                · skip
                  refine W.region ?_; refine W.q (Ev.eqs (.t rfl) .k) rfl ?_; refine W.q (Ev.assign (.t rfl)) rfl ?_; refine W.nil ?_; refine W.then ?_; refine W.cond (.t rfl) (fun hc_t21 => ?_) (fun hc_t21 => ?_)
                  · skip
                    refine W.seq ?_; refine W.region ?_
                    (refine W.q (Ev.fab (.t rfl) fa28_1) rfl ?_)
                    (refine W.q (Ev.ldb1 0 (.t rfl) rfl ag9 rfl) rfl ?_)
                    refine W.q (Ev.eqs (.t rfl) .k) rfl ?_; refine W.q (Ev.assign (.t rfl)) rfl ?_; refine W.nil ?_; refine W.then ?_; refine W.ret ?_; refine W.blk_ret ?_; refine W.then_ret ?_; refine W.retn (M' := []) (D := _) (rs := [.tmp 2]) (avs := [_]) Tryz.results49 ⟨rfl, trivial⟩ rfl (.refl _) ?_
                    exact ⟨congrArg AV.bool (by ((unfold Sch.formB at h; simp_all; done))), rfl⟩
                  · skip
                    refine W.skip ?_; refine W.blk_normal ?_; refine W.then ?_; refine W.seq ?_; refine W.region ?_; refine W.q (Ev.assign .k) rfl ?_; refine W.nil ?_; refine W.then ?_; refine W.ret ?_; refine W.retn (M' := []) (D := _) (rs := [.tmp 2]) (avs := [_]) Tryz.results49 ⟨rfl, trivial⟩ rfl (.refl _) ?_
                    exact ⟨congrArg AV.bool (by (rfl)), rfl⟩

theorem c_attrs1 (s : List UInt8) (h : s.length ≤ 1000) : FnP Tryz.prog 87 [.str s] (.bool (!(nameOk s))) :=  by
  refine FnC.mk Tryz.func87 (by kernel_rfl) rfl Tryz.ntmps87 rfl (fun w0 F => ?_)
  refine W.seq ?_; refine W.region ?_; refine W.q (Ev.assign .k) rfl ?_; refine W.nil ?_; refine W.then ?_; refine W.seq ?_; refine W.region ?_; refine W.q (Ev.move (.t rfl)) rfl ?_; refine W.callp (WName.c_Name s (by omega)) ⟨(.t rfl), trivial⟩ rfl ?_; refine W.q (Ev.not (.t rfl)) rfl ?_; refine W.q (Ev.assign (.t rfl)) rfl ?_; refine W.nil ?_; refine W.then ?_; refine W.ret ?_; refine W.retn (M' := []) (D := _) (rs := [.tmp 2]) (avs := [_]) Tryz.results87 ⟨rfl, trivial⟩ rfl (.refl _) ?_
  exact ⟨rfl, rfl⟩

theorem c_attrs (l : List (List UInt8)) (h : Sch.attrsB l = true) : FnP Tryz.prog 50 [.sl 1 (l.map AV.str)] (.int 0) :=  by
  refine FnC.mk Tryz.func50 (by kernel_rfl) rfl Tryz.ntmps50 rfl (fun w0 F => ?_)
  have hll : (l.map AV.str).length = l.length := List.length_map ..
  simp only [Sch.attrsB, Bool.and_eq_true, decide_eq_true_eq] at h
  obtain ⟨⟨hall, hlen⟩, hdup⟩ := h
  have hal := List.all_eq_true.1 hall
  have hany : (l.any fun s => !(nameOk s)) = false := by rw [List.any_eq_false]; intro s hs; have := hal s hs; simp only [Bool.and_eq_true] at this; rw [this.1]; decide
  refine W.seq ?_; refine W.region ?_; refine W.q (Ev.assign .k) rfl ?_; refine W.nil ?_; refine W.then ?_; refine W.seq ?_; refine W.seq ?_; refine W.region ?_; refine W.q (Ev.move (.t rfl)) rfl ?_; refine W.call (WSLib.c_ContainsFuncS l 87 [] [] (fun s => !(nameOk s)) (fun s hs => c_attrs1 s (by have := hal s hs; simp only [Bool.and_eq_true, decide_eq_true_eq] at this; exact this.2)) (by omega)) ⟨(.t rfl), .f, trivial⟩ (.refl _) rfl ?_
  rintro _ _ ⟨rfl, rfl⟩
  refine W.nil ?_; refine W.then ?_; refine W.is (t := 6) (g := true) (av' := .lit (.bool false)) rfl (congrArg (fun b => AV.lit (.bool b)) (by exact hany)) ?_; refine W.condF (.t rfl) ?_; refine W.skip ?_; refine W.then ?_; refine W.seq ?_; refine W.seq ?_; refine W.region ?_; refine W.q (Ev.move (.t rfl)) rfl ?_
  (refine W.q (Ev.lensl (.t rfl) Tryz.underlying26) rfl ?_)
  refine W.q (Ev.gti (.t rfl) .k) rfl ?_; refine W.nil ?_; refine W.then ?_; refine W.is (t := 9) (g := true) (av' := .lit (.bool false)) rfl (congrArg (fun b => AV.lit (.bool b)) (by exact decide_eq_false (by omega))) ?_; refine W.condF (.t rfl) ?_; refine W.skip ?_; refine W.then ?_; refine W.seq ?_; refine W.seq ?_; refine W.region ?_; refine W.q (Ev.move (.t rfl)) rfl ?_
  (refine W.q (Ev.lensl (.t rfl) Tryz.underlying26) rfl ?_)
  refine W.q (Ev.move .k) rfl ?_; refine W.nil ?_; refine W.then ?_; refine W.block ?_; refine W.loop (D := []) (ι := Nat) (fun i => [(12, true, .int (i : Int)), (11, true, .int ((l.map AV.str).length : Int)), (10, true, .sl 1 (l.map AV.str)), (0, true, .sl 1 (l.map AV.str))]) (fun _ => []) (fun i => i ≤ l.length) (fun i => l.length - i) 0 ⟨rfl, rfl, rfl, rfl, trivial⟩ (.refl _) (Nat.zero_le _) ?_; intro i hi
  dsimp only at hi ⊢
  rcases (show i < l.length ∨ i = l.length from by omega) with hlt | hend
  · have hga := getD_mapG AV.str [] l i hlt
    have h1 : ((l.take i).any fun s => l.getD i [] == s) = false := by simpa using List.all_eq_true.1 hdup i (List.mem_range.2 hlt)
    refine W.seq ?_; refine W.region ?_; refine W.q (Ev.lti (.t rfl) (.t rfl)) rfl ?_; refine W.nil ?_; refine W.then ?_; refine W.seq ?_; refine W.is (t := 13) (g := true) (av' := .lit (.bool true)) rfl (congrArg (fun b => AV.lit (.bool b)) (by exact decide_eq_true (by omega))) ?_; refine W.condT (.t rfl) ?_; refine W.skip ?_; refine W.then ?_; refine W.seq ?_; refine W.block ?_; refine W.seq ?_; refine W.region ?_; refine W.q (Ev.move (.t rfl)) rfl ?_; refine W.q (Ev.at (E := 9) (.t rfl) (.t rfl) Tryz.underlying26 ty9 (fun _ => ⟨by omega, hga⟩) rfl rfl) rfl ?_
    (refine W.q (Ev.lde1 (.t rfl) ag9) rfl ?_)
    refine W.q (Ev.assign (.t rfl)) rfl ?_; refine W.q (Ev.assign (.t rfl)) rfl ?_; refine W.nil ?_; refine W.then ?_; refine W.seq ?_; refine W.region ?_; refine W.q (Ev.move (.t rfl)) rfl ?_; refine W.q (Ev.move (.t rfl)) rfl ?_; refine W.q (Ev.takesl (n := i) (.t rfl) Tryz.underlying26 ty9 (.t rfl) rfl (fun _ => by omega)) rfl ?_; refine W.q (Ev.move (.t rfl)) rfl ?_; refine W.callp (WSLib.c_Contains (l.take i) (l.getD i []) (by rw [List.length_take]; omega)) ⟨(.t rfl), (.t rfl), trivial⟩ rfl ?_; refine W.nil ?_; refine W.then ?_; refine W.is (t := 21) (g := true) (av' := .lit (.bool false)) rfl (congrArg (fun b => AV.lit (.bool b)) (by exact h1)) ?_; refine W.condF (.t rfl) ?_; refine W.skip ?_; refine W.blk_normal ?_; refine W.then ?_; refine W.region ?_
    (refine W.q (Ev.add (.t rfl) .k (fun _ => by omega)) rfl ?_)
    refine W.q (Ev.move (.t rfl)) rfl ?_; refine W.nil ?_; refine W.then ?_; refine W.reach (D := _) (i + 1) ⟨rfl, rfl, rfl, rfl, trivial⟩ (.refl _) ⟨by show i + 1 ≤ _; omega, by show _ - (i + 1) < _; omega⟩
  · skip
    refine W.seq ?_; refine W.region ?_; refine W.q (Ev.lti (.t rfl) (.t rfl)) rfl ?_; refine W.nil ?_; refine W.then ?_; refine W.seq ?_; refine W.is (t := 13) (g := true) (av' := .lit (.bool false)) rfl (congrArg (fun b => AV.lit (.bool b)) (by exact decide_eq_false (by omega))) ?_; refine W.condF (.t rfl) ?_; refine W.exit ?_; refine W.then_exit ?_; refine W.then_exit ?_; refine W.blk_hit ?_; refine W.then ?_; refine W.seq ?_; refine W.region ?_; refine W.q (Ev.assign .k) rfl ?_; refine W.nil ?_; refine W.then ?_; refine W.ret ?_; refine W.retn (M' := []) (D := _) (rs := [.tmp 2]) (avs := [_]) Tryz.results50 ⟨rfl, trivial⟩ rfl (.refl _) ?_
    exact ⟨rfl, rfl⟩

theorem c_lastText (ts : List Tp) (h : ts.length ≤ 1099511627776) : FnP Tryz.prog 52 [.sl 3 (ts.map tpv)] (.int (Sch.lastT ts)) :=  by
  refine FnC.mk Tryz.func52 (by kernel_rfl) rfl Tryz.ntmps52 rfl (fun w0 F => ?_)
  have hnl : (ts.map tpv).length = ts.length := List.length_map ..
  refine W.seq ?_; refine W.region ?_; refine W.q (Ev.assign .k) rfl ?_; refine W.nil ?_; refine W.then ?_; refine W.seq ?_; refine W.region ?_; refine W.q (Ev.assign .k) rfl ?_; refine W.nil ?_; refine W.then ?_; refine W.seq ?_; refine W.seq ?_; refine W.region ?_; refine W.q (Ev.move (.t rfl)) rfl ?_
  (refine W.q (Ev.lensl (.t rfl) Tryz.underlying23) rfl ?_)
  refine W.q (Ev.move .k) rfl ?_; refine W.nil ?_; refine W.then ?_; refine W.block ?_; refine W.loop (D := []) (ι := Nat) (fun i => [(8, true, .int (i : Int)), (7, true, .int ((ts.map tpv).length : Int)), (6, true, .sl 3 (ts.map tpv)), (3, true, .int (Sch.lastG ts i))]) (fun _ => []) (fun i => i ≤ ts.length) (fun i => ts.length - i) 0 ⟨rfl, rfl, rfl, rfl, trivial⟩ (.refl _) (Nat.zero_le _) ?_; intro i hi
  dsimp only at hi ⊢
  rcases (show i < ts.length ∨ i = ts.length from by omega) with hlt | hend
  · have hga := getD_mapG tpv ⟨[], [], []⟩ ts i hlt
    refine W.seq ?_; refine W.region ?_; refine W.q (Ev.lti (.t rfl) (.t rfl)) rfl ?_; refine W.nil ?_; refine W.then ?_; refine W.seq ?_; refine W.is (t := 9) (g := true) (av' := .lit (.bool true)) rfl (congrArg (fun b => AV.lit (.bool b)) (by exact decide_eq_true (by omega))) ?_; refine W.condT (.t rfl) ?_; refine W.skip ?_; refine W.then ?_; refine W.seq ?_; refine W.block ?_; refine W.seq ?_; refine W.region ?_; refine W.q (Ev.move (.t rfl)) rfl ?_; refine W.q (Ev.at (E := 28) (.t rfl) (.t rfl) Tryz.underlying23 ty28 (fun _ => ⟨by omega, hga⟩) rfl rfl) rfl ?_
    (refine W.q (Ev.lden (.t rfl) ag28 ty28 rfl rfl) rfl ?_)
    refine W.alloc ty28 rfl rfl ?_; intro b5; refine W.q (Ev.assign (.t rfl)) rfl ?_
    (refine W.stb 0 (.t rfl) (.t rfl) rfl ty28 rfl rfl rfl ?_)
    refine W.nil ?_; refine W.then ?_; refine W.seq ?_; refine W.region ?_
    (refine W.q (Ev.fab (.t rfl) fa28_0) rfl ?_)
    (refine W.q (Ev.ldb1 0 (.t rfl) rfl ag9 rfl) rfl ?_)
    refine W.q (Ev.eqs (.t rfl) .k) rfl ?_; refine W.nil ?_; refine W.then ?_; refine W.cond (.t rfl) (fun hc_t15 => ?_) (fun hc_t15 => ?_)
    · have hnx : Sch.lastG ts (i + 1) = (i : Int) := by rw [Sch.lastG_succ]; exact if_pos (eq_of_beq hc_t15)
      refine W.region ?_; refine W.q (Ev.move (.t rfl)) rfl ?_; refine W.q (Ev.assign (.t rfl)) rfl ?_; refine W.nil ?_; refine W.blk_normal ?_; refine W.then ?_; refine W.region ?_
      (refine W.q (Ev.add (.t rfl) .k (fun _ => by omega)) rfl ?_)
      refine W.q (Ev.move (.t rfl)) rfl ?_; refine W.nil ?_; refine W.then ?_; refine W.is (t := 3) (g := true) (av' := .int (Sch.lastG ts (i + 1))) rfl (congrArg AV.int hnx.symm) ?_; refine W.reach (D := [_]) (i + 1) ⟨rfl, rfl, rfl, rfl, trivial⟩ (.refl _) ⟨by show i + 1 ≤ _; omega, by show _ - (i + 1) < _; omega⟩
    · have hnx : Sch.lastG ts (i + 1) = Sch.lastG ts i := by rw [Sch.lastG_succ]; exact if_neg (beq_eq_false_iff_ne.1 hc_t15)
      refine W.skip ?_; refine W.blk_normal ?_; refine W.then ?_; refine W.region ?_
      (refine W.q (Ev.add (.t rfl) .k (fun _ => by omega)) rfl ?_)
      refine W.q (Ev.move (.t rfl)) rfl ?_; refine W.nil ?_; refine W.then ?_; refine W.is (t := 3) (g := true) (av' := .int (Sch.lastG ts (i + 1))) rfl (congrArg AV.int hnx.symm) ?_; refine W.reach (D := [_]) (i + 1) ⟨rfl, rfl, rfl, rfl, trivial⟩ (.refl _) ⟨by show i + 1 ≤ _; omega, by show _ - (i + 1) < _; omega⟩
  · rw [hend]
    refine W.seq ?_; refine W.region ?_; refine W.q (Ev.lti (.t rfl) (.t rfl)) rfl ?_; refine W.nil ?_; refine W.then ?_; refine W.seq ?_; refine W.is (t := 9) (g := true) (av' := .lit (.bool false)) rfl (congrArg (fun b => AV.lit (.bool b)) (by exact decide_eq_false (by omega))) ?_; refine W.condF (.t rfl) ?_; refine W.exit ?_; refine W.then_exit ?_; refine W.then_exit ?_; refine W.blk_hit ?_; refine W.then ?_; refine W.seq ?_; refine W.region ?_; refine W.q (Ev.move (.t rfl)) rfl ?_; refine W.q (Ev.assign (.t rfl)) rfl ?_; refine W.nil ?_; refine W.then ?_; refine W.ret ?_; refine W.retn (M' := []) (D := _) (rs := [.tmp 2]) (avs := [_]) Tryz.results52 ⟨rfl, trivial⟩ rfl (.refl _) ?_
    exact ⟨rfl, rfl⟩

theorem c_New1 (u t : Tp) (b : Nat) : FnC Tryz.prog 48 [tpv u, .lit (.pointer (some ⟨b, 0, none⟩))] [.box b 28 [.str t.name, .str t.content, .sl 1 (t.attrs.map AV.str)]] (fun x M => x = .bool (u.name == t.name) ∧ M = [.box b 28 [.str t.name, .str t.content, .sl 1 (t.attrs.map AV.str)]]) :=  by
  refine FnC.mk Tryz.func48 (by kernel_rfl) rfl Tryz.ntmps48 rfl (fun w0 F => ?_)
  refine W.seq ?_; refine W.region ?_; refine W.box (.t rfl) rfl rfl ?_; intro b2; refine W.q (Ev.assign .k) rfl ?_; refine W.nil ?_; refine W.then ?_; refine W.seq ?_; refine W.region ?_
  (refine W.q (Ev.fab (.t rfl) fa28_0) rfl ?_)
  (refine W.q (Ev.ldb1 0 (.t rfl) rfl ag9 rfl) rfl ?_)
  (refine W.q (Ev.fab (.t rfl) fa28_0) rfl ?_)
  (refine W.q (Ev.ldb1 1 (.t rfl) rfl ag9 rfl) rfl ?_)
  refine W.q (Ev.eqs (.t rfl) (.t rfl)) rfl ?_; refine W.q (Ev.assign (.t rfl)) rfl ?_; refine W.nil ?_; refine W.then ?_; refine W.ret ?_; refine W.retn (M' := [.box b 28 _]) (D := [_]) (rs := [.tmp 3]) (avs := [_]) Tryz.results48 ⟨rfl, trivial⟩ rfl (List.Perm.swap _ _ []) ?_
  exact ⟨rfl, rfl⟩

theorem c_New2 (n : Int) : FnP Tryz.prog 55 [.int n] (.bool (n == 0 || decide (150 < n))) :=  by
  refine FnC.mk Tryz.func55 (by kernel_rfl) rfl Tryz.ntmps55 rfl (fun w0 F => ?_)
  refine W.seq ?_; refine W.region ?_; refine W.q (Ev.assign .k) rfl ?_; refine W.nil ?_; refine W.then ?_; refine W.seq ?_; refine W.region ?_; refine W.q (Ev.move (.t rfl)) rfl ?_; refine W.q (Ev.eqi (.t rfl) .k) rfl ?_; refine W.q (Ev.move (.t rfl)) rfl ?_; refine W.qgF rfl rfl (Ev.move (.t rfl)) rfl ?_; refine W.qgF rfl rfl (Ev.gti (.c rfl) .k) rfl ?_; refine W.q (Ev.or (.t rfl) ⟨_, _, rfl, rfl, by ((simp; done))⟩) rfl ?_; refine W.q (Ev.assign (.t rfl)) rfl ?_; refine W.nil ?_; refine W.then ?_; refine W.ret ?_; refine W.retn (M' := []) (rs := [.tmp 2]) (avs := [_]) Tryz.results55 ⟨rfl, trivial⟩ rfl (.refl _) ?_
  exact ⟨rfl, rfl⟩

end WSPart

end Go.Proofs.YtphlkdbglpcikaaGreatDoor
end

section
set_option linter.unusedVariables false
set_option linter.unusedSimpArgs false
namespace Go.Vl
structure Ch where
  kind : Int
  path : List Int
  node : Nd
abbrev cav (c : Ch) : AV := .agg [.int c.kind, .sl 1 (c.path.map AV.int), .str c.node.name, .sl 2 (c.node.attrs.map dav), .str c.node.text, .sl 4 (c.node.parts.map Nd.av)]
abbrev Ch.dfl : Ch := ⟨0, [], Nd.dflt⟩
namespace Nd
abbrev withP (d : Nd) (q : List Nd) : Nd := mk d.name d.attrs d.text q
def setP : List Nd → List Int → Nd → List Nd
  | l, [], _ => l
  | l, i :: p, x => l.set i.toNat (if p = [] then x else withP (l.getD i.toNat dflt) (setP (l.getD i.toNat dflt).parts p x))
def putP : List Nd → List Int → Nd → List Nd
  | l, [], _ => l
  | l, i :: p, x => if p = [] then l ++ [x] else l.set i.toNat (withP (l.getD i.toNat dflt) (putP (l.getD i.toNat dflt).parts p x))
def endP : List Nd → List Int → Prop
  | _, [] => False
  | l, k :: p => ∃ i : Nat, k = (i : Int) ∧ ((p = [] ∧ i = l.length) ∨ (p ≠ [] ∧ i < l.length ∧ (l.getD i dflt).name ≠ [] ∧ endP (l.getD i dflt).parts p))
end Nd
section app0
open Go Go.Sem
variable {x : Cx} {L : List En} {M : List ME} {ty : TypeId} {pos : String} {aft : Array Edge}
theorem Sv.app0 {d : Tmp} {T T' E k bytes : Nat} {z : Value} {o1 o2 : Operand} {xs : List AV} (h1 : Ov true L o1 (.lit (.slice none 0 0))) (h2 : SrcOv x L M o2 k xs) (hT : x.P.underlying T = some (.slice E)) (hT' : NotInt x.P T') (hE : Ty x.P E k bytes z) (hzk : z.cells.size = k)
    (hb1 : Nat.ble 1 bytes = true) (hb : xs.length * bytes ≤ 140737488355328) : Sv x L M ⟨some d, .call ⟨.builtin .append, #[o1, o2], #[T, T']⟩, ty, pos, aft, none⟩ (.sl k xs) := by
  intro a w hs K Q hK
  have hsrc := h2.src hs
  have e1 : a.eval o1 = .slice none 0 0 := h1.lit rfl hs
  have hb1' := Nat.le_of_ble_eq_true hb1
  have h63 : xs.length ≤ maxLen := by
    have : xs.length ≤ xs.length * bytes := Nat.le_mul_of_pos_right _ hb1'
    simp only [maxLen]; omega
  unfold Oper.wp
  by_cases hx : xs = []
  · subst hx
    obtain ⟨hlen, news, hn1, _, _, hn4⟩ := hsrc
    have hf := hn4 w rfl
    obtain ⟨ii, hi1, hi2, hi3, hi4⟩ := hE
    have hlen' : (Builtin.lenOf (a.eval o2)).run x.P w = .ok 0 w := hlen
    have hf' : (Builtin.firstCells k 0 (a.eval o2)).run x.P w = .ok news w := hf
    have hr : (execOp a.eval ⟨some d, .call ⟨.builtin .append, #[o1, o2], #[T, T']⟩, ty, pos, aft, none⟩).run x.P w = .ok (.value (.slice none 0 0)) w := by
      rcases hT' with ⟨e', hd'⟩ | hd' <;>
        simp [execOp, resolve, invoke, builtin, e1, Builtin.append_, run_underlying hT, run_underlying hd', sizeOf, typeInfo, hi1, hi2, hlen', hf']
    rw [hr]
    exact hK _ _ (fun b c T fr hb hc => ⟨hb, hc⟩) hs.mem hs.fr (Rep.slI (es := []) (Nat.le_refl _) (by simp [maxLen]) (.inl rfl))
  · have hpos : 0 < xs.length := List.length_pos_iff.2 hx
    have hold : Src0 x.P w (bl M ++ x.F) k (.slice none 0 0) [] := src0_cells rfl (.inl rfl)
    obtain ⟨cells, hsz, hrE, hrun⟩ := run_append_new (ty := ty) hT hT' hE hzk hold hsrc.to0 rfl (by omega) (by simpa using hb) hb1'
    simp only [Nat.zero_add, List.nil_append] at hrun hrE hsz
    obtain ⟨hg1, hg2⟩ := cap_cut w xs.length 0 E h63
    have hd1 : St x L M a w.drew := hs.same rfl rfl rfl rfl
    obtain ⟨hs', hk, hnew⟩ := hd1.allocI (.cells cells E)
    have hk0 : Keep w (bl M ++ x.F) (w.drew.alloc (.cells cells E)) (bl M ++ x.F) := hk
    have hr : (execOp a.eval ⟨some d, .call ⟨.builtin .append, #[o1, o2], #[T, T']⟩, ty, pos, aft, none⟩).run x.P w = .ok (.value (.slice (some ⟨w.heap.size, 0, none⟩) xs.length (grownCap w xs.length 0 E))) (w.drew.alloc (.cells cells E)) := by
      simp only [execOp, resolve, invoke, builtin, Sem.run_bind, Sem.run_pure, Result.andThen_ok, List.map_toArray, List.map_cons, List.map_nil, e1, hrun]
    rw [hr]
    refine hK _ _ hk0 hs'.mem hs'.fr ?_
    exact Rep.slI hg1 hg2 (.inr ⟨w.heap.size, 0, cells, E, (0, 0), rfl, hnew, alloc_new w.drew _, RepE.keep hk0 _ _ _ (by simpa using hrE)⟩)
theorem DP.app0 {ops : Array Oper} {R : Act → World → Prop} {rest : List Oper} {done : List En} {d : Tmp} {T T' E k bytes : Nat} {z : Value} {o1 o2 : Operand} {xs : List AV} (h1 : Ov true (sel (Oper.looksAt ops ⟨some d, .call ⟨.builtin .append, #[o1, o2], #[T, T']⟩, ty, pos, aft, none⟩) (done ++ L)) o1 (.lit (.slice none 0 0)))
    (h2 : SrcOv x (sel (Oper.looksAt ops ⟨some d, .call ⟨.builtin .append, #[o1, o2], #[T, T']⟩, ty, pos, aft, none⟩) (done ++ L)) M o2 k xs) (hT : x.P.underlying T = some (.slice E)) (hT' : NotInt x.P T') (hE : Ty x.P E k bytes z) (hzk : z.cells.size = k)
    (hb1 : Nat.ble 1 bytes = true) (hb : xs.length * bytes ≤ 140737488355328) (hd : Nat.blt d x.n = true) (next : DP x M ops L R rest ((d, true, .sl k xs) :: done)) :
    DP x M ops L R (⟨some d, .call ⟨.builtin .append, #[o1, o2], #[T, T']⟩, ty, pos, aft, none⟩ :: rest) done := ⟨d, true, _, rfl, hd, .inl ⟨rfl, rfl⟩, fun _ => Sv.app0 h1 h2 hT hT' hE hzk hb1 hb, next⟩
theorem DE.app0 {ι : Type} {Mf : (Nat → Bool) → ι → List ME} {i0 i : Nat} {ops : Array Oper} {R : Act → World → Prop} {rest : List Oper} {done : ι → List En} {d : Tmp} {T T' E k bytes : Nat} {z : Value} {o1 o2 : Operand} {xs : List AV}
    (h1 : ∀ c, Ov true (sel (Oper.looksAt ops ⟨some d, .call ⟨.builtin .append, #[o1, o2], #[T, T']⟩, ty, pos, aft, none⟩) (done c ++ L)) o1 (.lit (.slice none 0 0)))
    (h2 : ∀ e c, SrcOv x (sel (Oper.looksAt ops ⟨some d, .call ⟨.builtin .append, #[o1, o2], #[T, T']⟩, ty, pos, aft, none⟩) (done c ++ L)) (Mf e c) o2 k xs) (hT : x.P.underlying T = some (.slice E)) (hT' : NotInt x.P T') (hE : Ty x.P E k bytes z) (hzk : z.cells.size = k)
    (hb1 : Nat.ble 1 bytes = true) (hb : xs.length * bytes ≤ 140737488355328) (hdn : Nat.blt d x.n = true)
    (hMf : ∀ e c, Mf (addE e i) c = Mf e c) (next : DE x ops L Mf i0 R (i + 1) rest (fun c => (d, true, .sl k xs) :: done c)) :
    DE x ops L Mf i0 R i (⟨some d, .call ⟨.builtin .append, #[o1, o2], #[T, T']⟩, ty, pos, aft, none⟩ :: rest) done :=
  DE.pure rfl hdn (fun _ => .inl ⟨rfl, rfl⟩) (fun e c _ _ => Sv.app0 (h1 c) (h2 e c) hT hT' hE hzk hb1 hb) hMf (.inr fun _ _ => rfl) next
end app0
end Go.Vl
end

section
set_option linter.unusedVariables false
set_option linter.unusedSimpArgs false
namespace Go.Vl
section
variable {x : Cx} {L : List En} {M : List ME} {ty : TypeId} {pos : String} {aft : Array Edge}
theorem Sv.callm {f : FuncId} {d : Option Tmp} {os : List Operand} {ats : Array TypeId} {g : Option (Nat × Bool)} {avs : List AV} {r : AV} {Mc Mr : List ME} (hc : FnC x.P f avs Mc (fun r' M' => r' = r ∧ M' = Mc)) (hp : List.Perm M (Mc ++ Mr)) (ha : ArgsOv L os avs) : Sv x L M ⟨d, .call ⟨.value (.func f), os.toArray, ats⟩, ty, pos, aft, g⟩ r := by
  intro a w hs K Q hK
  obtain ⟨⟨fn, hfn, hnm, hbd⟩, hcall⟩ := hc
  have hr : (execOp a.eval ⟨d, .call ⟨.value (.func f), os.toArray, ats⟩, ty, pos, aft, g⟩).run x.P w = .ok (.enter f (os.map a.eval).toArray) w := by
    have hv : a.eval (.func f) = .func (.func f) #[] #[] := rfl
    simp only [execOp, resolve, hv, Deferred.ofValue, Sem.run_bind, Sem.run_pure, Result.andThen_ok, invoke, callFunc, run_program, hfn, hnm, hbd]
    simp
  unfold Oper.wp
  rw [hr]
  obtain ⟨hF, hm0, hk0⟩ := hs.ahead hp
  have hargs := ArgsOv.rep hs ha
  refine (hcall w (bl Mr ++ x.F) _ hF hm0 (RepT.keep hk0 _ _ hargs)).mono ?_
  rintro e w' ⟨v, r', M', rfl, ⟨rfl, rfl⟩, hm', hrep, hf⟩
  have hs' := (hs.back hp hm' hf).perm hp.symm
  have hmem := bl_sub_of_perm hp
  have hk : Keep w (bl M ++ x.F) w' (bl M ++ x.F) := by
    intro b c T fr hb hc
    have h1 := hf.block b (heap_lt hc) (fun h => hb (List.mem_append_left _ ((hmem b).2 (.inl h))))
    exact ⟨hb, by rw [h1.1]; exact hc⟩
  refine hK v w' hk hs'.mem hs'.fr (hrep.keep ?_)
  intro b c T fr hb hc
  refine ⟨fun h => hb ?_, hc⟩
  simp only [List.mem_append] at h ⊢
  rcases h with h | h
  · rcases (hmem b).1 h with h | h
    · exact .inl h
    · exact .inr (.inl h)
  · exact .inr (.inr h)
end
section
variable {x : Cx} {ops : Array Oper} {L : List En} {R : Act → World → Prop} {rest : List Oper} {ty : TypeId} {pos : String} {aft : Array Edge} {i i0 : Nat}
theorem DE.callm {ι : Type} {Mf : (Nat → Bool) → ι → List ME} {done : ι → List En} {f : FuncId} {d : Tmp} {os : List Operand} {ats : Array TypeId} {avs : ι → List AV} {r : ι → AV} {Mc : List ME} (hc : ∀ c, FnC x.P f (avs c) Mc (fun r' M' => r' = r c ∧ M' = Mc)) (hp : ∀ e c, ∃ Mr, List.Perm (Mf e c) (Mc ++ Mr))
    (ha : ∀ c, ArgsOv (sel (Oper.looksAt ops ⟨some d, .call ⟨.value (.func f), os.toArray, ats⟩, ty, pos, aft, none⟩) (done c ++ L)) os (avs c)) (hdn : Nat.blt d x.n = true)
    (hMf : ∀ e c, Mf (addE e i) c = Mf e c) (hi : anc ops i0 i = true ∨ ∀ c c', r c = r c') (next : DE x ops L Mf i0 R (i + 1) rest (fun c => (d, true, r c) :: done c)) :
    DE x ops L Mf i0 R i (⟨some d, .call ⟨.value (.func f), os.toArray, ats⟩, ty, pos, aft, none⟩ :: rest) done := DE.pure rfl hdn (fun _ => .inl ⟨rfl, rfl⟩) (fun e c _ _ => by obtain ⟨Mr, h⟩ := hp e c; exact Sv.callm (hc c) h (ha c)) hMf hi next
theorem DM.callm {Mf : (Nat → Bool) → Ks → List ME} {done : Ks → List En} {f : FuncId} {d : Tmp} {os : List Operand} {ats : Array TypeId} {avs : Ks → List AV} {r : Ks → AV} {Mc : List ME} (hc : ∀ c, FnC x.P f (avs c) Mc (fun r' M' => r' = r c ∧ M' = Mc)) (hp : ∀ e c, ∃ Mr, List.Perm (Mf e c) (Mc ++ Mr))
    (ha : ∀ c, ArgsOv (sel (Oper.looksAt ops ⟨some d, .call ⟨.value (.func f), os.toArray, ats⟩, ty, pos, aft, none⟩) (done c ++ L)) os (avs c)) (hdn : Nat.blt d x.n = true)
    (hMf : ∀ e c, Mf (addE e i) c = Mf e c) (hi : ∀ c c' : Ks, (∀ k, (k = i ∨ anc ops k i = true) → c k = c' k) → r c = r c') (next : DM x ops L Mf R (i + 1) rest (fun c => (d, true, r c) :: done c)) :
    DM x ops L Mf R i (⟨some d, .call ⟨.value (.func f), os.toArray, ats⟩, ty, pos, aft, none⟩ :: rest) done := DM.pure rfl hdn (fun _ => .inl ⟨rfl, rfl⟩) (fun e c _ _ => by obtain ⟨Mr, h⟩ := hp e c; exact Sv.callm (hc c) h (ha c)) hMf hi next
end
theorem W.ofSv {x : Cx} {L : List En} {M : List ME} {ops : Array Oper} {Q : Exit → Act → World → Prop} {rest : List Oper} {d : Tmp} {op : Op} {ty : TypeId} {pos : String} {aft : Array Edge} {av : AV} (h : Sv x L M ⟨some d, op, ty, pos, aft, none⟩ av) (hd : Nat.blt d x.n = true)
    (next : W x ((d, true, av) :: L) M (wpList x.P ops Q rest)) : W x L M (wpList x.P ops Q (⟨some d, op, ty, pos, aft, none⟩ :: rest)) := by
  intro a w hs
  refine wpList_cons_want (by simp [Region.wanted]) ?_
  refine h a w hs _ _ fun v w' hk hm hf hr => ?_
  exact next _ _ ((hs.world hk hm hf).put hd true av v (fun _ => hr) (by simp))
theorem W.app0 {x : Cx} {L : List En} {M : List ME} {ops : Array Oper} {Q : Exit → Act → World → Prop} {rest : List Oper} {d : Tmp} {T T' E k bytes : Nat} {z : Value} {o1 o2 : Operand} {xs : List AV} {ty : TypeId} {pos : String} {aft : Array Edge} (h1 : Ov true L o1 (.lit (.slice none 0 0))) (h2 : SrcOv x L M o2 k xs) (hT : x.P.underlying T = some (.slice E)) (hT' : NotInt x.P T') (hE : Ty x.P E k bytes z) (hzk : z.cells.size = k)
    (hb1 : Nat.ble 1 bytes = true) (hb : xs.length * bytes ≤ 140737488355328) (hd : Nat.blt d x.n = true) (next : W x ((d, true, .sl k xs) :: L) M (wpList x.P ops Q rest)) :
    W x L M (wpList x.P ops Q (⟨some d, .call ⟨.builtin .append, #[o1, o2], #[T, T']⟩, ty, pos, aft, none⟩ :: rest)) := W.ofSv (Sv.app0 h1 h2 hT hT' hE hzk hb1 hb) hd next
end Go.Vl
end

section
set_option linter.unusedVariables false
set_option linter.unusedSimpArgs false
set_option maxRecDepth 100000
namespace Go.Proofs.YtphlkdbglpcikaaGreatDoor
open Go.Vl

namespace WNew
theorem ty9 : Ty Tryz.prog 9 1 16 (.string ⟨#[]⟩) := Ty.of (by kernel_rfl)
theorem ty22 : Ty Tryz.prog 22 1 24 (.slice none 0 0) := Ty.of (by kernel_rfl)
theorem ty23 : Ty Tryz.prog 23 1 24 (.slice none 0 0) := Ty.of (by kernel_rfl)
theorem ty26 : Ty Tryz.prog 26 1 24 (.slice none 0 0) := Ty.of (by kernel_rfl)
theorem ty28 : Ty Tryz.prog 28 3 56 (.agg #[.string ⟨#[]⟩, .string ⟨#[]⟩, .slice none 0 0]) := Ty.of (by kernel_rfl)
theorem ty62 : Ty Tryz.prog 62 2 48 (.agg #[.slice none 0 0, .slice none 0 0]) := Ty.of (by kernel_rfl)
theorem ty74 : Ty Tryz.prog 74 1 24 (.slice none 0 0) := Ty.of (by kernel_rfl)
theorem ty76 : Ty Tryz.prog 76 3 72 (.agg #[.slice none 0 0, .slice none 0 0, .slice none 0 0]) := Ty.of (by kernel_rfl)
theorem ag9 : IsAgg Tryz.prog 9 false := ⟨_, Tryz.underlying9, rfl⟩
theorem ag22 : IsAgg Tryz.prog 22 false := ⟨_, Tryz.underlying22, rfl⟩
theorem ag26 : IsAgg Tryz.prog 26 false := ⟨_, Tryz.underlying26, rfl⟩
theorem ag28 : IsAgg Tryz.prog 28 true := ⟨_, Tryz.underlying28, rfl⟩
theorem ag62 : IsAgg Tryz.prog 62 true := ⟨_, Tryz.underlying62, rfl⟩
theorem ag74 : IsAgg Tryz.prog 74 false := ⟨_, Tryz.underlying74, rfl⟩
theorem fa28_0 : FieldAt Tryz.prog 28 0 0 1 false := ⟨_, _, Tryz.underlying28, rfl, rfl, ty9.size, ag9, by decide⟩
theorem fa28_1 : FieldAt Tryz.prog 28 1 1 1 false := ⟨_, _, Tryz.underlying28, rfl, rfl, ty9.size, ag9, by decide⟩
theorem fa28_2 : FieldAt Tryz.prog 28 2 2 1 false := ⟨_, _, Tryz.underlying28, rfl, rfl, ty26.size, ag26, by decide⟩
theorem fa76_1 : FieldAt Tryz.prog 76 1 1 1 false := ⟨_, _, Tryz.underlying76, rfl, rfl, ty74.size, ag74, by decide⟩
theorem fa76_2 : FieldAt Tryz.prog 76 2 2 1 false := ⟨_, _, Tryz.underlying76, rfl, rfl, ty22.size, ag22, by decide⟩
theorem st76 : StructAt Tryz.prog 76 [(0, 1), (1, 1), (2, 1)] := ⟨_, Tryz.underlying76, rfl, ty23.size, rfl, ty74.size, rfl, ty22.size, trivial⟩
theorem ni74 : NotInt Tryz.prog 74 := .inl ⟨_, Tryz.underlying74⟩
theorem c_New (ts : List Tp) (as_ : List Au) (hg : Sch.Good ts as_) (fin : List Int) (hfin : Sch.sizesOf ts as_ = some fin) (hall : (fin.any fun n => n == 0 || decide (150 < n)) = false) (M0 : List ME) (hI : ∀ n : Int, -1 ≤ n → n < 100 → FnC Tryz.prog 107 [.int n] M0 (fun r M => r = .str (itoa n) ∧ M = M0)) : FnC Tryz.prog 30 [.sl 3 (ts.map tpv)] M0 (fun r M => ∃ b, r = .tup [.lit (.pointer (some ⟨b, 0, none⟩)), .int 0] ∧ M = .box b 76 [.sl 3 (ts.map tpv), .sl 2 (as_.map Au.avx), .sl 1 (fin.map AV.int)] :: M0) :=  by
  refine FnC.mk Tryz.func30 (by kernel_rfl) rfl Tryz.ntmps30 rfl (fun w0 F => ?_)
  have hnl : (ts.map tpv).length = ts.length := List.length_map ..
  have hlen := hg.len
  have hpos := hg.pos
  have hfl : fin.length ≤ 8 := by
    have := Sch.mso_len 10 _ _ hfin
    rw [List.length_replicate] at this; omega
  refine W.seq ?_; refine W.region ?_; refine W.q (Ev.assign .k) rfl ?_; refine W.q (Ev.assign .k) rfl ?_; refine W.nil ?_; refine W.then ?_; refine W.seq ?_; refine W.seq ?_; refine W.region ?_; refine W.q (Ev.move (.t rfl)) rfl ?_
  (refine W.q (Ev.lensl (.t rfl) Tryz.underlying23) rfl ?_)
  refine W.q (Ev.lti (.t rfl) .k) rfl ?_; refine W.q (Ev.move (.t rfl)) rfl ?_; refine W.qgF rfl rfl (Ev.move (.t rfl)) rfl ?_
  (refine W.qgF rfl rfl (Ev.lensl (.c rfl) Tryz.underlying23) rfl ?_)
  refine W.qgF rfl rfl (Ev.gti (.c rfl) .k) rfl ?_; refine W.q (Ev.or (.t rfl) ⟨_, _, rfl, rfl, by ((simp; done))⟩) rfl ?_; refine W.nil ?_; refine W.then ?_; refine W.is (t := 17) (g := true) (av' := .lit (.bool false)) rfl (congrArg (fun b => AV.lit (.bool b)) (by simp; omega)) ?_; refine W.condF (.t rfl) ?_; refine W.skip ?_; refine W.then ?_; refine W.seq ?_; refine W.region ?_; refine W.q (Ev.move (.t rfl)) rfl ?_; refine W.q (Ev.build ty76 st76 rfl (fun hg => ⟨_, _, _, rfl, (.t rfl), rfl, rfl, rfl, rfl⟩)) rfl ?_; refine W.box (.t rfl) rfl rfl ?_; intro b20; refine W.q (Ev.assign (.t rfl)) rfl ?_; refine W.nil ?_; refine W.then ?_; refine W.seq ?_; refine W.seq ?_; refine W.region ?_; refine W.q (Ev.move (.t rfl)) rfl ?_
  (refine W.q (Ev.lensl (.t rfl) Tryz.underlying23) rfl ?_)
  refine W.q (Ev.move .k) rfl ?_; refine W.nil ?_; refine W.then ?_; refine W.block ?_; refine W.own_nil 62 2 ?_; refine W.loop (D := []) (ι := Nat × Value) (fun z => [(23, true, .int (z.1 : Int)), (22, true, .int ((ts.map tpv).length : Int)), (21, true, .sl 3 (ts.map tpv)), (0, true, .sl 3 (ts.map tpv)), (4, true, .lit (.pointer (some ⟨b20, 0, none⟩)))]) (fun z => .arr z.2 62 2 ((as_.take z.1).map Au.avx) :: .box b20 76 [.sl 3 (ts.map tpv), .lit z.2, .lit (.slice none 0 0)] :: M0) (fun z => z.1 ≤ ts.length) (fun z => ts.length - z.1) (0, .slice none 0 0) ⟨rfl, rfl, rfl, rfl, rfl, trivial⟩ (by rw [List.append_nil]; exact .refl _) (Nat.zero_le _) ?_
  rintro ⟨i, va⟩ hi
  dsimp only at hi ⊢
  rcases (show i < ts.length ∨ i = ts.length from by omega) with hlt | hend
  · have hgt := getD_mapG tpv Sch.dT ts i hlt
    have hname := hg.name i hlt
    have hone := hg.one i hlt
    have hform := hg.form i hlt
    have hattr := hg.attrs i hlt
    obtain ⟨k, hk, htc, hAk, hfi⟩ := hg.mach i hlt
    have kw := Sch.known k hk
    have htk := take_getDG Sch.dA as_ i (by have := hg.has; omega)
    rw [hAk] at htk
    generalize ts.getD i Sch.dT = t at hgt hname hone hform hattr htc
    obtain ⟨A, hA⟩ : ∃ A, Sch.auk k = A := ⟨_, rfl⟩
    have kw1 := kw.ord
    have hM := WMach.c_machine (Sch.itk k) [] kw.oks trivial t.content (by rw [htc]; exact (List.append_nil _).symm) (by rw [htc]; exact kw.len) (by have := kw.lv; simp only [It.anl]; omega) (Sch.auk k) kw.ord kw.acc kw.n32 ts.length hg.len (Sch.lastT ts) (by have := Sch.lastG_rng ts ts.length; have := hg.len; unfold Sch.lastT; omega) hfi M0 hI
    rw [hA] at htk hM
    rw [show ((ts.length : Nat) : Int) = ((ts.map tpv).length : Int) from by rw [hnl]] at hM
    refine W.seq ?_; refine W.region ?_; refine W.q (Ev.lti (.t rfl) (.t rfl)) rfl ?_; refine W.nil ?_; refine W.then ?_; refine W.seq ?_; refine W.is (t := 24) (g := true) (av' := .lit (.bool true)) rfl (congrArg (fun b => AV.lit (.bool b)) (by exact decide_eq_true (by omega))) ?_; refine W.condT (.t rfl) ?_; refine W.skip ?_; refine W.then ?_; refine W.seq ?_; refine W.block ?_; refine W.seq ?_; refine W.region ?_; refine W.q (Ev.move (.t rfl)) rfl ?_; refine W.q (Ev.at (E := 28) (.t rfl) (.t rfl) Tryz.underlying23 ty28 (fun _ => ⟨by omega, hgt⟩) rfl rfl) rfl ?_
    (refine W.q (Ev.lden (.t rfl) ag28 ty28 rfl rfl) rfl ?_)
    refine W.alloc ty28 rfl rfl ?_; intro b6; refine W.q (Ev.assign (.t rfl)) rfl ?_
    (refine W.stb 0 (.t rfl) (.t rfl) rfl ty28 rfl rfl rfl ?_)
    refine W.nil ?_; refine W.then ?_; refine W.seq ?_; refine W.block ?_; refine W.seq ?_; refine W.region ?_
    (refine W.q (Ev.fab (.t rfl) fa28_0) rfl ?_)
    (refine W.q (Ev.ldb1 0 (.t rfl) rfl ag9 rfl) rfl ?_)
    refine W.q (Ev.nes (.t rfl) .k) rfl ?_; refine W.q (Ev.move (.t rfl)) rfl ?_
    (refine W.qgT rfl rfl (Ev.fab (.t rfl) fa28_0) rfl ?_)
    (refine W.qgT rfl rfl (Ev.ldb1 0 (.c rfl) rfl ag9 rfl) rfl ?_)
    refine W.callgT (Min := []) (caps := []) (avs := [_]) rfl rfl (fun hg => WName.c_Name t.name (by omega)) (fun hg => .f) (fun hg => ⟨(.i rfl (fun _ => hg)), trivial⟩) rfl (.refl _) rfl ?_; refine W.qgT rfl rfl (Ev.not (.c rfl)) rfl ?_; refine W.q (Ev.and (.t rfl) ⟨_, _, rfl, rfl, by ((simp; done))⟩) rfl ?_; refine W.q (Ev.assign (.t rfl)) rfl ?_; refine W.nil ?_; refine W.then ?_; refine W.is (t := 28) (g := true) (av' := .lit (.bool false)) rfl (congrArg (fun b => AV.lit (.bool b)) (by rcases hname.2 with h | h; simp [h]; simp [h])) ?_; refine W.condF (.t rfl) ?_; refine W.seq ?_; refine W.region ?_; refine W.q (Ev.move (.t rfl)) rfl ?_; refine W.q (Ev.move (.t rfl)) rfl ?_; refine W.q (Ev.takesl (n := i) (.t rfl) Tryz.underlying23 ty28 (.t rfl) rfl (fun _ => by omega)) rfl ?_; refine W.q (Ev.mkfn (caps := [.tmp 6]) (vs := [_]) ⟨(.t rfl), trivial⟩) rfl ?_; refine W.call (WSLib.c_ContainsFuncY (ts.take i) 48 [.pointer (some ⟨b6, 0, none⟩)] [.box b6 28 [.str t.name, .str t.content, .sl 1 (t.attrs.map AV.str)]] (fun u => u.name == t.name) (fun u _ => WSPart.c_New1 u t b6) (by rw [List.length_take]; omega)) ⟨(.t rfl), (.t rfl), trivial⟩ (.refl _) rfl ?_
    rintro _ _ ⟨rfl, rfl⟩
    refine W.q (Ev.assign (.t rfl)) rfl ?_; refine W.nil ?_; refine W.then ?_; refine W.is (t := 38) (g := true) (av' := .lit (.bool false)) rfl (congrArg (fun b => AV.lit (.bool b)) (by exact hone)) ?_; refine W.condF (.t rfl) ?_; refine W.seq ?_; refine W.region ?_
    (refine W.q (Ev.ldbn 0 (.t rfl) rfl ag28 ty28 rfl) rfl ?_)
    refine W.callp (WSPart.c_form t hform) ⟨(.t rfl), trivial⟩ rfl ?_; refine W.q (Ev.not (.t rfl)) rfl ?_; refine W.q (Ev.assign (.t rfl)) rfl ?_; refine W.nil ?_; refine W.then ?_; refine W.is (t := 44) (g := true) (av' := .lit (.bool false)) rfl (congrArg (fun b => AV.lit (.bool b)) (by rfl)) ?_; refine W.condF (.t rfl) ?_; refine W.skip ?_; refine W.blk_normal ?_; refine W.then ?_; refine W.seq ?_; refine W.seq ?_; refine W.region ?_
    (refine W.q (Ev.fab (.t rfl) fa28_2) rfl ?_)
    (refine W.q (Ev.ldb1 0 (.t rfl) rfl ag26 rfl) rfl ?_)
    refine W.callp (WSPart.c_attrs t.attrs hattr) ⟨(.t rfl), trivial⟩ rfl ?_; refine W.q (Ev.assign (.t rfl)) rfl ?_; refine W.nil ?_; refine W.then ?_; refine W.seq ?_; refine W.region ?_; refine W.q (Ev.move (.t rfl)) rfl ?_; refine W.q (Ev.nei (.t rfl) .k) rfl ?_; refine W.nil ?_; refine W.then ?_; refine W.is (t := 52) (g := true) (av' := .lit (.bool false)) rfl (congrArg (fun b => AV.lit (.bool b)) (by rfl)) ?_; refine W.condF (.t rfl) ?_; refine W.skip ?_; refine W.then ?_; refine W.seq ?_; refine W.drawnM (fun ee c_ => [.box b6 28 [.str t.name, .str t.content, .sl 1 (t.attrs.map AV.str)], .arr va 62 2 ((as_.take i).map Au.avx), .box b20 76 [.sl 3 (ts.map tpv), .lit va, .lit (.slice none 0 0)]] ++ ((bif ee 10 then [ME.box (c_ 10).1 62 (bif ee 11 then [.sl 1 (A.next.map pav), .sl 1 (A.final.map AV.bool)] else [.lit (.slice none 0 0), .lit (.slice none 0 0)])] else []) ++ M0)) (c0 := ks0) (by kernel_rfl) (by kernel_rfl) rfl ?_
    have hPm : ∀ (e : Nat → Bool) (c_ : Ks), ∃ Mr, List.Perm ((fun ee c_ => [.box b6 28 [.str t.name, .str t.content, .sl 1 (t.attrs.map AV.str)], .arr va 62 2 ((as_.take i).map Au.avx), .box b20 76 [.sl 3 (ts.map tpv), .lit va, .lit (.slice none 0 0)]] ++ ((bif ee 10 then [ME.box (c_ 10).1 62 (bif ee 11 then [.sl 1 (A.next.map pav), .sl 1 (A.final.map AV.bool)] else [.lit (.slice none 0 0), .lit (.slice none 0 0)])] else []) ++ M0)) e c_) (M0 ++ Mr) := fun e c_ => by
      dsimp only
      rw [← List.append_assoc]
      exact ⟨_, List.perm_append_comm⟩
    (refine DM.q (fun e c hk => (Ev.fab (.t rfl) fa28_1)) rfl (fun _ _ => rfl) (fun c c_ h => by first | rfl) ?_)
    (refine DM.q (fun e c hk => (Ev.ldb1 0 (.t rfl) rfl ag9 rfl)) rfl (fun _ _ => rfl) (fun c c_ h => by first | rfl) ?_)
    refine DM.q (fun e c hk => (Ev.move (.t rfl))) rfl (fun _ _ => rfl) (fun c c_ h => by first | rfl) ?_
    (refine DM.q (fun e c hk => (Ev.lensl (.t rfl) Tryz.underlying23)) rfl (fun _ _ => rfl) (fun c c_ h => by first | rfl) ?_)
    refine DM.q (fun e c hk => (Ev.move (.t rfl))) rfl (fun _ _ => rfl) (fun c c_ h => by first | rfl) ?_; refine DM.callp (fun c => WSPart.c_lastText ts (by omega)) (fun c => ⟨(.t rfl), trivial⟩) rfl (fun _ _ => rfl) (fun c c_ h => by first | rfl) ?_; refine DM.callm (fun c => hM) (fun e c => hPm e c) (fun c => ⟨(.t rfl), (.t rfl), (.t rfl), trivial⟩) rfl (fun _ _ => rfl) (fun c c_ h => by first | rfl) ?_; refine DM.q (fun e c hk => (Ev.move (.t rfl))) rfl (fun _ _ => rfl) (fun c c_ h => by first | rfl) ?_; refine DM.q (fun e c hk => (Ev.extract (.t rfl) rfl)) rfl (fun _ _ => rfl) (fun c c_ h => by first | rfl) ?_; refine DM.q (fun e c hk => (Ev.extract (.t rfl) rfl)) rfl (fun _ _ => rfl) (fun c c_ h => by first | rfl) ?_; refine DM.eff1 (av := fun c => .lit (.pointer (some ⟨(c 10).1, 0, none⟩))) rfl (fun c c_ h => by (simp only [h 10 (by (exact .inl rfl))])) (fun e c hk L_ hs Q h => ?_) ?_
    · have hk_10 := hk.not
      have hk_11 := hk.down 11 (by kernel_rfl)
      simp only [addE, upd, eq_self, List.nil_append, List.cons_append, List.append_nil, hk_10, hk_11, Nat.reduceAdd, Nat.reduceEqDiff, ↓reduceIte, cond_true, cond_false] at h ⊢
      exact W.alloc ty62 rfl rfl (fun b => h (b, undef) _ (by (exact (List.perm_middle (l₁ := [_, _, _])).symm)))
    refine DM.eff0 (fun e c hk L_ hs Q h => ?_) ?_
    · have hk_11 := hk.not
      have hk_10 := hk.up 10 (by kernel_rfl)
      simp only [addE, upd, eq_self, List.nil_append, List.cons_append, List.append_nil, hk_11, hk_10, Nat.reduceAdd, Nat.reduceEqDiff, ↓reduceIte, cond_true, cond_false] at h ⊢
      ((refine W.stb 3 (.t (hs _ _ rfl)) (.t (hs _ _ rfl)) rfl ty62 rfl rfl rfl ?_; exact h))
    refine DM.q (fun e c hk => (Ev.assign (.t rfl))) rfl (fun _ _ => rfl) (fun c c_ h => by (rfl)) ?_; refine DM.nil (fun cc e_ he_ => ?_)
    simp only [he_ 10 (by decide), he_ 11 (by decide), cond_true, cond_false]
    generalize (cc 10).1 = b8
    refine W.perm (M' := .arr va 62 2 ((as_.take i).map Au.avx) :: .box b20 76 [.sl 3 (ts.map tpv), .lit va, .lit (.slice none 0 0)] :: .box b8 62 [.sl 1 (A.next.map pav), .sl 1 (A.final.map AV.bool)] :: .box b6 28 [.str t.name, .str t.content, .sl 1 (t.attrs.map AV.str)] :: M0) ?_ ?_
    · exact (List.perm_middle (l₁ := [_])).trans (List.Perm.cons _ ((List.perm_middle (l₁ := [_])).trans (List.Perm.cons _ (List.perm_middle (l₁ := [_])))))
    refine W.then ?_; refine W.seq ?_; refine W.seq ?_; refine W.region ?_; refine W.q (Ev.move (.t rfl)) rfl ?_; refine W.q (Ev.nei (.t rfl) .k) rfl ?_; refine W.nil ?_; refine W.then ?_; refine W.is (t := 65) (g := true) (av' := .lit (.bool false)) rfl (congrArg (fun b => AV.lit (.bool b)) (by rfl)) ?_; refine W.condF (.t rfl) ?_; refine W.skip ?_; refine W.then ?_; refine W.drawnE (ι := Value) (fun ee c => (bif ee 7 then ME.arr c 62 2 (((as_.take i).map Au.avx) ++ [A.avx]) else ME.arr va 62 2 ((as_.take i).map Au.avx)) :: ME.box b20 76 [.sl 3 (ts.map tpv), bif ee 10 then .lit c else .lit va, .lit (.slice none 0 0)] :: .box b8 62 [.sl 1 (A.next.map pav), .sl 1 (A.final.map AV.bool)] :: .box b6 28 [.str t.name, .str t.content, .sl 1 (t.attrs.map AV.str)] :: M0) 7 va (by kernel_rfl) (by kernel_rfl) rfl ?_; refine DE.q (fun e c hk => (Ev.move (.t rfl))) rfl (fun _ _ => rfl) (by (exact .inr (fun _ _ => rfl))) ?_; refine DE.q (fun e c hk => (Ev.move (.t rfl))) rfl (fun _ _ => rfl) (by (exact .inr (fun _ _ => rfl))) ?_; refine DE.q (fun e c hk => (Ev.nilc (.t rfl))) rfl (fun _ _ => rfl) (by (exact .inr (fun _ _ => rfl))) ?_
    (refine DE.q (fun e c hk => (Ev.fab (.t rfl) fa76_1)) rfl (fun _ _ => rfl) (by (exact .inr (fun _ _ => rfl))) ?_)
    refine DE.q (av := fun _ => .lit va) (fun e c hk => by have h := hk.down 10 (by kernel_rfl); simp only [h, cond_false]; exact Ev.ldb1 1 (.t rfl) rfl ag74 rfl) rfl (fun _ _ => rfl) (by (exact .inr (fun _ _ => rfl))) ?_
    (refine DE.q (fun e c hk => (Ev.ldbn 2 (.t rfl) rfl ag62 ty62 rfl)) rfl (fun _ _ => rfl) (by (exact .inr (fun _ _ => rfl))) ?_)
    refine DE.bs (es := fun _ => [_]) Tryz.underlying74 ty62 (fun c => ⟨rfl, (.t rfl), rfl, rfl, trivial⟩) (fun _ => rfl) (by decide) rfl rfl (fun _ _ => rfl) (by (exact .inr (fun _ _ => rfl))) ?_; refine DE.eff1 (av := fun v => .lit v) rfl rfl (fun e c hk L_ hs Q h => ?_) ?_
    · have hk_7 := hk.not
      have hk_10 := hk.down 10 (by kernel_rfl)
      simp only [addE, hk_7, hk_10, Nat.reduceAdd, Nat.reduceEqDiff, ↓reduceIte, cond_true, cond_false] at h ⊢
      ((refine W.app 0 (.t (hs _ _ rfl)) rfl (.sl (.t (hs _ _ rfl)) (by intro e he; rw [List.mem_singleton.1 he]; rfl)) Tryz.underlying74 ni74 ty62 rfl rfl (by rw [List.length_map, List.length_take]; simp only [List.length_cons, List.length_nil]; omega) rfl ?_; exact h))
    refine DE.q (fun e c hk => (Ev.nilc (.t rfl))) rfl (fun _ _ => rfl) (by (exact .inr (fun _ _ => rfl))) ?_
    (refine DE.q (fun e c hk => (Ev.fab (.t rfl) fa76_1)) rfl (fun _ _ => rfl) (by (exact .inr (fun _ _ => rfl))) ?_)
    refine DE.eff0 (fun e c hk L_ hs Q h => ?_) ?_
    · have hk_10 := hk.not
      have hk_7 := hk.up 7 (by kernel_rfl)
      simp only [addE, hk_10, hk_7, Nat.reduceAdd, Nat.reduceEqDiff, ↓reduceIte, cond_true, cond_false] at h ⊢
      refine W.arr_inv 0 rfl (fun a9 n9 c9 h9 => ?_)
      subst h9
      refine W.stb 1 (.t (hs _ _ rfl)) (.t (hs _ _ rfl)) rfl ty74 rfl rfl rfl ?_
      exact h
    refine DE.nil (fun v74 e_ he_ => ?_)
    simp only [he_ 7 (by decide), he_ 10 (by decide), cond_true, cond_false]
    refine W.blk_normal ?_; refine W.then ?_; refine W.region ?_
    (refine W.q (Ev.add (.t rfl) .k (fun _ => by omega)) rfl ?_)
    refine W.q (Ev.move (.t rfl)) rfl ?_; refine W.nil ?_; refine W.then ?_; refine W.reach (D := [.box b8 62 [.sl 1 (A.next.map pav), .sl 1 (A.final.map AV.bool)], .box b6 28 [.str t.name, .str t.content, .sl 1 (t.attrs.map AV.str)]]) (i + 1, v74) ⟨rfl, rfl, rfl, rfl, rfl, trivial⟩ ?_ ⟨hlt, by show ts.length - (i + 1) < ts.length - i; omega⟩
    dsimp only
    rw [htk, List.map_append]
    exact List.Perm.cons _ (List.Perm.cons _ (List.perm_append_comm (l₁ := [_, _])))
  · subst hend
    rw [List.take_of_length_le (by have := hg.has; omega)]
    refine W.seq ?_; refine W.region ?_; refine W.q (Ev.lti (.t rfl) (.t rfl)) rfl ?_; refine W.nil ?_; refine W.then ?_; refine W.seq ?_; refine W.is (t := 24) (g := true) (av' := .lit (.bool false)) rfl (congrArg (fun b => AV.lit (.bool b)) (by exact decide_eq_false (by omega))) ?_; refine W.condF (.t rfl) ?_; refine W.exit ?_; refine W.then_exit ?_; refine W.then_exit ?_; refine W.blk_hit ?_; refine W.then ?_; refine W.seq ?_; refine W.region ?_; refine W.freezeA (M1 := .box b20 76 [.sl 3 (ts.map tpv), .lit va, .lit (.slice none 0 0)] :: M0) (M2 := .box b20 76 [.sl 3 (ts.map tpv), .sl 2 (as_.map Au.avx), .lit (.slice none 0 0)] :: M0) (D := []) (v := va) (L' := []) (by ((rw [List.append_nil]; done))) trivial ⟨.box ⟨.refl _, .hit, .refl _, trivial⟩, FrzMs.refl _⟩ ?_; refine W.q (Ev.move (.t rfl)) rfl ?_; refine W.call (WMeas.c_measure b20 ts as_ hg.has hg.sh (by omega) fin hfin) ⟨(.t rfl), trivial⟩ (.refl _) rfl ?_
    rintro _ _ ⟨rfl, vs, rfl⟩
    refine W.freezeA (M1 := .box b20 76 [.sl 3 (ts.map tpv), .sl 2 (as_.map Au.avx), .lit vs] :: M0) (M2 := .box b20 76 [.sl 3 (ts.map tpv), .sl 2 (as_.map Au.avx), .sl 1 (fin.map AV.int)] :: M0) (D := []) (v := vs) (L' := []) (by rw [List.append_nil]; exact List.Perm.swap _ _ _) trivial ⟨.box ⟨.refl _, .refl _, .hit, trivial⟩, FrzMs.refl _⟩ ?_; refine W.nil ?_; refine W.then ?_; refine W.seq ?_; refine W.seq ?_; refine W.region ?_; refine W.q (Ev.move (.t rfl)) rfl ?_; refine W.q (Ev.nilc (.t rfl)) rfl ?_
    (refine W.q (Ev.fab (.t rfl) fa76_2) rfl ?_)
    (refine W.q (Ev.ldb1 0 (.t rfl) rfl ag22 rfl) rfl ?_)
    refine W.call (WConts.c_ContainsFuncI fin 55 [] [] (fun n => n == 0 || decide (150 < n)) (fun n _ => WSPart.c_New2 n) (by omega)) ⟨(.t rfl), .f, trivial⟩ (.refl _) rfl ?_
    rintro _ _ ⟨rfl, rfl⟩
    refine W.nil ?_; refine W.then ?_; refine W.is (t := 84) (g := true) (av' := .lit (.bool false)) rfl (congrArg (fun b => AV.lit (.bool b)) (by exact hall)) ?_; refine W.condF (.t rfl) ?_; refine W.skip ?_; refine W.then ?_; refine W.seq ?_; refine W.region ?_; refine W.q (Ev.move (.t rfl)) rfl ?_; refine W.q (Ev.assign (.t rfl)) rfl ?_; refine W.q (Ev.assign .k) rfl ?_; refine W.nil ?_; refine W.then ?_; refine W.ret ?_; refine W.retn (M' := (.box b20 76 [.sl 3 (ts.map tpv), .sl 2 (as_.map Au.avx), .sl 1 (fin.map AV.int)] :: M0)) (D := []) (rs := [.tmp 2, .tmp 3]) (avs := [_, _]) Tryz.results30 ⟨rfl, rfl, trivial⟩ rfl (by rw [List.append_nil]; exact .refl _) ?_
    exact ⟨b20, rfl, rfl⟩

end WNew

end Go.Proofs.YtphlkdbglpcikaaGreatDoor
end

section
set_option linter.unusedVariables false
set_option linter.unusedSimpArgs false
set_option maxRecDepth 100000
namespace Go.Proofs.YtphlkdbglpcikaaGreatDoor
open Go.Vl

namespace WToGoF
theorem ty3 : Ty Tryz.prog 3 1 8 (.int .i64 0) := Ty.of (by kernel_rfl)
theorem ty4 : Ty Tryz.prog 4 1 1 (.bool false) := Ty.of (by kernel_rfl)
theorem ty22 : Ty Tryz.prog 22 1 24 (.slice none 0 0) := Ty.of (by kernel_rfl)
theorem ty59 : Ty Tryz.prog 59 1 24 (.slice none 0 0) := Ty.of (by kernel_rfl)
theorem ty60 : Ty Tryz.prog 60 1 24 (.slice none 0 0) := Ty.of (by kernel_rfl)
theorem ag3 : IsAgg Tryz.prog 3 false := ⟨_, Tryz.underlying3, rfl⟩
theorem ag4 : IsAgg Tryz.prog 4 false := ⟨_, Tryz.underlying4, rfl⟩
theorem ag22 : IsAgg Tryz.prog 22 false := ⟨_, Tryz.underlying22, rfl⟩
theorem ag59 : IsAgg Tryz.prog 59 false := ⟨_, Tryz.underlying59, rfl⟩
theorem ag60 : IsAgg Tryz.prog 60 false := ⟨_, Tryz.underlying60, rfl⟩
theorem fa62_0 : FieldAt Tryz.prog 62 0 0 1 false := ⟨_, _, Tryz.underlying62, rfl, rfl, ty59.size, ag59, by decide⟩
theorem fa62_1 : FieldAt Tryz.prog 62 1 1 1 false := ⟨_, _, Tryz.underlying62, rfl, rfl, ty60.size, ag60, by decide⟩
theorem fa76_2 : FieldAt Tryz.prog 76 2 2 1 false := ⟨_, _, Tryz.underlying76, rfl, rfl, ty22.size, ag22, by decide⟩
set_option maxHeartbeats 1600000 in
theorem c_ToGoF (b : Nat) (ts : List Tp) (as_ : List Au) (sz : List Int) (A : Au) (hsh : A.Shape) (hn : A.next.length ≤ 100) (hcol : ∀ r ∈ A.next, ∀ k, k < 8 → 0 ≤ r.getD k (-1) → k < sz.length) (out : List Int) (htg : Sch.toGo sz A = some out) : FnC Tryz.prog 90 [.lit (.pointer (some ⟨b, 0, none⟩)), .agg [.sl 1 (A.next.map pav), .sl 1 (A.final.map AV.bool)]] [.box b 76 [.sl 3 (ts.map tpv), .sl 2 (as_.map Au.avx), .sl 1 (sz.map AV.int)]] (fun r M => r = .sl 1 (out.map AV.int) ∧ M = [.box b 76 [.sl 3 (ts.map tpv), .sl 2 (as_.map Au.avx), .sl 1 (sz.map AV.int)]]) :=  by
  refine FnC.mk Tryz.func90 (by kernel_rfl) rfl Tryz.ntmps90 rfl (fun w0 F => ?_)
  have hnl : (A.next.map pav).length = A.next.length := List.length_map ..
  have hfl : (A.final.map AV.bool).length = A.final.length := List.length_map ..
  have hfn := hsh.fin
  have hszl : (sz.map AV.int).length = sz.length := List.length_map ..
  refine W.seq ?_; refine W.region ?_; refine W.box (.t rfl) rfl rfl ?_; intro b3; refine W.q (Ev.assign .k) rfl ?_; refine W.nil ?_; refine W.then ?_; refine W.seq ?_; refine W.region ?_
  (refine W.q (Ev.fab (.t rfl) fa62_0) rfl ?_)
  (refine W.q (Ev.ldb1 0 (.t rfl) rfl ag59 rfl) rfl ?_)
  (refine W.q (Ev.lensl (.t rfl) Tryz.underlying59) rfl ?_)
  refine W.mk (.t rfl) (.t rfl) Tryz.underlying22 ty3 rfl rfl rfl rfl rfl (by omega) rfl ?_; intro v17
  have h00 : List.replicate (A.next.map pav).length (AV.int 0) = (Sch.tgI A 0).map AV.int := by rw [Sch.tgI_zero, hnl, hfn, List.map_replicate]
  refine W.perm (List.Perm.of_eq (show _ = [.arr v17 3 1 ((Sch.tgI A 0).map AV.int), .box b3 62 [.sl 1 (A.next.map pav), .sl 1 (A.final.map AV.bool)], .box b 76 [.sl 3 (ts.map tpv), .sl 2 (as_.map Au.avx), .sl 1 (sz.map AV.int)]] from by show (ME.arr v17 _ _ (List.replicate (A.next.map pav).length (AV.int 0)) :: _) = _; rw [h00]; rfl)) ?_; refine W.q (Ev.assign (.t rfl)) rfl ?_; refine W.nil ?_; refine W.then ?_; refine W.seq ?_; refine W.seq ?_; refine W.region ?_
  (refine W.q (Ev.fab (.t rfl) fa62_1) rfl ?_)
  (refine W.q (Ev.ldb1 1 (.t rfl) rfl ag60 rfl) rfl ?_)
  (refine W.q (Ev.lensl (.t rfl) Tryz.underlying60) rfl ?_)
  refine W.q (Ev.move .k) rfl ?_; refine W.nil ?_; refine W.then ?_; refine W.block ?_; refine W.loop (D := []) (ι := Nat) (fun i => [(21, true, .int (i : Int)), (20, true, .int ((A.final.map AV.bool).length : Int)), (19, true, .sl 1 (A.final.map AV.bool)), (0, true, .lit (.pointer (some ⟨b, 0, none⟩))), (3, true, .lit (.pointer (some ⟨b3, 0, none⟩))), (5, true, .lit v17)]) (fun i => [.arr v17 3 1 ((Sch.tgI A i).map AV.int), .box b3 62 [.sl 1 (A.next.map pav), .sl 1 (A.final.map AV.bool)], .box b 76 [.sl 3 (ts.map tpv), .sl 2 (as_.map Au.avx), .sl 1 (sz.map AV.int)]]) (fun i => i ≤ A.final.length) (fun i => A.final.length - i) 0 ⟨rfl, rfl, rfl, rfl, rfl, rfl, trivial⟩ (.refl _) (Nat.zero_le _) ?_; intro i hi
  dsimp only at hi ⊢
  rcases (show i < A.final.length ∨ i = A.final.length from by omega) with hlt | hend
  · have hgf := getD_mapG AV.bool false A.final i hlt
    have hg0 := getD_map (Sch.tgI A i) i (by rw [Sch.tgI_len A i hi]; exact hlt)
    refine W.seq ?_; refine W.region ?_; refine W.q (Ev.lti (.t rfl) (.t rfl)) rfl ?_; refine W.nil ?_; refine W.then ?_; refine W.seq ?_; refine W.is (t := 22) (g := true) (av' := .lit (.bool true)) rfl (congrArg (fun b => AV.lit (.bool b)) (by exact decide_eq_true (by omega))) ?_; refine W.condT (.t rfl) ?_; refine W.skip ?_; refine W.then ?_; refine W.seq ?_; refine W.block ?_; refine W.seq ?_; refine W.region ?_; refine W.q (Ev.move (.t rfl)) rfl ?_; refine W.q (Ev.at (E := 4) (.t rfl) (.t rfl) Tryz.underlying60 ty4 (fun _ => ⟨by omega, hgf⟩) rfl rfl) rfl ?_
    (refine W.q (Ev.lde1 (.t rfl) ag4) rfl ?_)
    refine W.q (Ev.assign (.t rfl)) rfl ?_; refine W.q (Ev.assign (.t rfl)) rfl ?_; refine W.nil ?_; refine W.then ?_; refine W.seq ?_; refine W.region ?_; refine W.q (Ev.move (.t rfl)) rfl ?_; refine W.q (Ev.not (.t rfl)) rfl ?_; refine W.nil ?_; refine W.then ?_; refine W.cond (.t rfl) (fun hc_t27 => ?_) (fun hc_t27 => ?_)
    · have hf0 : ¬ A.final.getD i false = true := by intro h; rw [h] at hc_t27; cases hc_t27
      have hsu := Sch.tgI_succ A i hlt
      rw [if_neg hf0] at hsu
      refine W.region ?_; refine W.q (Ev.move (.t rfl)) rfl ?_; refine W.q (Ev.move (.t rfl)) rfl ?_; refine W.q (Ev.ata 0 (.t rfl) rfl (.t rfl) Tryz.underlying22 ty3 (fun hg => by rw [List.length_map, Sch.tgI_len A i hi]; omega)) rfl ?_; refine W.sta 0 i 0 (e := AV.int ((Sch.tgI A i).getD i 0)) (e' := AV.int (-1)) (.t rfl) .k rfl hg0 (by omega) ty3 rfl rfl rfl rfl rfl rfl rfl ?_; refine W.nil ?_; refine W.blk_normal ?_; refine W.then ?_; refine W.region ?_
      (refine W.q (Ev.add (.t rfl) .k (fun _ => by omega)) rfl ?_)
      refine W.q (Ev.move (.t rfl)) rfl ?_; refine W.nil ?_; refine W.then ?_
      rw [← List.map_set, ← hsu]
      refine W.reach (D := []) (i + 1) ⟨rfl, rfl, rfl, rfl, rfl, rfl, trivial⟩ (.refl _) ⟨hlt, by show A.final.length - (i + 1) < A.final.length - i; omega⟩
    · have hf0 : A.final.getD i false = true := by cases h : A.final.getD i false; rw [h] at hc_t27; cases hc_t27; rfl
      have hsu := Sch.tgI_succ A i hlt
      rw [if_pos hf0] at hsu
      refine W.skip ?_; refine W.blk_normal ?_; refine W.then ?_; refine W.region ?_
      (refine W.q (Ev.add (.t rfl) .k (fun _ => by omega)) rfl ?_)
      refine W.q (Ev.move (.t rfl)) rfl ?_; refine W.nil ?_; refine W.then ?_
      rw [← hsu]
      refine W.reach (D := []) (i + 1) ⟨rfl, rfl, rfl, rfl, rfl, rfl, trivial⟩ (.refl _) ⟨hlt, by show A.final.length - (i + 1) < A.final.length - i; omega⟩
  · rw [hend, Sch.tgI_all]
    refine W.seq ?_; refine W.region ?_; refine W.q (Ev.lti (.t rfl) (.t rfl)) rfl ?_; refine W.nil ?_; refine W.then ?_; refine W.seq ?_; refine W.is (t := 22) (g := true) (av' := .lit (.bool false)) rfl (congrArg (fun b => AV.lit (.bool b)) (by exact decide_eq_false (by omega))) ?_; refine W.condF (.t rfl) ?_; refine W.exit ?_; refine W.then_exit ?_; refine W.then_exit ?_; refine W.blk_hit ?_; refine W.then ?_; refine W.seq ?_; refine W.seq ?_; refine W.region ?_; refine W.q (Ev.assign .k) rfl ?_; refine W.nil ?_; refine W.then ?_; refine W.block ?_; refine W.loop (D := []) (ι := Nat × List Int × Bool) (fun z => [(8, true, .bool z.2.2), (0, true, .lit (.pointer (some ⟨b, 0, none⟩))), (3, true, .lit (.pointer (some ⟨b3, 0, none⟩))), (5, true, .lit v17)]) (fun z => [.arr v17 3 1 (z.2.1.map AV.int), .box b3 62 [.sl 1 (A.next.map pav), .sl 1 (A.final.map AV.bool)], .box b 76 [.sl 3 (ts.map tpv), .sl 2 (as_.map Au.avx), .sl 1 (sz.map AV.int)]]) (fun z => z.2.1.length = A.next.length ∧ ((z.2.2 = true ∧ Sch.tgo sz A z.1 z.2.1 = some out) ∨ (z.2.2 = false ∧ z.2.1 = out))) (fun z => if z.2.2 = true then z.1 + 1 else 0) (12, A.final.map (fun b => if b = true then (0 : Int) else -1), true) ⟨rfl, rfl, rfl, rfl, trivial⟩ (.refl _) ⟨by rw [List.length_map, hfn], .inl ⟨rfl, htg⟩⟩ ?_
    rintro ⟨f, o, mo⟩ ⟨hol0, hor⟩
    dsimp only at hol0 hor ⊢
    rcases hor with ⟨rfl, hrun⟩ | ⟨rfl, rfl⟩
    · obtain ⟨m, rfl⟩ : ∃ m, f = m + 1 := by cases f; (cases hrun); exact ⟨_, rfl⟩
      simp only [Sch.tgo] at hrun
      refine W.seq ?_; refine W.seq ?_; refine W.region ?_; refine W.q (Ev.move (.t rfl)) rfl ?_; refine W.nil ?_; refine W.then ?_; refine W.condT (.t rfl) ?_; refine W.skip ?_; refine W.then ?_; refine W.block ?_; refine W.seq ?_; refine W.region ?_; refine W.q (Ev.assign .k) rfl ?_; refine W.nil ?_; refine W.then ?_; refine W.seq ?_; refine W.region ?_
      (refine W.q (Ev.fab (.t rfl) fa62_0) rfl ?_)
      (refine W.q (Ev.ldb1 1 (.t rfl) rfl ag59 rfl) rfl ?_)
      (refine W.q (Ev.lensl (.t rfl) Tryz.underlying59) rfl ?_)
      refine W.q (Ev.move .k) rfl ?_; refine W.nil ?_; refine W.then ?_; refine W.block ?_; refine W.loop (D := []) (ι := Nat) (fun i => [(36, true, .int (i : Int)), (35, true, .int ((A.next.map pav).length : Int)), (34, true, .sl 1 (A.next.map pav)), (8, true, .bool (Sch.rndc sz A (o, false) i).2), (0, true, .lit (.pointer (some ⟨b, 0, none⟩))), (3, true, .lit (.pointer (some ⟨b3, 0, none⟩))), (5, true, .lit v17)]) (fun i => [.arr v17 3 1 ((Sch.rndc sz A (o, false) i).1.map AV.int), .box b3 62 [.sl 1 (A.next.map pav), .sl 1 (A.final.map AV.bool)], .box b 76 [.sl 3 (ts.map tpv), .sl 2 (as_.map Au.avx), .sl 1 (sz.map AV.int)]]) (fun i => i ≤ A.next.length) (fun i => A.next.length - i) 0 ⟨rfl, rfl, rfl, rfl, rfl, rfl, rfl, trivial⟩ (.refl _) (Nat.zero_le _) ?_; intro i hi
      dsimp only at hi ⊢
      rcases (show i < A.next.length ∨ i = A.next.length from by omega) with hlti | hend
      · have hgr := getD_mapG pav [] A.next i hlti
        have hrm := getD_memG [] A.next i hlti
        have hr8 := hsh.mem_row _ hrm
        have hent := hsh.mem_ent _ hrm
        have hcl := hcol _ hrm
        have hsi := Sch.rndc_succ sz A (o, false) i
        generalize A.next.getD i [] = row at hgr hrm hr8 hent hcl hsi
        have hrl : (row.map AV.int).length = 8 := by rw [List.length_map]; exact hr8
        refine W.seq ?_; refine W.region ?_; refine W.q (Ev.lti (.t rfl) (.t rfl)) rfl ?_; refine W.nil ?_; refine W.then ?_; refine W.seq ?_; refine W.is (t := 37) (g := true) (av' := .lit (.bool true)) rfl (congrArg (fun b => AV.lit (.bool b)) (by exact decide_eq_true (by omega))) ?_; refine W.condT (.t rfl) ?_; refine W.skip ?_; refine W.then ?_; refine W.seq ?_; refine W.block ?_; refine W.seq ?_; refine W.region ?_; refine W.q (Ev.move (.t rfl)) rfl ?_; refine W.q (Ev.at (E := 22) (.t rfl) (.t rfl) Tryz.underlying59 ty22 (fun _ => ⟨by omega, hgr⟩) rfl rfl) rfl ?_
        (refine W.q (Ev.lde1 (.t rfl) ag22) rfl ?_)
        refine W.q (Ev.assign (.t rfl)) rfl ?_; refine W.q (Ev.assign (.t rfl)) rfl ?_; refine W.nil ?_; refine W.then ?_; refine W.seq ?_; refine W.region ?_; refine W.q (Ev.move (.t rfl)) rfl ?_
        (refine W.q (Ev.lensl (.t rfl) Tryz.underlying22) rfl ?_)
        refine W.q (Ev.move .k) rfl ?_; refine W.nil ?_; refine W.then ?_; refine W.block ?_; refine W.loop (D := []) (ι := Nat) (fun k => [(43, true, .int (k : Int)), (42, true, .int ((row.map AV.int).length : Int)), (41, true, .sl 1 (row.map AV.int)), (9, true, .int (i : Int)), (36, true, .int (i : Int)), (35, true, .int ((A.next.map pav).length : Int)), (34, true, .sl 1 (A.next.map pav)), (10, true, .sl 1 (row.map AV.int)), (8, true, .bool (Sch.rowc sz i row (Sch.rndc sz A (o, false) i) k).2), (0, true, .lit (.pointer (some ⟨b, 0, none⟩))), (3, true, .lit (.pointer (some ⟨b3, 0, none⟩))), (5, true, .lit v17)]) (fun k => [.arr v17 3 1 ((Sch.rowc sz i row (Sch.rndc sz A (o, false) i) k).1.map AV.int), .box b3 62 [.sl 1 (A.next.map pav), .sl 1 (A.final.map AV.bool)], .box b 76 [.sl 3 (ts.map tpv), .sl 2 (as_.map Au.avx), .sl 1 (sz.map AV.int)]]) (fun k => k ≤ 8) (fun k => 8 - k) 0 ⟨rfl, rfl, rfl, rfl, rfl, rfl, rfl, rfl, rfl, rfl, rfl, rfl, trivial⟩ (.refl _) (Nat.zero_le _) ?_; intro k hk
        dsimp only at hk ⊢
        have hol : ((Sch.rowc sz i row (Sch.rndc sz A (o, false) i) k).1.map AV.int).length = A.next.length := by rw [List.length_map, Sch.rowc_len, Sch.rndc_len]; exact hol0
        have hol1 : (Sch.rowc sz i row (Sch.rndc sz A (o, false) i) k).1.length = A.next.length := by rw [Sch.rowc_len, Sch.rndc_len]; exact hol0
        obtain ⟨to, hto⟩ : ∃ z, row.getD k (-1) = z := ⟨_, rfl⟩
        rcases (show (k < 8 ∧ to < 0) ∨ (k < 8 ∧ 0 ≤ to) ∨ k = 8 from by omega) with ⟨hlt, hneg⟩ | ⟨hlt, hpos⟩ | hend
        · have hgt : (row.map AV.int)[k]? = some (AV.int to) := by rw [List.getElem?_map, ← hto, List.getD_eq_getElem?_getD, List.getElem?_eq_getElem (show k < row.length by omega)]; rfl
          refine W.seq ?_; refine W.region ?_; refine W.q (Ev.lti (.t rfl) (.t rfl)) rfl ?_; refine W.nil ?_; refine W.then ?_; refine W.seq ?_; refine W.is (t := 44) (g := true) (av' := .lit (.bool true)) rfl (congrArg (fun b => AV.lit (.bool b)) (by exact decide_eq_true (by omega))) ?_; refine W.condT (.t rfl) ?_; refine W.skip ?_; refine W.then ?_; refine W.seq ?_; refine W.block ?_; refine W.seq ?_; refine W.region ?_; refine W.q (Ev.move (.t rfl)) rfl ?_; refine W.q (Ev.at (E := 3) (.t rfl) (.t rfl) Tryz.underlying22 ty3 (fun _ => ⟨by omega, hgt⟩) rfl rfl) rfl ?_
          (refine W.q (Ev.lde1 (.t rfl) ag3) rfl ?_)
          refine W.q (Ev.assign (.t rfl)) rfl ?_; refine W.q (Ev.assign (.t rfl)) rfl ?_; refine W.nil ?_; refine W.then ?_; refine W.seq ?_; refine W.seq ?_; refine W.region ?_; refine W.q (Ev.move (.t rfl)) rfl ?_; refine W.q (Ev.lti (.t rfl) .k) rfl ?_; refine W.q (Ev.move (.t rfl)) rfl ?_; refine W.is (t := 50) (g := true) (av' := .bool true) rfl (congrArg AV.bool (decide_eq_true hneg)) ?_; refine W.gnob rfl rfl (by simp) rfl ?_; refine W.gnob rfl rfl (by simp) rfl ?_; refine W.gnob rfl rfl (by simp) rfl ?_; refine W.gnob rfl rfl (by simp) rfl ?_; refine W.gnob rfl rfl (by simp) rfl ?_; refine W.q (Ev.or (.t rfl) ⟨_, _, rfl, rfl, by ((simp; done))⟩) rfl ?_; refine W.q (Ev.move (.t rfl)) rfl ?_; refine W.is (t := 57) (g := true) (av' := .bool true) rfl (congrArg AV.bool (by simp)) ?_; refine W.gnob rfl rfl (by simp) rfl ?_; refine W.gnob rfl rfl (by simp) rfl ?_; refine W.gnob rfl rfl (by simp) rfl ?_; refine W.gnob rfl rfl (by simp) rfl ?_; refine W.gnob rfl rfl (by simp) rfl ?_; refine W.gnob rfl rfl (by simp) rfl ?_; refine W.gnob rfl rfl (by simp) rfl ?_; refine W.gnob rfl rfl (by simp) rfl ?_; refine W.q (Ev.or (.t rfl) ⟨_, _, rfl, rfl, by ((simp; done))⟩) rfl ?_; refine W.nil ?_; refine W.then ?_; refine W.is (t := 66) (g := true) (av' := .lit (.bool true)) rfl (congrArg (fun b => AV.lit (.bool b)) (by ((simp; done)))) ?_; refine W.condT (.t rfl) ?_; refine W.exit ?_; refine W.then_exit ?_; refine W.blk_hit ?_; refine W.then ?_; refine W.region ?_
          (refine W.q (Ev.add (.t rfl) .k (fun _ => by omega)) rfl ?_)
          refine W.q (Ev.move (.t rfl)) rfl ?_; refine W.nil ?_; refine W.then ?_
          have hst2 : Sch.rowc sz i row (Sch.rndc sz A (o, false) i) (k + 1) = Sch.rowc sz i row (Sch.rndc sz A (o, false) i) k := by rw [Sch.rowc_succ, hto]; exact if_pos (.inl hneg)
          refine W.is (t := 8) (g := true) (av' := .bool (Sch.rowc sz i row (Sch.rndc sz A (o, false) i) (k + 1)).2) rfl (congrArg AV.bool (by rw [hst2])) ?_
          rw [← hst2]
          refine W.reach (D := []) (k + 1) ⟨rfl, rfl, rfl, rfl, rfl, rfl, rfl, rfl, rfl, rfl, rfl, rfl, trivial⟩ (.refl _) ⟨hlt, by show 8 - (k + 1) < 8 - k; omega⟩
        · have hgt : (row.map AV.int)[k]? = some (AV.int to) := by rw [List.getElem?_map, ← hto, List.getD_eq_getElem?_getD, List.getElem?_eq_getElem (show k < row.length by omega)]; rfl
          have htn : to < A.next.length := (hent to (by rw [← hto]; exact getD_memG (-1) row k (by omega))).2
          have hks := hcl k hlt (by omega)
          have hgs := getD_map sz k hks
          have hgo := getD_map (Sch.rowc sz i row (Sch.rndc sz A (o, false) i) k).1 to.toNat (by omega)
          have hgi := getD_map (Sch.rowc sz i row (Sch.rndc sz A (o, false) i) k).1 i (by omega)
          refine W.seq ?_; refine W.region ?_; refine W.q (Ev.lti (.t rfl) (.t rfl)) rfl ?_; refine W.nil ?_; refine W.then ?_; refine W.seq ?_; refine W.is (t := 44) (g := true) (av' := .lit (.bool true)) rfl (congrArg (fun b => AV.lit (.bool b)) (by exact decide_eq_true (by omega))) ?_; refine W.condT (.t rfl) ?_; refine W.skip ?_; refine W.then ?_; refine W.seq ?_; refine W.block ?_; refine W.seq ?_; refine W.region ?_; refine W.q (Ev.move (.t rfl)) rfl ?_; refine W.q (Ev.at (E := 3) (.t rfl) (.t rfl) Tryz.underlying22 ty3 (fun _ => ⟨by omega, hgt⟩) rfl rfl) rfl ?_
          (refine W.q (Ev.lde1 (.t rfl) ag3) rfl ?_)
          refine W.q (Ev.assign (.t rfl)) rfl ?_; refine W.q (Ev.assign (.t rfl)) rfl ?_; refine W.nil ?_; refine W.then ?_; refine W.seq ?_; refine W.seq ?_; refine W.region ?_; refine W.q (Ev.move (.t rfl)) rfl ?_; refine W.q (Ev.lti (.t rfl) .k) rfl ?_; refine W.q (Ev.move (.t rfl)) rfl ?_; refine W.is (t := 50) (g := true) (av' := .bool false) rfl (congrArg AV.bool (decide_eq_false (by omega))) ?_; refine W.gyes rfl rfl ?_; refine W.q (Ev.move (.t rfl)) rfl ?_; refine W.gyes rfl rfl ?_; refine W.q (Ev.move (.t rfl)) rfl ?_; refine W.gyes rfl rfl ?_; refine W.q (Ev.ata 0 (.t rfl) rfl (.t rfl) Tryz.underlying22 ty3 (fun hg => by rw [hol]; omega)) rfl ?_; refine W.gyes rfl rfl ?_; refine W.q (Ev.lda1 0 to.toNat 0 (.t rfl) rfl hgo (by omega) rfl rfl rfl ag3) rfl ?_; refine W.gyes rfl rfl ?_; refine W.q (Ev.lti (.t rfl) .k) rfl ?_; refine W.q (Ev.or (.t rfl) ⟨_, _, rfl, rfl, by ((simp; done))⟩) rfl ?_; refine W.q (Ev.move (.t rfl)) rfl ?_; refine W.qgF rfl rfl (Ev.move (.t rfl)) rfl ?_; refine W.qgF rfl rfl (Ev.nilc (.c rfl)) rfl ?_
          (refine W.qgF rfl rfl (Ev.fab (.c rfl) fa76_2) rfl ?_)
          (refine W.qgF rfl rfl (Ev.ldb1 2 (.c rfl) rfl ag22 rfl) rfl ?_)
          refine W.qgF rfl rfl (Ev.move (.t rfl)) rfl ?_; refine W.qgF rfl rfl (Ev.at (E := 3) (.c rfl) (.c rfl) Tryz.underlying22 ty3 (fun _ => ⟨by omega, hgs⟩) rfl rfl) rfl ?_
          (refine W.qgF rfl rfl (Ev.lde1 (.c rfl) ag3) rfl ?_)
          refine W.qgF rfl rfl (Ev.eqi (.c rfl) .k) rfl ?_; refine W.q (Ev.or (.t rfl) ⟨_, _, rfl, rfl, by ((simp; done))⟩) rfl ?_; refine W.nil ?_; refine W.then ?_; refine W.cond (.t rfl) (fun hc_t66 => ?_) (fun hc_t66 => ?_)
          · have hst2 : Sch.rowc sz i row (Sch.rndc sz A (o, false) i) (k + 1) = Sch.rowc sz i row (Sch.rndc sz A (o, false) i) k := by rw [Sch.rowc_succ, hto]; unfold Sch.stepc; refine if_pos (.inr ?_); simpa using hc_t66
            refine W.exit ?_; refine W.then_exit ?_; refine W.blk_hit ?_; refine W.then ?_; refine W.region ?_
            (refine W.q (Ev.add (.t rfl) .k (fun _ => by omega)) rfl ?_)
            refine W.q (Ev.move (.t rfl)) rfl ?_; refine W.nil ?_; refine W.then ?_; refine W.is (t := 8) (g := true) (av' := .bool (Sch.rowc sz i row (Sch.rndc sz A (o, false) i) (k + 1)).2) rfl (congrArg AV.bool (by rw [hst2])) ?_
            rw [← hst2]
            refine W.reach (D := []) (k + 1) ⟨rfl, rfl, rfl, rfl, rfl, rfl, rfl, rfl, rfl, rfl, rfl, rfl, trivial⟩ (.refl _) ⟨hlt, by show 8 - (k + 1) < 8 - k; omega⟩
          · have h66 : ¬ (to < 0 ∨ (Sch.rowc sz i row (Sch.rndc sz A (o, false) i) k).1.getD to.toNat 0 < 0 ∨ sz.getD k 0 = 0) := by have hn0 : ¬ to < 0 := (by omega); simp only [hn0, false_or]; simpa using hc_t66
            refine W.skip ?_; refine W.then ?_; refine W.seq ?_; refine W.drawn (by kernel_rfl) (by kernel_rfl) ?_; refine DP.q (Ev.move (.t rfl)) rfl ?_; refine DP.q (Ev.nilc (.t rfl)) rfl ?_
            (refine DP.q (Ev.fab (.t rfl) fa76_2) rfl ?_)
            (refine DP.q (Ev.ldb1 2 (.t rfl) rfl ag22 rfl) rfl ?_)
            refine DP.q (Ev.move (.t rfl)) rfl ?_; refine DP.q (Ev.at (E := 3) (.t rfl) (.t rfl) Tryz.underlying22 ty3 (fun _ => ⟨by omega, hgs⟩) rfl rfl) rfl ?_
            (refine DP.q (Ev.lde1 (.t rfl) ag3) rfl ?_)
            refine DP.q (Ev.move (.t rfl)) rfl ?_; refine DP.q (Ev.move (.t rfl)) rfl ?_; refine DP.q (Ev.ata 0 (.t rfl) rfl (.t rfl) Tryz.underlying22 ty3 (fun hg => by rw [hol]; omega)) rfl ?_; refine DP.q (Ev.lda1 0 to.toNat 0 (.t rfl) rfl hgo (by omega) rfl rfl rfl ag3) rfl ?_
            (refine DP.q (Ev.addw (.t rfl) (.t rfl)) rfl ?_)
            refine DP.q (Ev.assign (.t rfl)) rfl ?_; refine DP.nil ?_; refine W.then ?_; refine W.seq ?_; refine W.region ?_; refine W.q (Ev.move (.t rfl)) rfl ?_; refine W.q (Ev.move (.t rfl)) rfl ?_; refine W.q (Ev.ata 0 (.t rfl) rfl (.t rfl) Tryz.underlying22 ty3 (fun hg => by rw [hol]; omega)) rfl ?_; refine W.q (Ev.lda1 0 i 0 (.t rfl) rfl hgi (by omega) rfl rfl rfl ag3) rfl ?_; refine W.q (Ev.lti (.t rfl) .k) rfl ?_; refine W.q (Ev.move (.t rfl)) rfl ?_; refine W.qgF rfl rfl (Ev.move (.t rfl)) rfl ?_; refine W.qgF rfl rfl (Ev.move (.t rfl)) rfl ?_; refine W.qgF rfl rfl (Ev.move (.t rfl)) rfl ?_; refine W.qgF rfl rfl (Ev.ata 0 (.c rfl) rfl (.c rfl) Tryz.underlying22 ty3 (fun hg => by rw [hol]; omega)) rfl ?_; refine W.qgF rfl rfl (Ev.lda1 0 i 0 (.c rfl) rfl hgi (by omega) rfl rfl rfl ag3) rfl ?_; refine W.qgF rfl rfl (Ev.lti (.c rfl) (.c rfl)) rfl ?_; refine W.q (Ev.or (.t rfl) ⟨_, _, rfl, rfl, by ((simp; done))⟩) rfl ?_; refine W.nil ?_; refine W.then ?_; refine W.cond (.t rfl) (fun hc_t91 => ?_) (fun hc_t91 => ?_)
            · have hst2 : Sch.rowc sz i row (Sch.rndc sz A (o, false) i) (k + 1) = ((Sch.rowc sz i row (Sch.rndc sz A (o, false) i) k).1.set i (Sch.wr (sz.getD k 0 + (Sch.rowc sz i row (Sch.rndc sz A (o, false) i) k).1.getD to.toNat 0)), true) := by rw [Sch.rowc_succ, hto]; unfold Sch.stepc; rw [if_neg h66]; refine if_pos ?_; simpa [Sch.wr] using hc_t91
              refine W.region ?_; refine W.q (Ev.move (.t rfl)) rfl ?_; refine W.q (Ev.move (.t rfl)) rfl ?_; refine W.q (Ev.move (.t rfl)) rfl ?_; refine W.q (Ev.ata 0 (.t rfl) rfl (.t rfl) Tryz.underlying22 ty3 (fun hg => by rw [hol]; omega)) rfl ?_; refine W.sta 0 i 0 (e := AV.int ((Sch.rowc sz i row (Sch.rndc sz A (o, false) i) k).1.getD i 0)) (e' := AV.int (Sch.wr (sz.getD k 0 + (Sch.rowc sz i row (Sch.rndc sz A (o, false) i) k).1.getD to.toNat 0))) (.t rfl) (.t rfl) rfl hgi (by omega) ty3 rfl rfl rfl rfl rfl rfl rfl ?_; refine W.q (Ev.assign .k) rfl ?_; refine W.nil ?_; refine W.blk_normal ?_; refine W.then ?_; refine W.region ?_
              (refine W.q (Ev.add (.t rfl) .k (fun _ => by omega)) rfl ?_)
              refine W.q (Ev.move (.t rfl)) rfl ?_; refine W.nil ?_; refine W.then ?_; refine W.is (t := 8) (g := true) (av' := .bool (Sch.rowc sz i row (Sch.rndc sz A (o, false) i) (k + 1)).2) rfl (congrArg AV.bool (by rw [hst2])) ?_
              rw [← List.map_set, show (Sch.rowc sz i row (Sch.rndc sz A (o, false) i) k).1.set i (Sch.wr (sz.getD k 0 + (Sch.rowc sz i row (Sch.rndc sz A (o, false) i) k).1.getD to.toNat 0)) = (Sch.rowc sz i row (Sch.rndc sz A (o, false) i) (k + 1)).1 from by rw [hst2]]
              refine W.reach (D := []) (k + 1) ⟨rfl, rfl, rfl, rfl, rfl, rfl, rfl, rfl, rfl, rfl, rfl, rfl, trivial⟩ (.refl _) ⟨hlt, by show 8 - (k + 1) < 8 - k; omega⟩
            · have hst2 : Sch.rowc sz i row (Sch.rndc sz A (o, false) i) (k + 1) = Sch.rowc sz i row (Sch.rndc sz A (o, false) i) k := by rw [Sch.rowc_succ, hto]; unfold Sch.stepc; rw [if_neg h66]; refine if_neg ?_; simpa [Sch.wr] using hc_t91
              refine W.skip ?_; refine W.blk_normal ?_; refine W.then ?_; refine W.region ?_
              (refine W.q (Ev.add (.t rfl) .k (fun _ => by omega)) rfl ?_)
              refine W.q (Ev.move (.t rfl)) rfl ?_; refine W.nil ?_; refine W.then ?_; refine W.is (t := 8) (g := true) (av' := .bool (Sch.rowc sz i row (Sch.rndc sz A (o, false) i) (k + 1)).2) rfl (congrArg AV.bool (by rw [hst2])) ?_
              rw [← hst2]
              refine W.reach (D := []) (k + 1) ⟨rfl, rfl, rfl, rfl, rfl, rfl, rfl, rfl, rfl, rfl, rfl, rfl, trivial⟩ (.refl _) ⟨hlt, by show 8 - (k + 1) < 8 - k; omega⟩
        · subst hend
          refine W.seq ?_; refine W.region ?_; refine W.q (Ev.lti (.t rfl) (.t rfl)) rfl ?_; refine W.nil ?_; refine W.then ?_; refine W.seq ?_; refine W.is (t := 44) (g := true) (av' := .lit (.bool false)) rfl (congrArg (fun b => AV.lit (.bool b)) (by exact decide_eq_false (by omega))) ?_; refine W.condF (.t rfl) ?_; refine W.exit ?_; refine W.then_exit ?_; refine W.then_exit ?_; refine W.blk_hit ?_; refine W.blk_normal ?_; refine W.then ?_; refine W.region ?_
          (refine W.q (Ev.add (.t rfl) .k (fun _ => by omega)) rfl ?_)
          refine W.q (Ev.move (.t rfl)) rfl ?_; refine W.nil ?_; refine W.then ?_
          rw [← hsi]
          refine W.reach (D := []) (i + 1) ⟨rfl, rfl, rfl, rfl, rfl, rfl, rfl, trivial⟩ (.refl _) ⟨hlti, by show A.next.length - (i + 1) < A.next.length - i; omega⟩
      · rw [hend]
        have hrl2 := Sch.rndc_len sz A (o, false) A.next.length
        have hor2 : ((Sch.rndc sz A (o, false) A.next.length).2 = true ∧ Sch.tgo sz A m (Sch.rndc sz A (o, false) A.next.length).1 = some out) ∨ ((Sch.rndc sz A (o, false) A.next.length).2 = false ∧ (Sch.rndc sz A (o, false) A.next.length).1 = out) := by
          split at hrun
          · rename_i h; exact .inl ⟨h, hrun⟩
          · rename_i h; exact .inr ⟨Bool.eq_false_iff.2 h, Option.some.inj hrun⟩
        refine W.seq ?_; refine W.region ?_; refine W.q (Ev.lti (.t rfl) (.t rfl)) rfl ?_; refine W.nil ?_; refine W.then ?_; refine W.seq ?_; refine W.is (t := 37) (g := true) (av' := .lit (.bool false)) rfl (congrArg (fun b => AV.lit (.bool b)) (by exact decide_eq_false (by omega))) ?_; refine W.condF (.t rfl) ?_; refine W.exit ?_; refine W.then_exit ?_; refine W.then_exit ?_; refine W.blk_hit ?_; refine W.blk_normal ?_; refine W.then ?_; refine W.reach (D := []) (m, (Sch.rndc sz A (o, false) A.next.length).1, (Sch.rndc sz A (o, false) A.next.length).2) ⟨rfl, rfl, rfl, rfl, trivial⟩ (.refl _) ⟨⟨by rw [hrl2]; exact hol0, hor2⟩, by have h1 : (if true = true then m + 1 + 1 else 0) = m + 2 := if_pos rfl; show (if (Sch.rndc sz A (o, false) A.next.length).2 = true then m + 1 else 0) < (if true = true then m + 1 + 1 else 0); rw [h1]; split <;> omega⟩
    · skip
      refine W.seq ?_; refine W.seq ?_; refine W.region ?_; refine W.q (Ev.move (.t rfl)) rfl ?_; refine W.nil ?_; refine W.then ?_; refine W.condF (.t rfl) ?_; refine W.exit ?_; refine W.then_exit ?_; refine W.then_exit ?_; refine W.blk_hit ?_; refine W.then ?_; refine W.seq ?_; refine W.region ?_; refine W.q (Ev.move (.t rfl)) rfl ?_; refine W.q (Ev.assign (.t rfl)) rfl ?_; refine W.nil ?_; refine W.then ?_; refine W.ret ?_; refine W.freeze (M1 := [.box b 76 [.sl 3 (ts.map tpv), .sl 2 (as_.map Au.avx), .sl 1 (sz.map AV.int)]]) (M2 := [.box b 76 [.sl 3 (ts.map tpv), .sl 2 (as_.map Au.avx), .sl 1 (sz.map AV.int)]]) (D := [_]) (v := v17) (L' := [(4, true, .sl 1 (o.map AV.int))]) (List.Perm.cons _ <| (List.perm_middle (l₁ := [_])).trans <| List.Perm.cons _ <| List.Perm.cons _ <| .refl _) ⟨⟨_, rfl, .one .hit⟩, trivial⟩ (FrzMs.refl _) ?_; refine W.retn (M' := [.box b 76 [.sl 3 (ts.map tpv), .sl 2 (as_.map Au.avx), .sl 1 (sz.map AV.int)]]) (D := []) (rs := [.tmp 4]) (avs := [_]) Tryz.results90 ⟨rfl, trivial⟩ rfl (.refl _) ?_
      exact ⟨rfl, rfl⟩

end WToGoF

end Go.Proofs.YtphlkdbglpcikaaGreatDoor
end

section
set_option linter.unusedVariables false
set_option linter.unusedSimpArgs false
set_option maxRecDepth 100000
namespace Go.Proofs.YtphlkdbglpcikaaGreatDoor
open Go.Vl

namespace WCheap
theorem ty3 : Ty Tryz.prog 3 1 8 (.int .i64 0) := Ty.of (by kernel_rfl)
theorem ty22 : Ty Tryz.prog 22 1 24 (.slice none 0 0) := Ty.of (by kernel_rfl)
theorem ty59 : Ty Tryz.prog 59 1 24 (.slice none 0 0) := Ty.of (by kernel_rfl)
theorem ty62 : Ty Tryz.prog 62 2 48 (.agg #[.slice none 0 0, .slice none 0 0]) := Ty.of (by kernel_rfl)
theorem ag3 : IsAgg Tryz.prog 3 false := ⟨_, Tryz.underlying3, rfl⟩
theorem ag22 : IsAgg Tryz.prog 22 false := ⟨_, Tryz.underlying22, rfl⟩
theorem ag59 : IsAgg Tryz.prog 59 false := ⟨_, Tryz.underlying59, rfl⟩
theorem ag62 : IsAgg Tryz.prog 62 true := ⟨_, Tryz.underlying62, rfl⟩
theorem fa62_0 : FieldAt Tryz.prog 62 0 0 1 false := ⟨_, _, Tryz.underlying62, rfl, rfl, ty59.size, ag59, by decide⟩
theorem fa76_2 : FieldAt Tryz.prog 76 2 2 1 false := ⟨_, _, Tryz.underlying76, rfl, rfl, ty22.size, ag22, by decide⟩
theorem ni22 : NotInt Tryz.prog 22 := .inl ⟨_, Tryz.underlying22⟩
theorem c_cheapest (b : Nat) (ts : List Tp) (as_ : List Au) (sz : List Int) (A : Au) (hsh : A.Shape) (hn : A.next.length ≤ 100) (hcol : ∀ r ∈ A.next, ∀ k, k < 8 → 0 ≤ r.getD k (-1) → k < sz.length) (w : List Int) (hw : Sch.cheap sz A = some w) : FnC Tryz.prog 92 [.lit (.pointer (some ⟨b, 0, none⟩)), .agg [.sl 1 (A.next.map pav), .sl 1 (A.final.map AV.bool)]] [.box b 76 [.sl 3 (ts.map tpv), .sl 2 (as_.map Au.avx), .sl 1 (sz.map AV.int)]] (fun r M => r = .sl 1 (w.map AV.int) ∧ M = [.box b 76 [.sl 3 (ts.map tpv), .sl 2 (as_.map Au.avx), .sl 1 (sz.map AV.int)]]) :=  by
  refine FnC.mk Tryz.func92 (by kernel_rfl) rfl Tryz.ntmps92 rfl (fun w0 F => ?_)
  have hnl : (A.next.map pav).length = A.next.length := List.length_map ..
  have hfn := hsh.fin
  have hpos := hsh.pos
  unfold Sch.cheap at hw
  obtain ⟨rest, hre⟩ : ∃ o, Sch.toGo sz A = some o := by
    cases h : Sch.toGo sz A with
    | none => rw [h] at hw; cases hw
    | some o => exact ⟨o, rfl⟩
  rw [hre] at hw
  dsimp only at hw
  have hrl := Sch.toGo_len hre
  have hrl2 : (rest.map AV.int).length = rest.length := List.length_map ..
  refine W.seq ?_; refine W.region ?_; refine W.box (.t rfl) rfl rfl ?_; intro b3; refine W.q (Ev.assign .k) rfl ?_; refine W.nil ?_; refine W.then ?_; refine W.seq ?_; refine W.region ?_; refine W.q (Ev.move (.t rfl)) rfl ?_
  (refine W.q (Ev.ldbn 0 (.t rfl) rfl ag62 ty62 rfl) rfl ?_)
  refine W.call (WToGoF.c_ToGoF b ts as_ sz A hsh hn hcol rest hre) ⟨(.t rfl), (.t rfl), trivial⟩ (List.Perm.swap _ _ []) rfl ?_
  rintro _ _ ⟨rfl, rfl⟩
  refine W.perm (List.Perm.swap _ _ []) ?_; refine W.q (Ev.assign (.t rfl)) rfl ?_; refine W.nil ?_; refine W.then ?_; refine W.seq ?_; refine W.region ?_; refine W.q (Ev.assign .k) rfl ?_; refine W.nil ?_; refine W.then ?_; refine W.seq ?_; refine W.seq ?_; refine W.region ?_; refine W.q (Ev.assign .k) rfl ?_; refine W.nil ?_; refine W.then ?_; refine W.block ?_; refine W.own_nil 3 1 ?_; refine W.loop (D := []) (ι := Nat × Nat × List Int × Value) (fun z => [(7, true, .int ((z.2.1 : Nat) : Int)), (5, true, .sl 1 (rest.map AV.int)), (6, true, .lit z.2.2.2), (3, true, .lit (.pointer (some ⟨b3, 0, none⟩))), (0, true, .lit (.pointer (some ⟨b, 0, none⟩)))]) (fun z => [.arr z.2.2.2 3 1 (z.2.2.1.map AV.int), .box b3 62 [.sl 1 (A.next.map pav), .sl 1 (A.final.map AV.bool)], .box b 76 [.sl 3 (ts.map tpv), .sl 2 (as_.map Au.avx), .sl 1 (sz.map AV.int)]]) (fun z => Sch.cho sz A rest z.1 z.2.1 z.2.2.1 = some w ∧ z.2.1 < A.next.length ∧ z.2.2.1.length ≤ 12 - z.1 ∧ z.1 ≤ 12) (fun z => z.1) (12, 0, [], .slice none 0 0) ⟨rfl, rfl, rfl, rfl, rfl, trivial⟩ (.refl _) ⟨hw, hpos, Nat.le_refl _, Nat.le_refl _⟩ ?_
  rintro ⟨f0, a, wd, vw⟩ ⟨hrun, ha, hwl, hf12⟩
  dsimp only at hrun ha hwl hf12 ⊢
  obtain ⟨f, rfl⟩ : ∃ f, f0 = f + 1 := by cases f0; (cases hrun); exact ⟨_, rfl⟩
  simp only [Sch.cho] at hrun
  have hga := getD_map rest a (by omega)
  · skip
    refine W.seq ?_; refine W.seq ?_; refine W.region ?_; refine W.q (Ev.move (.t rfl)) rfl ?_; refine W.q (Ev.move (.t rfl)) rfl ?_; refine W.q (Ev.at (E := 3) (.t rfl) (.t rfl) Tryz.underlying22 ty3 (fun hg => ⟨by omega, hga⟩) rfl rfl) rfl ?_
    (refine W.q (Ev.lde1 (.t rfl) ag3) rfl ?_)
    refine W.q (Ev.gti (.t rfl) .k) rfl ?_; refine W.nil ?_; refine W.then ?_; refine W.cond (.t rfl) (fun hc_t17 => ?_) (fun hc_t17 => ?_)
    · have h17 := of_decide_eq_true hc_t17
      rw [if_pos h17] at hrun
      obtain ⟨mm, hmm⟩ : ∃ m, Sch.firstN (Sch.pick1 sz rest a (A.next.getD a [])) 8 0 = some m := by
        cases h : Sch.firstN (Sch.pick1 sz rest a (A.next.getD a [])) 8 0 with
        | none => rw [h] at hrun; cases hrun
        | some m => exact ⟨m, rfl⟩
      rw [hmm] at hrun
      dsimp only at hrun
      have hgr := getD_mapG pav [] A.next a ha
      have hrm := getD_memG [] A.next a ha
      have hr8 := hsh.mem_row _ hrm
      have hent := hsh.mem_ent _ hrm
      have hcl := hcol _ hrm
      generalize A.next.getD a [] = row at hgr hrm hr8 hent hcl hmm hrun
      have hrl8 : (row.map AV.int).length = 8 := by rw [List.length_map]; exact hr8
      refine W.skip ?_; refine W.then ?_; refine W.block ?_; refine W.seq ?_; refine W.region ?_
      (refine W.q (Ev.fab (.t rfl) fa62_0) rfl ?_)
      (refine W.q (Ev.ldb1 1 (.t rfl) rfl ag59 rfl) rfl ?_)
      refine W.q (Ev.move (.t rfl)) rfl ?_; refine W.q (Ev.at (E := 22) (.t rfl) (.t rfl) Tryz.underlying59 ty22 (fun hg => ⟨by omega, hgr⟩) rfl rfl) rfl ?_
      (refine W.q (Ev.lde1 (.t rfl) ag22) rfl ?_)
      (refine W.q (Ev.lensl (.t rfl) Tryz.underlying22) rfl ?_)
      refine W.q (Ev.move .k) rfl ?_; refine W.nil ?_; refine W.then ?_; refine W.block ?_; refine W.loop (D := []) (ι := Nat) (fun n => [(24, true, .int ((n : Nat) : Int)), (23, true, .int ((row.map AV.int).length : Int)), (22, true, .sl 1 (row.map AV.int)), (7, true, .int ((a : Nat) : Int)), (5, true, .sl 1 (rest.map AV.int)), (6, true, .lit vw), (3, true, .lit (.pointer (some ⟨b3, 0, none⟩))), (0, true, .lit (.pointer (some ⟨b, 0, none⟩)))]) (fun n => [.arr vw 3 1 (wd.map AV.int), .box b3 62 [.sl 1 (A.next.map pav), .sl 1 (A.final.map AV.bool)], .box b 76 [.sl 3 (ts.map tpv), .sl 2 (as_.map Au.avx), .sl 1 (sz.map AV.int)]]) (fun n => n ≤ 8 ∧ Sch.firstN (Sch.pick1 sz rest a row) (8 - n) n = some mm) (fun n => 8 - n) 0 ⟨rfl, rfl, rfl, rfl, rfl, rfl, rfl, rfl, trivial⟩ (.refl _) ⟨Nat.zero_le _, hmm⟩ ?_
      rintro n ⟨hn8, hfs⟩
      dsimp only at hn8 hfs ⊢
      obtain ⟨q, hq⟩ : ∃ q, 8 - n = q + 1 := by cases h : 8 - n; (rw [h] at hfs; cases hfs); exact ⟨_, rfl⟩
      rw [hq] at hfs
      simp only [Sch.firstN] at hfs
      obtain ⟨to, hto⟩ : ∃ z, row.getD n (-1) = z := ⟨_, rfl⟩
      have hgt : (row.map AV.int)[n]? = some (AV.int to) := by rw [List.getElem?_map, ← hto, List.getD_eq_getElem?_getD, List.getElem?_eq_getElem (show n < row.length by omega)]; rfl
      have htn := hent to (by rw [← hto]; exact getD_memG (-1) row n (by omega))
      have hks : 0 ≤ to → n < sz.length := fun h => hcl n (by omega) (by omega)
      have hgs : 0 ≤ to → (sz.map AV.int)[n]? = some (AV.int (sz.getD n 0)) := fun h => getD_map sz n (hks h)
      have hszl : (sz.map AV.int).length = sz.length := List.length_map ..
      have hgo := getD_map rest to.toNat (by omega)
      · skip
        refine W.seq ?_; refine W.region ?_; refine W.q (Ev.lti (.t rfl) (.t rfl)) rfl ?_; refine W.nil ?_; refine W.then ?_; refine W.seq ?_; refine W.is (t := 25) (g := true) (av' := .lit (.bool true)) rfl (congrArg (fun b => AV.lit (.bool b)) (by exact decide_eq_true (by omega))) ?_; refine W.condT (.t rfl) ?_; refine W.skip ?_; refine W.then ?_; refine W.seq ?_; refine W.block ?_; refine W.seq ?_; refine W.region ?_; refine W.q (Ev.move (.t rfl)) rfl ?_; refine W.q (Ev.at (E := 3) (.t rfl) (.t rfl) Tryz.underlying22 ty3 (fun hg => ⟨by omega, hgt⟩) rfl rfl) rfl ?_
        (refine W.q (Ev.lde1 (.t rfl) ag3) rfl ?_)
        refine W.q (Ev.assign (.t rfl)) rfl ?_; refine W.q (Ev.assign (.t rfl)) rfl ?_; refine W.nil ?_; refine W.then ?_; refine W.seq ?_; refine W.drawn (by kernel_rfl) (by kernel_rfl) ?_; refine DP.q (Ev.move (.t rfl)) rfl ?_; refine DP.q (Ev.gei (.t rfl) .k) rfl ?_; refine DP.q (Ev.move (.t rfl)) rfl ?_; refine DP.qgT rfl rfl (Ev.move (.t rfl)) rfl ?_; refine DP.qgT rfl rfl (Ev.move (.t rfl)) rfl ?_; refine DP.qgT rfl rfl (Ev.at (E := 3) (.c rfl) (.c rfl) Tryz.underlying22 ty3 (fun hg => ⟨by simp at hg; omega, hgo⟩) rfl rfl) rfl ?_
        (refine DP.qgT rfl rfl (Ev.lde1 (.c rfl) ag3) rfl ?_)
        refine DP.qgT rfl rfl (Ev.gei (.c rfl) .k) rfl ?_; refine DP.q (Ev.and (.t rfl) ⟨_, _, rfl, rfl, by ((simp; done))⟩) rfl ?_; refine DP.q (Ev.move (.t rfl)) rfl ?_; refine DP.qgT rfl rfl (Ev.move (.t rfl)) rfl ?_; refine DP.qgT rfl rfl (Ev.nilc (.c rfl)) rfl ?_
        (refine DP.qgT rfl rfl (Ev.fab (.c rfl) fa76_2) rfl ?_)
        (refine DP.qgT rfl rfl (Ev.ldb1 2 (.c rfl) rfl ag22 rfl) rfl ?_)
        refine DP.qgT rfl rfl (Ev.move (.t rfl)) rfl ?_; refine DP.qgT rfl rfl (Ev.at (E := 3) (.c rfl) (.c rfl) Tryz.underlying22 ty3 (fun hg => ⟨by have := hks (by simp at hg; omega); omega, hgs (by simp at hg; omega)⟩) rfl rfl) rfl ?_
        (refine DP.qgT rfl rfl (Ev.lde1 (.c rfl) ag3) rfl ?_)
        refine DP.qgT rfl rfl (Ev.move (.t rfl)) rfl ?_; refine DP.qgT rfl rfl (Ev.move (.t rfl)) rfl ?_; refine DP.qgT rfl rfl (Ev.at (E := 3) (.c rfl) (.c rfl) Tryz.underlying22 ty3 (fun hg => ⟨by simp at hg; omega, hgo⟩) rfl rfl) rfl ?_
        (refine DP.qgT rfl rfl (Ev.lde1 (.c rfl) ag3) rfl ?_)
        (refine DP.qgT rfl rfl (Ev.addw (.c rfl) (.c rfl)) rfl ?_)
        refine DP.qgT rfl rfl (Ev.move (.t rfl)) rfl ?_; refine DP.qgT rfl rfl (Ev.move (.t rfl)) rfl ?_; refine DP.qgT rfl rfl (Ev.at (E := 3) (.c rfl) (.c rfl) Tryz.underlying22 ty3 (fun hg => ⟨by omega, hga⟩) rfl rfl) rfl ?_
        (refine DP.qgT rfl rfl (Ev.lde1 (.c rfl) ag3) rfl ?_)
        refine DP.qgT rfl rfl (Ev.eqi (.c rfl) (.c rfl)) rfl ?_; refine DP.q (Ev.and (.t rfl) ⟨_, _, rfl, rfl, by ((simp; done))⟩) rfl ?_; refine DP.nil ?_; refine W.then ?_; refine W.cond (.t rfl) (fun hc_t56 => ?_) (fun hc_t56 => ?_)
        · have hp1 : Sch.pick1 sz rest a row n = true := by unfold Sch.pick1; rw [hto]; exact hc_t56
          rw [if_pos hp1] at hfs
          obtain rfl := Option.some.inj hfs
          have hto0 : 0 ≤ to := by simp only [Bool.and_eq_true, decide_eq_true_eq] at hc_t56; exact hc_t56.1.1
          rw [hto] at hrun
          refine W.seq ?_; refine W.region ?_; refine W.q (Ev.move (.t rfl)) rfl ?_; refine W.q (Ev.move (.t rfl)) rfl ?_; refine W.bs (es := [_]) Tryz.underlying22 ty3 ⟨rfl, (.t rfl), rfl, rfl, trivial⟩ rfl (by decide) rfl rfl ?_
          (refine W.app 0 (.t rfl) rfl (.sl (.t rfl) (by ((simp [AV.okc, shV]; done)))) Tryz.underlying22 ni22 ty3 rfl rfl (by rw [List.length_map]; simp only [List.length_cons, List.length_nil]; omega) rfl ?_)
          intro v60; refine W.q (Ev.assign (.t rfl)) rfl ?_; refine W.nil ?_; refine W.then ?_; refine W.seq ?_; refine W.region ?_; refine W.q (Ev.move (.t rfl)) rfl ?_; refine W.q (Ev.assign (.t rfl)) rfl ?_; refine W.nil ?_; refine W.then ?_; refine W.exit ?_; refine W.blk_miss rfl ?_; refine W.then_exit ?_; refine W.then_exit ?_; refine W.blk_hit ?_; refine W.blk_normal ?_; refine W.then ?_; refine W.is (t := 7) (g := true) (av' := .int ((to.toNat : Nat) : Int)) rfl (congrArg AV.int (by omega)) ?_; refine W.reach (D := []) (f, to.toNat, wd ++ [(n : Int)], v60) ⟨rfl, rfl, rfl, rfl, rfl, trivial⟩ (by rw [List.append_nil]; (try dsimp only); rw [List.map_append]; exact .refl _) ⟨⟨hrun, by show to.toNat < A.next.length; omega, by show (wd ++ [(n : Int)]).length ≤ _; simp only [List.length_append, List.length_cons, List.length_nil]; omega, by show f ≤ 12; omega⟩, by show f < f + 1; omega⟩
        · have hp1 : ¬ Sch.pick1 sz rest a row n = true := by unfold Sch.pick1; rw [hto]; exact Bool.eq_false_iff.1 hc_t56
          rw [if_neg hp1] at hfs
          refine W.skip ?_; refine W.blk_normal ?_; refine W.then ?_; refine W.region ?_
          (refine W.q (Ev.add (.t rfl) .k (fun _ => by omega)) rfl ?_)
          refine W.q (Ev.move (.t rfl)) rfl ?_; refine W.nil ?_; refine W.then ?_; refine W.reach (D := []) (n + 1) ⟨rfl, rfl, rfl, rfl, rfl, rfl, rfl, rfl, trivial⟩ (.refl _) ⟨⟨by omega, by rw [show 8 - (n + 1) = q from by omega]; exact hfs⟩, by show 8 - (n + 1) < 8 - n; omega⟩
    · have h17 := of_decide_eq_false hc_t17
      rw [if_neg h17] at hrun
      obtain rfl := Option.some.inj hrun
      refine W.exit ?_; refine W.then_exit ?_; refine W.then_exit ?_; refine W.blk_hit ?_; refine W.then ?_; refine W.seq ?_; refine W.region ?_; refine W.q (Ev.move (.t rfl)) rfl ?_; refine W.q (Ev.assign (.t rfl)) rfl ?_; refine W.nil ?_; refine W.then ?_; refine W.ret ?_; refine W.freeze (M1 := [.box b 76 [.sl 3 (ts.map tpv), .sl 2 (as_.map Au.avx), .sl 1 (sz.map AV.int)]]) (M2 := [.box b 76 [.sl 3 (ts.map tpv), .sl 2 (as_.map Au.avx), .sl 1 (sz.map AV.int)]]) (D := [_]) (v := vw) (L' := [(4, true, .sl 1 (wd.map AV.int))]) (List.Perm.cons _ <| (List.perm_middle (l₁ := [_])).trans <| List.Perm.cons _ <| List.Perm.cons _ <| .refl _) ⟨⟨_, rfl, .one .hit⟩, trivial⟩ (FrzMs.refl _) ?_; refine W.retn (M' := [.box b 76 [.sl 3 (ts.map tpv), .sl 2 (as_.map Au.avx), .sl 1 (sz.map AV.int)]]) (D := []) (rs := [.tmp 4]) (avs := [_]) Tryz.results92 ⟨rfl, trivial⟩ rfl (.refl _) ?_
      exact ⟨rfl, rfl⟩

end WCheap

end Go.Proofs.YtphlkdbglpcikaaGreatDoor
end
