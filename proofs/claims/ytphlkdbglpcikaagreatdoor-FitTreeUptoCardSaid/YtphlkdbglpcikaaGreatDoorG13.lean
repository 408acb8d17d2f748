/-
  Merged: WFPlan WFBest WFit.
-/
import Derived.Test.YtphlkdbglpcikaaGreatDoorG12
set_option linter.unusedVariables false
set_option linter.unusedSimpArgs false
set_option maxRecDepth 100000

section
namespace Go.Proofs.YtphlkdbglpcikaaGreatDoor
open Go.Vl
open Y
namespace WFPlan
set_option maxHeartbeats 8000000 in
theorem c_plan (b : Nat) (ts : List Tp) (as_ : List Au) (sz : List Int) (A : Au) (hsh : A.Shape) (hn : A.next.length ≤ 32) (hz : Fit.Sz A sz) (hcol : ∀ i m, 0 ≤ Fit.tr A i m → m < sz.length) (t : Nat) (hA : (as_.map Au.avx)[t]? = some (Au.avx A)) (ks : List Nat) (hks : ks.length ≤ 64) (hk8 : ∀ k ∈ ks, k < 8) : FnC Tryz.prog 33 [.lit (.pointer (some ⟨b, 0, none⟩)), .int (t : Int), .sl 1 (ks.map fun k : Nat => AV.int (k : Int))] [.box b 76 [.sl 3 (ts.map tpv), .sl 2 (as_.map Au.avx), .sl 1 (sz.map AV.int)]] (fun r M => ∃ p rows, Fit.Opt A sz ks rows ∧ r = .lit (.pointer (some ⟨p, 0, none⟩)) ∧ M = [.box p 86 [.lit (.pointer (some ⟨b, 0, none⟩)), .sl 1 (A.next.map pav), .sl 1 (A.final.map AV.bool), .sl 1 (ks.map fun k : Nat => AV.int (k : Int)), .sl 1 (rows.map Fit.rowv)], .box b 76 [.sl 3 (ts.map tpv), .sl 2 (as_.map Au.avx), .sl 1 (sz.map AV.int)]]) :=  by
 refine FnC.mk Tryz.func33 (by kernel_rfl) rfl Tryz.ntmps33 rfl (fun w0 F => ?_)
 have hzr : Fit.zrow (A.next.map pav).length = (List.replicate A.next.length Fit.cz).map Fit.ctv := by rw [List.length_map]; exact Fit.zrow_eq _
 have hnl : (A.next.map pav).length = A.next.length := List.length_map ..
 have hfl : (A.final.map AV.bool).length = A.final.length := List.length_map ..
 have hfn := hsh.fin
 have hpos0 := hsh.pos
 have htl0 : t < (as_.map Au.avx).length := by
  rcases Nat.lt_or_ge t (as_.map Au.avx).length with h | h
  ·exact h
  ·rw [List.getElem?_eq_none h] at hA; cases hA
 have hlen7 : (ks.map fun k : Nat => AV.int (k : Int)).length = ks.length := List.length_map ..
 refine W.s (.r (.q (.assign .k) rfl (.n (.h (.s (.r (.mv rfl rfl (.mv rfl rfl (.q (.nilc (.t rfl)) rfl (.q (.fab (.t rfl) fa76_1) rfl (.q (.ldb1 0 (.t rfl) rfl ag74 rfl) rfl (.mv rfl rfl ?_)))))))))))); refine W.q (.at (E := 62) (.t rfl) (.t rfl) Tryz.underlying74 ty62 (fun hg => ⟨by omega, hA⟩) rfl rfl) rfl ?_; refine W.q (.lden (.t rfl) ag62 ty62 rfl rfl) rfl ?_
 refine W.q (.move (.t rfl)) rfl ?_; refine W.q (.build ty86 st86 rfl (fun hg => ⟨_, _, _, rfl, (.t rfl), rfl, rfl, rfl, _, _, _, rfl, (.t rfl), rfl, rfl, rfl, _, _, _, rfl, (.t rfl), rfl, rfl, rfl, rfl⟩)) rfl ?_; refine W.box (.t rfl) rfl rfl ?_; intro b25; refine W.perm (M' := [.box b25 86 [.lit (.pointer (some ⟨b, 0, none⟩)), .sl 1 (A.next.map pav), .sl 1 (A.final.map AV.bool), .sl 1 (ks.map fun k : Nat => AV.int (k : Int)), .lit (Fit.slv (none, 0, 0))], .box b 76 [.sl 3 (ts.map tpv), .sl 2 (as_.map Au.avx), .sl 1 (sz.map AV.int)]]) (List.Perm.of_eq rfl) ?_; refine W.q (.assign (.t rfl)) rfl ?_; refine W.n ?_; refine W.h ?_; refine W.s ?_; refine W.s ?_; refine W.r ?_; refine W.q (.move (.t rfl)) rfl ?_
 refine W.q (.lensl (.t rfl) Tryz.underlying22) rfl (.q (.add (.t rfl) .k (fun _ => by omega)) rfl ?_); refine W.is (t := 28) (av' := .int ((ks.length : Int) + 1)) rfl (congrArg AV.int (by rw [hlen7])) ?_; refine W.q (.move .k) rfl (.n (.h (.b ?_))); refine W.own_nil 83 1 ?_; refine W.loop (D := []) (ι := List Fit.Sv3 × Fit.Sv3) (fun z => [(29, true, .int (z.1.length : Int)), (28, true, .int ((ks.length : Int) + 1)), (7, true, .lit (.pointer (some ⟨b25, 0, none⟩))), (2, true, .sl 1 (ks.map fun k : Nat => AV.int (k : Int)))]) (fun z => .arr (Fit.slv z.2) 83 1 (z.1.map fun u : Fit.Sv3 => AV.lit (Fit.slv u)) :: .box b25 86 [.lit (.pointer (some ⟨b, 0, none⟩)), .sl 1 (A.next.map pav), .sl 1 (A.final.map AV.bool), .sl 1 (ks.map fun k : Nat => AV.int (k : Int)), .lit (Fit.slv z.2)] :: .box b 76 [.sl 3 (ts.map tpv), .sl 2 (as_.map Au.avx), .sl 1 (sz.map AV.int)] :: (z.1.map fun u : Fit.Sv3 => ME.arr (Fit.slv u) 82 3 (Fit.zrow (A.next.map pav).length))) (fun z => z.1.length ≤ ks.length + 1) (fun z => ks.length + 1 - z.1.length) ([], (none, 0, 0)) ⟨rfl, rfl, rfl, rfl, trivial⟩ (.refl _) (Nat.zero_le _) ?_
 rintro ⟨us, vr⟩ hus
 dsimp only at hus ⊢
 rcases (show us.length < ks.length + 1 ∨ us.length = ks.length + 1 from by omega) with hlt | hend
 ·have hnn : ((A.next.map pav).length : Int) = (A.next.length : Int) := by rw [hnl]
  refine W.s (.r (.q (.lti (.t rfl) (.t rfl)) rfl (.n (.h (.s ?_))))); refine W.isb 30 true rfl (by exact decide_eq_true (by omega)) ?_; refine W.condT (.t rfl) (.k (.h (.s (.b ?_)))); refine W.drawnM (fun ee c => (bif ee 13 then ME.arr (Fit.asSl (c 13).2) 83 1 ((us.map fun u : Fit.Sv3 => AV.lit (Fit.slv u)) ++ [.lit (Fit.asSl (c 11).2)]) else ME.arr (Fit.slv vr) 83 1 (us.map fun u : Fit.Sv3 => AV.lit (Fit.slv u))) :: ME.box b25 86 [.lit (.pointer (some ⟨b, 0, none⟩)), .sl 1 (A.next.map pav), .sl 1 (A.final.map AV.bool), .sl 1 (ks.map fun k : Nat => AV.int (k : Int)), (bif ee 16 then .lit (Fit.asSl (c 13).2) else .lit (Fit.slv vr))] :: ME.box b 76 [.sl 3 (ts.map tpv), .sl 2 (as_.map Au.avx), .sl 1 (sz.map AV.int)] :: ((bif ee 11 then [ME.arr (Fit.asSl (c 11).2) 82 3 (Fit.zrow (A.next.map pav).length)] else []) ++ (us.map fun u : Fit.Sv3 => ME.arr (Fit.slv u) 82 3 (Fit.zrow (A.next.map pav).length)))) (c0 := ks0) (by kernel_rfl) (by kernel_rfl) rfl ?_; refine DM.q (fun e c hk => (.move (.t rfl))) rfl (fun _ _ => rfl) (fun _ _ _ => rfl) (.q (fun e c hk => (.move (.t rfl))) rfl (fun _ _ => rfl) (fun _ _ _ => rfl) (.q (fun e c hk => (.nilc (.t rfl))) rfl (fun _ _ => rfl) (fun _ _ _ => rfl) (.q (fun e c hk => (.fab (.t rfl) fa86_3)) rfl (fun _ _ => rfl) (fun _ _ _ => rfl) ?_))); refine DM.q (av := fun _ => .lit (Fit.slv vr)) (fun e c hk => by have h := hk.down 16 (by kernel_rfl); simp only [h, cond_false]; exact Ev.ldb1 1 (.t rfl) rfl ag84 rfl) rfl (fun _ _ => rfl) (fun _ _ _ => rfl) ?_; refine DM.q (fun e c hk => (.move (.t rfl))) rfl (fun _ _ => rfl) (fun _ _ _ => rfl) (.q (fun e c hk => (.nilc (.t rfl))) rfl (fun _ _ => rfl) (fun _ _ _ => rfl) (.q (fun e c hk => (.fab (.t rfl) fa86_1)) rfl (fun _ _ => rfl) (fun _ _ _ => rfl) (.q (fun e c hk => (.fab (.t rfl) fa62_0)) rfl (fun _ _ => rfl) (fun _ _ _ => rfl) (.q (fun e c hk => (.ldb1 1 (.t rfl) rfl ag59 rfl)) rfl (fun _ _ => rfl) (fun _ _ _ => rfl) (.q (fun e c hk => (.lensl (.t rfl) Tryz.underlying59)) rfl (fun _ _ => rfl) (fun _ _ _ => rfl) ?_)))))
  refine DM.eff1 (av := fun c => .lit (Fit.asSl (c 11).2)) rfl (fun c c_ h => by (simp only [h 11 (by (exact .inl rfl))])) (fun e c hk L_ hs Q h => ?_) ?_
  ·have hk_11 := hk.not
   have hk_13 := hk.down 13 (by kernel_rfl)
   have hk_16 := hk.down 16 (by kernel_rfl)
   simp only [addE, upd, eq_self, List.nil_append, List.cons_append, List.append_nil, hk_11, hk_13, hk_16, Nat.reduceAdd, Nat.reduceEqDiff, ↓reduceIte, cond_true, cond_false] at h ⊢
   refine W.mk (n := (A.next.map pav).length) (.t (hs _ _ rfl)) (.t (hs _ _ rfl)) Tryz.underlying83 ty82 rfl rfl rfl rfl rfl (by omega) rfl (fun v => ?_); refine W.arr_inv 0 rfl (fun a n c2 hv => ?_)
   subst hv
   exact h (0, .slice a n c2) _ (List.perm_middle (l₁ := [_, _, _])).symm
  refine DM.bs (es := fun c => [.lit (Fit.asSl (c 11).2)]) Tryz.underlying84 ty83 (fun c => ⟨rfl, (.t rfl), Fit.okSl _, Fit.clSl _, trivial⟩) (fun _ => rfl) (by decide) rfl rfl (fun _ _ => rfl) (fun c c_ h => by (simp only [h 11 (by (exact .inr (by kernel_rfl)))])) ?_; refine DM.eff1 (av := fun c => .lit (Fit.asSl (c 13).2)) rfl (fun c c_ h => by (simp only [h 13 (by (exact .inl rfl))])) (fun e c hk L_ hs Q h => ?_) ?_
  ·have hk_11 := hk.up 11 (by kernel_rfl)
   have hk_13 := hk.not
   have hk_16 := hk.down 16 (by kernel_rfl)
   simp only [addE, upd, eq_self, List.nil_append, List.cons_append, List.append_nil, hk_11, hk_13, hk_16, Nat.reduceAdd, Nat.reduceEqDiff, ↓reduceIte, cond_true, cond_false] at h ⊢
   refine W.app 0 (.t (hs _ _ rfl)) rfl (.sl (.t (hs _ _ rfl)) (by intro e he; rw [List.mem_singleton.1 he]; exact Fit.okSl _)) Tryz.underlying84 ni84 ty83 rfl rfl (by rw [List.length_map]; simp only [List.length_cons, List.length_nil]; omega) rfl (fun v => ?_); refine W.arr_inv 0 rfl (fun a n c2 hv => ?_)
   subst hv
   exact h (0, .slice a n c2) _ (.refl _)
  refine DM.q (fun e c hk => (.nilc (.t rfl))) rfl (fun _ _ => rfl) (fun _ _ _ => rfl) (.q (fun e c hk => (.fab (.t rfl) fa86_3)) rfl (fun _ _ => rfl) (fun _ _ _ => rfl) ?_)
  refine DM.eff0 (fun e c hk L_ hs Q h => ?_) ?_
  ·have hk_11 := hk.up 11 (by kernel_rfl)
   have hk_13 := hk.up 13 (by kernel_rfl)
   have hk_16 := hk.not
   simp only [addE, upd, eq_self, List.nil_append, List.cons_append, List.append_nil, hk_11, hk_13, hk_16, Nat.reduceAdd, Nat.reduceEqDiff, ↓reduceIte, cond_true, cond_false] at h ⊢
   obtain ⟨q, hq⟩ := Fit.asSl_ex (c 13).2
   rw [hq] at h ⊢
   refine W.stb 1 (av := .lit (Fit.slv q)) (.t (hs _ _ rfl)) (by rw [← hq]; exact .t (hs _ _ rfl)) rfl ty84 rfl rfl rfl ?_
   exact h
  refine DM.nil (fun cc e_ he_ => ?_)
  simp only [he_ 11 (by decide), he_ 13 (by decide), he_ 16 (by decide), cond_true, cond_false]
  obtain ⟨u, hu⟩ := Fit.asSl_ex (cc 11).2
  obtain ⟨vr2, hvr2⟩ := Fit.asSl_ex (cc 13).2
  rw [hu, hvr2]
  refine W.bn (.h (.r (.q (.add (.t rfl) .k (fun _ => by omega)) rfl ?_)))
  refine W.q (.move (.t rfl)) rfl ?_; refine W.n ?_; refine W.h ?_; refine W.is (t := 29) (av' := .int (((us ++ [u]).length : Nat) : Int)) rfl (congrArg AV.int (by rw [List.length_append, List.length_singleton]; omega)) ?_; refine W.reach (D := []) (us ++ [u], vr2) ⟨rfl, rfl, rfl, rfl, trivial⟩ (by dsimp only; rw [List.append_nil, List.map_append, List.map_append]; exact .cons _ (.cons _ (.cons _ List.perm_append_comm))) ⟨by rw [List.length_append, List.length_singleton]; omega, by show ks.length + 1 - (us ++ [u]).length < ks.length + 1 - us.length; rw [List.length_append, List.length_singleton]; omega⟩
 ·obtain ⟨us, u, rfl⟩ : ∃ a b, us = a ++ [b] := ⟨us.dropLast, us.getLast (by intro h; rw [h] at hend; simp at hend), (List.dropLast_concat_getLast _).symm⟩
  rw [List.length_append, List.length_singleton] at hend
  have hul : us.length = ks.length := by omega
  rw [List.map_append, List.map_append]
  refine W.perm (M' := .arr (Fit.slv u) 82 3 ((List.replicate A.next.length Fit.cz).map Fit.ctv) :: .arr (Fit.slv vr) 83 1 ((us.map fun u : Fit.Sv3 => AV.lit (Fit.slv u)) ++ [.lit (Fit.slv u)]) :: .box b25 86 [.lit (.pointer (some ⟨b, 0, none⟩)), .sl 1 (A.next.map pav), .sl 1 (A.final.map AV.bool), .sl 1 (ks.map fun k : Nat => AV.int (k : Int)), .lit (Fit.slv vr)] :: .box b 76 [.sl 3 (ts.map tpv), .sl 2 (as_.map Au.avx), .sl 1 (sz.map AV.int)] :: (us.map fun u : Fit.Sv3 => ME.arr (Fit.slv u) 82 3 (Fit.zrow (A.next.map pav).length))) (by rw [← hzr]; exact List.perm_append_comm (l₁ := .arr (Fit.slv vr) 83 1 ((us.map fun u : Fit.Sv3 => AV.lit (Fit.slv u)) ++ [.lit (Fit.slv u)]) :: .box b25 86 [.lit (.pointer (some ⟨b, 0, none⟩)), .sl 1 (A.next.map pav), .sl 1 (A.final.map AV.bool), .sl 1 (ks.map fun k : Nat => AV.int (k : Int)), .lit (Fit.slv vr)] :: .box b 76 [.sl 3 (ts.map tpv), .sl 2 (as_.map Au.avx), .sl 1 (sz.map AV.int)] :: (us.map fun u : Fit.Sv3 => ME.arr (Fit.slv u) 82 3 (Fit.zrow (A.next.map pav).length))) (l₂ := [.arr (Fit.slv u) 82 3 (Fit.zrow (A.next.map pav).length)])) ?_
  have hkE : ((us.map fun u : Fit.Sv3 => AV.lit (Fit.slv u)) ++ [.lit (Fit.slv u)])[(ks.map fun k : Nat => AV.int (k : Int)).length]? = some (.lit (Fit.slv u)) := by rw [hlen7, ← hul, List.getElem?_append_right (by rw [List.length_map]; omega), List.length_map, Nat.sub_self]; rfl
  refine W.s (.r (.q (.lti (.t rfl) (.t rfl)) rfl (.n (.h (.s ?_))))); refine W.isb 30 false rfl (by exact decide_eq_false (by rw [List.length_append, List.length_singleton]; omega)) ?_; refine W.condF (.t rfl) (.ex (.he (.he (.bh (.h (.s (.s (.r (.mv rfl rfl (.q (.nilc (.t rfl)) rfl (.q (.fab (.t rfl) fa86_1) rfl (.q (.fab (.t rfl) fa62_1) rfl (.q (.ldb1 2 (.t rfl) rfl ag60 rfl) rfl (.q (.lensl (.t rfl) Tryz.underlying60) rfl (.q (.move .k) rfl (.n (.h (.b ?_)))))))))))))))))); refine W.loop (D := []) (ι := Nat × List Fit.Ct) (fun z => [(54, true, .int (z.1 : Int)), (53, true, .int ((A.final.map AV.bool).length : Int)), (52, true, .sl 1 (A.final.map AV.bool)), (7, true, .lit (.pointer (some ⟨b25, 0, none⟩))), (2, true, .sl 1 (ks.map fun k : Nat => AV.int (k : Int)))]) (fun z => .arr (Fit.slv u) 82 3 (z.2.map Fit.ctv) :: .arr (Fit.slv vr) 83 1 ((us.map fun u : Fit.Sv3 => AV.lit (Fit.slv u)) ++ [.lit (Fit.slv u)]) :: .box b25 86 [.lit (.pointer (some ⟨b, 0, none⟩)), .sl 1 (A.next.map pav), .sl 1 (A.final.map AV.bool), .sl 1 (ks.map fun k : Nat => AV.int (k : Int)), .lit (Fit.slv vr)] :: .box b 76 [.sl 3 (ts.map tpv), .sl 2 (as_.map Au.avx), .sl 1 (sz.map AV.int)] :: (us.map fun u : Fit.Sv3 => ME.arr (Fit.slv u) 82 3 (Fit.zrow (A.next.map pav).length))) (fun z => z.1 ≤ A.final.length ∧ Fit.RI A sz [] 0 z.2 ∧ ∀ j, j < z.1 → A.final.getD j false = true → (z.2.getD j Fit.cz).Le 0 0) (fun z => A.final.length - z.1) (0, List.replicate A.next.length Fit.cz) ⟨rfl, rfl, rfl, rfl, rfl, trivial⟩ (by ((rw [List.append_nil]; done))) ⟨Nat.zero_le _, .init A sz [] 0, fun j h => by cases h⟩ ?_
  rintro ⟨i, r⟩ ⟨hi, hri, hba⟩
  dsimp only at hi hri hba ⊢
  have hrlen := hri.len
  rcases (show i < A.final.length ∨ i = A.final.length from by omega) with hlt | hend2
  ·have hgf := getD_mapG AV.bool false A.final i hlt
   have hlt2 : i < A.next.length := by omega
   refine W.s (.r (.q (.lti (.t rfl) (.t rfl)) rfl (.n (.h (.s ?_))))); refine W.isb 55 true rfl (by exact decide_eq_true (by omega)) ?_; refine W.condT (.t rfl) (.k (.h (.s (.b (.s (.r (.mv rfl rfl ?_))))))); refine W.q (.at (E := 4) (.t rfl) (.t rfl) Tryz.underlying60 ty4 (fun _ => ⟨by omega, hgf⟩) rfl rfl) rfl ?_; refine W.q (.lde1 (.t rfl) ag4) rfl ?_
   refine W.q (.assign (.t rfl)) rfl ?_; refine W.q (.assign (.t rfl)) rfl ?_; refine W.n ?_; refine W.h ?_; refine W.s ?_; refine W.r ?_; refine W.q (.move (.t rfl)) rfl ?_; refine W.n ?_; refine W.h ?_; refine W.cond (.t rfl) (fun hc_t59 => ?_) (fun hc_t59 => ?_)
   ·have hfi : A.final.getD i false = true := hc_t59
    have hal : Fit.Al A sz i [] 0 0 := .done hfi
    have hri3 := hri.betR hlt2 hal (Int.le_refl _)
    have hl0 : i < r.length := by rw [hri.len]; exact hlt2
    have hmo3 := Fit.betR_mono r i 0 0 hl0
    refine W.r (.mv rfl rfl (.mv rfl rfl (.mv rfl rfl (.q (.lensl (.t rfl) Tryz.underlying22) rfl (.q (.build ty81 st81 rfl (fun hg => rfl)) rfl ?_))))); refine W.call (WFSmall.c_better b25 (.lit (.pointer (some ⟨b, 0, none⟩))) (.sl 1 (A.next.map pav)) (.sl 1 (A.final.map AV.bool)) (.sl 1 (ks.map fun k : Nat => AV.int (k : Int))) u.1 u.2.1 u.2.2 (Fit.slv vr) ((us.map fun u : Fit.Sv3 => AV.lit (Fit.slv u)) ++ [.lit (Fit.slv u)]) r i (ks.map fun k : Nat => AV.int (k : Int)).length 0 0 (by omega) hkE) ⟨(.t rfl), (.t rfl), (.t rfl), (.t rfl), trivial⟩ (.refl _) rfl ?_
    rintro _ _ ⟨rfl, rfl⟩
    refine W.n (.bn (.h (.r (.q (.add (.t rfl) .k (fun _ => by omega)) rfl ?_))))
    refine W.q (.move (.t rfl)) rfl ?_; refine W.n ?_; refine W.h ?_; refine W.reach (D := []) (i + 1, Fit.betR r i 0 0) ⟨rfl, rfl, rfl, rfl, rfl, trivial⟩ (by ((rw [List.append_nil]; exact .refl _))) ⟨⟨hlt, hri3, fun j hj hfj => ?_⟩, by show A.final.length - (i + 1) < A.final.length - i; omega⟩
    rcases Nat.lt_or_ge j i with h9 | h9
    ·exact hmo3 _ _ _ (hba j h9 hfj)
    ·obtain rfl : j = i := by omega
     exact Fit.betR_le r j 0 0 hl0
   ·have hfi : A.final.getD i false = false := hc_t59
    refine W.k (.bn (.h (.r (.q (.add (.t rfl) .k (fun _ => by omega)) rfl ?_))))
    refine W.q (.move (.t rfl)) rfl ?_; refine W.n ?_; refine W.h ?_; refine W.reach (D := []) (i + 1, r) ⟨rfl, rfl, rfl, rfl, rfl, trivial⟩ (by ((rw [List.append_nil]; done))) ⟨⟨hlt, hri, fun j hj hfj => ?_⟩, by show A.final.length - (i + 1) < A.final.length - i; omega⟩
    rcases Nat.lt_or_ge j i with h9 | h9
    ·exact hba j h9 hfj
    ·obtain rfl : j = i := by omega
     rw [hfi] at hfj; cases hfj
  ·subst hend2
   refine W.s (.r (.q (.lti (.t rfl) (.t rfl)) rfl (.n (.h (.s ?_))))); refine W.isb 55 false rfl (by exact decide_eq_false (by omega)) ?_; refine W.condF (.t rfl) (.ex (.he (.he (.bh (.h (.s (.r (.mv rfl rfl (.mv rfl rfl (.q (.lensl (.t rfl) Tryz.underlying22) rfl ?_)))))))))); refine W.call (WFFill.c_fill b ts as_ sz A hsh hn hz hcol b25 (.sl 1 (ks.map fun k : Nat => AV.int (k : Int))) u.1 u.2.1 u.2.2 (Fit.slv vr) ((us.map fun u : Fit.Sv3 => AV.lit (Fit.slv u)) ++ [.lit (Fit.slv u)]) (ks.map fun k : Nat => AV.int (k : Int)).length hkE [] (by ((simp only [List.length_cons, List.length_drop, List.length_nil]; omega))) 0 (by omega) (by omega) r hri) ⟨(.t rfl), (.t rfl), trivial⟩ (.refl _) rfl ?_
   rintro _ _ ⟨rfl, r2, hri2, hfx2, hmo2, rfl⟩
   refine W.n (.h (.s (.s (.r (.mv rfl rfl (.q (.lensl (.t rfl) Tryz.underlying22) rfl (.q (.sub (.t rfl) .k (fun _ => by omega)) rfl ?_))))))); refine W.is (t := 73) (av' := .int ((us.length : Int) - 1)) rfl (congrArg AV.int (by rw [hlen7, hul])) ?_; refine W.asg rfl rfl (.n (.h (.b ?_))); refine W.freezeA (M1 := .arr (Fit.slv vr) 83 1 ((us.map fun u : Fit.Sv3 => AV.lit (Fit.slv u)) ++ [.lit (Fit.slv u)]) :: .box b25 86 [.lit (.pointer (some ⟨b, 0, none⟩)), .sl 1 (A.next.map pav), .sl 1 (A.final.map AV.bool), .sl 1 (ks.map fun k : Nat => AV.int (k : Int)), .lit (Fit.slv vr)] :: .box b 76 [.sl 3 (ts.map tpv), .sl 2 (as_.map Au.avx), .sl 1 (sz.map AV.int)] :: (us.map fun u : Fit.Sv3 => ME.arr (Fit.slv u) 82 3 (Fit.zrow (A.next.map pav).length))) (M2 := .arr (Fit.slv vr) 83 1 ((us.map fun u : Fit.Sv3 => AV.lit (Fit.slv u)) ++ [r2].map Fit.rowv) :: .box b25 86 [.lit (.pointer (some ⟨b, 0, none⟩)), .sl 1 (A.next.map pav), .sl 1 (A.final.map AV.bool), .sl 1 (ks.map fun k : Nat => AV.int (k : Int)), .lit (Fit.slv vr)] :: .box b 76 [.sl 3 (ts.map tpv), .sl 2 (as_.map Au.avx), .sl 1 (sz.map AV.int)] :: (us.map fun u : Fit.Sv3 => ME.arr (Fit.slv u) 82 3 (Fit.zrow (A.next.map pav).length))) (D := []) (v := Fit.slv u) (L' := []) (by ((rw [List.append_nil]; exact .refl _))) trivial ⟨.arr (FrzL.append (FrzL.refl _) ⟨.hit, trivial⟩), FrzMs.refl _⟩ ?_
   have hT0 := Fit.Tail.last hz hsh hn ks hri2 hfx2 (fun i hi hfi => hmo2 i 0 0 (hba i (by omega) hfi))
   rw [← hul] at hT0
   clear hend hul hkE hri hba hri2 hfx2 hmo2
   refine W.loop (D := []) (ι := List Fit.Sv3 × List (List Fit.Ct)) (fun z => [(10, true, .int ((z.1.length : Int) - 1)), (7, true, .lit (.pointer (some ⟨b25, 0, none⟩))), (2, true, .sl 1 (ks.map fun k : Nat => AV.int (k : Int)))]) (fun z => .arr (Fit.slv vr) 83 1 ((z.1.map fun u : Fit.Sv3 => AV.lit (Fit.slv u)) ++ z.2.map Fit.rowv) :: .box b25 86 [.lit (.pointer (some ⟨b, 0, none⟩)), .sl 1 (A.next.map pav), .sl 1 (A.final.map AV.bool), .sl 1 (ks.map fun k : Nat => AV.int (k : Int)), .lit (Fit.slv vr)] :: .box b 76 [.sl 3 (ts.map tpv), .sl 2 (as_.map Au.avx), .sl 1 (sz.map AV.int)] :: (z.1.map fun u : Fit.Sv3 => ME.arr (Fit.slv u) 82 3 (Fit.zrow (A.next.map pav).length))) (fun z => Fit.Tail A sz ks z.1.length z.2 ∧ 0 < z.2.length) (fun z => z.1.length) (us, [r2]) ⟨rfl, rfl, rfl, trivial⟩ (by ((rw [List.append_nil]; done))) ⟨hT0, Nat.one_pos⟩ ?_
   clear hT0
   rintro ⟨us, fr⟩ ⟨hT, hfr⟩
   dsimp only at hT hfr ⊢
   have hTl := hT.len
   rcases (show 0 < us.length ∨ us = [] from by cases us; exact .inr rfl; exact .inl (by simp)) with hlt | rfl
   ·obtain ⟨us, u, rfl⟩ : ∃ a b, us = a ++ [b] := ⟨us.dropLast, us.getLast (by intro h; rw [h] at hlt; simp at hlt), (List.dropLast_concat_getLast _).symm⟩
    rw [List.length_append, List.length_singleton] at hT hTl
    rw [List.map_append, List.map_append, List.append_assoc]
    refine W.is (t := 10) (av' := .int (us.length : Int)) rfl (congrArg AV.int (by rw [List.length_append, List.length_singleton]; omega)) ?_; refine W.perm (M' := .arr (Fit.slv u) 82 3 ((List.replicate A.next.length Fit.cz).map Fit.ctv) :: .arr (Fit.slv vr) 83 1 ((us.map fun u : Fit.Sv3 => AV.lit (Fit.slv u)) ++ (.lit (Fit.slv u) :: (fr.map Fit.rowv))) :: .box b25 86 [.lit (.pointer (some ⟨b, 0, none⟩)), .sl 1 (A.next.map pav), .sl 1 (A.final.map AV.bool), .sl 1 (ks.map fun k : Nat => AV.int (k : Int)), .lit (Fit.slv vr)] :: .box b 76 [.sl 3 (ts.map tpv), .sl 2 (as_.map Au.avx), .sl 1 (sz.map AV.int)] :: (us.map fun u : Fit.Sv3 => ME.arr (Fit.slv u) 82 3 (Fit.zrow (A.next.map pav).length))) (by rw [← hzr]; exact List.perm_append_comm (l₁ := .arr (Fit.slv vr) 83 1 ((us.map fun u : Fit.Sv3 => AV.lit (Fit.slv u)) ++ (.lit (Fit.slv u) :: (fr.map Fit.rowv))) :: .box b25 86 [.lit (.pointer (some ⟨b, 0, none⟩)), .sl 1 (A.next.map pav), .sl 1 (A.final.map AV.bool), .sl 1 (ks.map fun k : Nat => AV.int (k : Int)), .lit (Fit.slv vr)] :: .box b 76 [.sl 3 (ts.map tpv), .sl 2 (as_.map Au.avx), .sl 1 (sz.map AV.int)] :: (us.map fun u : Fit.Sv3 => ME.arr (Fit.slv u) 82 3 (Fit.zrow (A.next.map pav).length))) (l₂ := [.arr (Fit.slv u) 82 3 (Fit.zrow (A.next.map pav).length)])) ?_
    have hul : us.length < ks.length := by omega
    obtain ⟨kk, hkk⟩ : ∃ z, ks.getD us.length 0 = z := ⟨_, rfl⟩
    have hkm : kk ∈ ks := by rw [← hkk, List.getD_eq_getElem?_getD, List.getElem?_eq_getElem hul]; exact List.getElem_mem _
    have hkk8 := hk8 kk hkm
    have hgk : (ks.map fun k : Nat => AV.int (k : Int))[us.length]? = some (AV.int (kk : Int)) := by rw [List.getElem?_map, ← hkk, List.getD_eq_getElem?_getD, List.getElem?_eq_getElem hul]; rfl
    have hdk : ks.drop us.length = kk :: ks.drop (us.length + 1) := by rw [← hkk, List.getD_eq_getElem?_getD, List.getElem?_eq_getElem hul]; exact List.drop_eq_getElem_cons hul
    obtain ⟨nx, hnx⟩ : ∃ z, fr.getD 0 [] = z := ⟨_, rfl⟩
    have hnxl : nx.length = A.next.length := by rw [← hnx]; exact hT.row 0 hfr
    have hbest : ∀ i, i < A.next.length → Fit.Best A sz i (ks.drop (us.length + 1)) (nx.getD i Fit.cz) := fun i hi => by rw [← hnx]; exact hT.best 0 hfr i hi
    have htb : ∀ i, i < A.next.length → (nx.getD i Fit.cz).ok = true → 0 ≤ (nx.getD i Fit.cz).d ∧ (nx.getD i Fit.cz).d ≤ ks.length ∧ 0 ≤ (nx.getD i Fit.cz).f ∧ (nx.getD i Fit.cz).f ≤ 4800 * ((ks.length : Int) - (us.length : Int)) := fun i hi h => by have := hT.b 0 hfr i hi (by rw [hnx]; exact h); rw [hnx] at this; omega
    have hesl : ((us.map fun u : Fit.Sv3 => AV.lit (Fit.slv u)) ++ (.lit (Fit.slv u) :: (fr.map Fit.rowv))).length = us.length + 1 + fr.length := by simp; omega
    have hkE : ((us.map fun u : Fit.Sv3 => AV.lit (Fit.slv u)) ++ (.lit (Fit.slv u) :: (fr.map Fit.rowv)))[us.length]? = some (.lit (Fit.slv u)) := by rw [List.getElem?_append_right (by rw [List.length_map]; omega), List.length_map, Nat.sub_self]; rfl
    have hkF : ((us.map fun u : Fit.Sv3 => AV.lit (Fit.slv u)) ++ (.lit (Fit.slv u) :: (fr.map Fit.rowv)))[us.length + 1]? = some (Fit.rowv nx) := by rw [List.getElem?_append_right (by rw [List.length_map]; omega), List.length_map, show us.length + 1 - us.length = 1 from by omega, List.getElem?_cons_succ, ← hnx]; exact getD_mapG Fit.rowv [] fr 0 hfr
    have hnxm : (nx.map Fit.ctv).length = A.next.length := by rw [List.length_map]; exact hnxl
    refine W.s (.s (.r (.mv rfl rfl (.q (.gei (.t rfl) .k) rfl (.n (.h ?_)))))); refine W.isb 75 true rfl (by exact decide_eq_true (by omega)) ?_; refine W.condT (.t rfl) (.k (.h (.s (.b (.s (.s (.r (.mv rfl rfl (.q (.nilc (.t rfl)) rfl (.q (.fab (.t rfl) fa86_1) rfl (.q (.fab (.t rfl) fa62_0) rfl (.q (.ldb1 2 (.t rfl) rfl ag59 rfl) rfl (.q (.lensl (.t rfl) Tryz.underlying59) rfl (.q (.move .k) rfl (.n (.h (.b ?_))))))))))))))))); refine W.loop (D := []) (ι := Nat × List Fit.Ct) (fun z => [(84, true, .int (z.1 : Int)), (83, true, .int ((A.next.map pav).length : Int)), (82, true, .sl 1 (A.next.map pav)), (10, true, .int (us.length : Int)), (7, true, .lit (.pointer (some ⟨b25, 0, none⟩))), (2, true, .sl 1 (ks.map fun k : Nat => AV.int (k : Int)))]) (fun z => .arr (Fit.slv u) 82 3 (z.2.map Fit.ctv) :: .arr (Fit.slv vr) 83 1 ((us.map fun u : Fit.Sv3 => AV.lit (Fit.slv u)) ++ (.lit (Fit.slv u) :: (fr.map Fit.rowv))) :: .box b25 86 [.lit (.pointer (some ⟨b, 0, none⟩)), .sl 1 (A.next.map pav), .sl 1 (A.final.map AV.bool), .sl 1 (ks.map fun k : Nat => AV.int (k : Int)), .lit (Fit.slv vr)] :: .box b 76 [.sl 3 (ts.map tpv), .sl 2 (as_.map Au.avx), .sl 1 (sz.map AV.int)] :: (us.map fun u : Fit.Sv3 => ME.arr (Fit.slv u) 82 3 (Fit.zrow (A.next.map pav).length))) (fun z => z.1 ≤ A.next.length ∧ Fit.RI A sz (kk :: ks.drop (us.length + 1)) (4800 * ((ks.length : Int) - (us.length : Int))) z.2 ∧ Fit.Bs A kk nx z.2 z.1) (fun z => A.next.length - z.1) (0, List.replicate A.next.length Fit.cz) ⟨rfl, rfl, rfl, rfl, rfl, rfl, trivial⟩ (by ((rw [List.append_nil]; done))) ⟨Nat.zero_le _, .init A sz _ _, fun i h => absurd h (Nat.not_lt_zero _)⟩ ?_
    rintro ⟨i, r⟩ ⟨hi, hri, hBs⟩
    dsimp only at hi hri hBs ⊢
    have hrlen := hri.len
    obtain ⟨to, hto⟩ : ∃ z, Fit.tr A i kk = z := ⟨_, rfl⟩
    rcases (show (i < A.next.length ∧ to < 0) ∨ (i < A.next.length ∧ 0 ≤ to) ∨ i = A.next.length from by omega) with ⟨hlt, hneg⟩ | ⟨hlt, hpos⟩ | hend
    ·have hgr := getD_mapG pav [] A.next i hlt
     have hr8 := hsh.row i hlt
     have hgx : ((A.next.getD i []).map AV.int)[((kk : Int)).toNat]? = some (AV.int to) := by rw [Int.toNat_natCast, List.getElem?_map, ← hto]; unfold Fit.tr; rw [List.getD_eq_getElem?_getD (l := A.next.getD i []), List.getElem?_eq_getElem (show kk < (A.next.getD i []).length by omega)]; rfl
     have hrl : ((A.next.getD i []).map AV.int).length = 8 := by rw [List.length_map]; exact hr8
     have hgi := Fit.getD_ctv nx i (by omega)
     generalize A.next.getD i [] = rw_ at hgr hr8 hgx hrl
     have hri1 := hri
     have hm1 : ∀ j d f, (r.getD j Fit.cz).Le d f → (r.getD j Fit.cz).Le d f := fun _ _ _ h => h
     have hk1 : 0 ≤ Fit.tr A i kk → (nx.getD (Fit.tr A i kk).toNat Fit.cz).ok = true → (r.getD i Fit.cz).Le (nx.getD (Fit.tr A i kk).toNat Fit.cz).d (nx.getD (Fit.tr A i kk).toNat Fit.cz).f := fun h h2 => by rw [hto] at h h2; omega
     refine W.s (.r (.q (.lti (.t rfl) (.t rfl)) rfl (.n (.h (.s ?_))))); refine W.isb 85 true rfl (by exact decide_eq_true (by omega)) ?_; refine W.condT (.t rfl) (.k (.h (.s (.b (.s (.r (.mv rfl rfl ?_))))))); refine W.q (.at (E := 22) (.t rfl) (.t rfl) Tryz.underlying59 ty22 (fun hg => ⟨by omega, hgr⟩) rfl rfl) rfl ?_; refine W.q (.lde1 (.t rfl) ag22) rfl (.asg rfl rfl (.asg rfl rfl (.n (.h (.s (.s (.r (.mv rfl rfl (.mv rfl rfl (.mv rfl rfl ?_)))))))))); refine W.q (.at (E := 3) (.t rfl) (.t rfl) Tryz.underlying22 ty3 (fun hg => ⟨by omega, hgk⟩) rfl rfl) rfl ?_; refine W.q (.lde1 (.t rfl) ag3) rfl ?_; refine W.q (.at (E := 3) (.t rfl) (.t rfl) Tryz.underlying22 ty3 (fun hg => ⟨by omega, hgx⟩) rfl rfl) rfl ?_; refine W.q (.lde1 (.t rfl) ag3) rfl (.asg rfl rfl (.n (.h (.s (.r (.mv rfl rfl (.q (.gei (.t rfl) .k) rfl (.mv rfl rfl ?_)))))))); refine W.is (t := 98) (av' := .bool false) rfl (congrArg AV.bool (decide_eq_false (by omega))) ?_; refine W.gnob rfl rfl (by simp) rfl ?_; refine W.gnob rfl rfl (by simp) rfl ?_; refine W.gnob rfl rfl (by simp) rfl ?_; refine W.gnob rfl rfl (by simp) rfl ?_; refine W.gnob rfl rfl (by simp) rfl ?_; refine W.gnob rfl rfl (by simp) rfl ?_; refine W.gnob rfl rfl (by simp) rfl ?_; refine W.gnob rfl rfl (by simp) rfl ?_; refine W.gnob rfl rfl (by simp) rfl ?_; refine W.gnob rfl rfl (by simp) rfl ?_; refine W.gnob rfl rfl (by simp) rfl ?_; refine W.gnob rfl rfl (by simp) rfl ?_; refine W.q (.andF (.t rfl)) rfl (.n (.h (.condF (.t rfl) (.k (.h (.s (.r (.mv rfl rfl (.q (.nilc (.t rfl)) rfl (.q (.fab (.t rfl) fa86_3) rfl (.q (.ldb1 2 (.t rfl) rfl ag84 rfl) rfl (.mv rfl rfl (.q (.add (.t rfl) .k (fun _ => by omega)) rfl (.q (.ata 1 (.t rfl) rfl (.t rfl) Tryz.underlying84 ty83 (fun _ => by omega)) rfl (.q (.lda1 1 (us.length + 1) 0 (.t rfl) rfl hkF (by omega) rfl rfl rfl ag83) rfl (.mv rfl rfl ?_)))))))))))))))); refine W.q (.at (E := 82) (.t rfl) (.t rfl) Tryz.underlying83 ty82 (fun hg => ⟨by omega, hgi⟩) rfl rfl) rfl ?_; refine W.q (.lden (.t rfl) ag82 ty82 rfl rfl) rfl ?_
     refine W.alloc ty82 rfl rfl ?_; intro b14
     refine W.stb 0 (.t rfl) (.t rfl) rfl ty82 rfl rfl rfl (.n (.h (.s (.r (.q (.fab (.t rfl) fa82_1) rfl (.q (.ldb1 0 (.t rfl) rfl ag4 rfl) rfl ?_))))))
     refine W.n ?_; refine W.h ?_; refine W.cond (.t rfl) (fun hc_t140 => ?_) (fun hc_t140 => ?_)
     ·have hok1 : (nx.getD i Fit.cz).ok = true := hc_t140
      have hb1 := htb i hlt hok1
      have hal1 : Fit.Al A sz i (kk :: ks.drop (us.length + 1)) ((nx.getD i Fit.cz).d + 1) (nx.getD i Fit.cz).f := .drop ((hbest i hlt).al hok1)
      have hri2 := hri1.betR hlt hal1 (by omega)
      have hl1 : i < r.length := by rw [hri1.len]; exact hlt
      have hmo2 := Fit.betR_mono r i ((nx.getD i Fit.cz).d + 1) (nx.getD i Fit.cz).f hl1
      have hm2 := fun j d f h => hmo2 j d f (hm1 j d f h)
      have hk2 := fun a b => hmo2 _ _ _ (hk1 a b)
      have hd2 := fun _ : (nx.getD i Fit.cz).ok = true => Fit.betR_le r i ((nx.getD i Fit.cz).d + 1) (nx.getD i Fit.cz).f hl1
      have hplus : FnP Tryz.prog 60 [.agg [.int (nx.getD i Fit.cz).d, .int (nx.getD i Fit.cz).f], .agg [.int 1, .int 0]] (.agg [.int ((nx.getD i Fit.cz).d + 1), .int (nx.getD i Fit.cz).f]) := by have := WFSmall.c_plus (nx.getD i Fit.cz).d (nx.getD i Fit.cz).f 1 0 ⟨⟨by omega, by omega⟩, ⟨by omega, by omega⟩, ⟨by omega, by omega⟩, by omega, by omega⟩; rwa [Int.add_zero] at this
      refine W.r (.mv rfl rfl (.mv rfl rfl (.mv rfl rfl (.q (.fab (.t rfl) fa82_0) rfl (.q (.ldbn 0 (.t rfl) rfl ag81 ty81 rfl) rfl ?_)))))
      refine W.q (.build ty81 st81 rfl (fun hg => ⟨_, _, _, rfl, .k, rfl, rfl, rfl, _, _, _, rfl, .k, rfl, rfl, rfl, rfl⟩)) rfl ?_; refine W.callp (hplus) ⟨(.t rfl), (.t rfl), trivial⟩ rfl ?_; refine W.call (WFSmall.c_better b25 (.lit (.pointer (some ⟨b, 0, none⟩))) (.sl 1 (A.next.map pav)) (.sl 1 (A.final.map AV.bool)) (.sl 1 (ks.map fun k : Nat => AV.int (k : Int))) u.1 u.2.1 u.2.2 (Fit.slv vr) ((us.map fun u : Fit.Sv3 => AV.lit (Fit.slv u)) ++ (.lit (Fit.slv u) :: (fr.map Fit.rowv))) r i us.length ((nx.getD i Fit.cz).d + 1) (nx.getD i Fit.cz).f (by omega) hkE) ⟨(.t rfl), (.t rfl), (.t rfl), (.t rfl), trivial⟩ (((List.perm_middle (l₁ := [_])).trans <| List.Perm.cons _ <| (List.perm_middle (l₁ := [_])).trans <| List.Perm.cons _ <| (List.perm_middle (l₁ := [_])).trans <| List.Perm.cons _ <| List.Perm.cons _ <| .refl _)) rfl ?_
      rintro _ _ ⟨rfl, rfl⟩
      refine W.n (.bn (.h (.r (.q (.add (.t rfl) .k (fun _ => by omega)) rfl ?_))))
      refine W.q (.move (.t rfl)) rfl ?_; refine W.n ?_; refine W.h ?_; refine W.reach (D := [_]) (i + 1, (Fit.betR r i ((nx.getD i Fit.cz).d + 1) (nx.getD i Fit.cz).f)) ⟨rfl, rfl, rfl, rfl, rfl, rfl, trivial⟩ (by dsimp only; exact (List.Perm.cons _ <| List.Perm.cons _ <| List.Perm.cons _ <| List.perm_append_comm (l₁ := [_])) ) ⟨⟨hlt, hri2, hBs.next hm2 hk2 hd2⟩, by show A.next.length - (i + 1) < A.next.length - i; omega⟩
     ·have hok1 : (nx.getD i Fit.cz).ok = false := hc_t140
      have hri2 := hri1
      have hm2 := hm1
      have hk2 := hk1
      have hd2 : (nx.getD i Fit.cz).ok = true → (r.getD i Fit.cz).Le ((nx.getD i Fit.cz).d + 1) (nx.getD i Fit.cz).f := fun h => by rw [hok1] at h; cases h
      refine W.k (.bn (.h (.r (.q (.add (.t rfl) .k (fun _ => by omega)) rfl ?_))))
      refine W.q (.move (.t rfl)) rfl ?_; refine W.n ?_; refine W.h ?_; refine W.perm (M' := .arr (Fit.slv u) 82 3 (r.map Fit.ctv) :: .arr (Fit.slv vr) 83 1 ((us.map fun u : Fit.Sv3 => AV.lit (Fit.slv u)) ++ (.lit (Fit.slv u) :: (fr.map Fit.rowv))) :: .box b25 86 [.lit (.pointer (some ⟨b, 0, none⟩)), .sl 1 (A.next.map pav), .sl 1 (A.final.map AV.bool), .sl 1 (ks.map fun k : Nat => AV.int (k : Int)), .lit (Fit.slv vr)] :: .box b14 82 (Fit.ctv (nx.getD i Fit.cz)).cells :: .box b 76 [.sl 3 (ts.map tpv), .sl 2 (as_.map Au.avx), .sl 1 (sz.map AV.int)] :: (us.map fun u : Fit.Sv3 => ME.arr (Fit.slv u) 82 3 (Fit.zrow (A.next.map pav).length))) ((List.perm_middle (l₁ := [_])).trans <| List.Perm.cons _ <| (List.perm_middle (l₁ := [_])).trans <| List.Perm.cons _ <| (List.perm_middle (l₁ := [_])).trans <| List.Perm.cons _ <| List.Perm.cons _ <| .refl _) ?_; refine W.reach (D := [_]) (i + 1, r) ⟨rfl, rfl, rfl, rfl, rfl, rfl, trivial⟩ (by dsimp only; exact (List.Perm.cons _ <| List.Perm.cons _ <| List.Perm.cons _ <| List.perm_append_comm (l₁ := [_])) ) ⟨⟨hlt, hri2, hBs.next hm2 hk2 hd2⟩, by show A.next.length - (i + 1) < A.next.length - i; omega⟩
    ·have hgr := getD_mapG pav [] A.next i hlt
     have hr8 := hsh.row i hlt
     have hgx : ((A.next.getD i []).map AV.int)[((kk : Int)).toNat]? = some (AV.int to) := by rw [Int.toNat_natCast, List.getElem?_map, ← hto]; unfold Fit.tr; rw [List.getD_eq_getElem?_getD (l := A.next.getD i []), List.getElem?_eq_getElem (show kk < (A.next.getD i []).length by omega)]; rfl
     have hrl : ((A.next.getD i []).map AV.int).length = 8 := by rw [List.length_map]; exact hr8
     have hgi := Fit.getD_ctv nx i (by omega)
     generalize A.next.getD i [] = rw_ at hgr hr8 hgx hrl
     have htl : to.toNat < A.next.length := by have := Fit.tr_lt hsh hlt (n := kk) (by rw [hto]; exact hpos); rw [hto] at this; exact this.1
     have hgto := Fit.getD_ctv nx to.toNat (by omega)
     refine W.s (.r (.q (.lti (.t rfl) (.t rfl)) rfl (.n (.h (.s ?_))))); refine W.isb 85 true rfl (by exact decide_eq_true (by omega)) ?_; refine W.condT (.t rfl) (.k (.h (.s (.b (.s (.r (.mv rfl rfl ?_))))))); refine W.q (.at (E := 22) (.t rfl) (.t rfl) Tryz.underlying59 ty22 (fun hg => ⟨by omega, hgr⟩) rfl rfl) rfl ?_; refine W.q (.lde1 (.t rfl) ag22) rfl (.asg rfl rfl (.asg rfl rfl (.n (.h (.s (.s (.r (.mv rfl rfl (.mv rfl rfl (.mv rfl rfl ?_)))))))))); refine W.q (.at (E := 3) (.t rfl) (.t rfl) Tryz.underlying22 ty3 (fun hg => ⟨by omega, hgk⟩) rfl rfl) rfl ?_; refine W.q (.lde1 (.t rfl) ag3) rfl ?_; refine W.q (.at (E := 3) (.t rfl) (.t rfl) Tryz.underlying22 ty3 (fun hg => ⟨by omega, hgx⟩) rfl rfl) rfl ?_; refine W.q (.lde1 (.t rfl) ag3) rfl (.asg rfl rfl (.n (.h (.s (.r (.mv rfl rfl (.q (.gei (.t rfl) .k) rfl (.mv rfl rfl ?_)))))))); refine W.is (t := 98) (av' := .bool true) rfl (congrArg AV.bool (decide_eq_true (by omega))) ?_; refine W.gyes rfl rfl (.mv rfl rfl (.gyes rfl rfl (.q (.nilc (.t rfl)) rfl (.gyes rfl rfl (.q (.fab (.t rfl) fa86_3) rfl (.gyes rfl rfl (.q (.ldb1 2 (.t rfl) rfl ag84 rfl) rfl (.gyes rfl rfl (.mv rfl rfl (.gyes rfl rfl (.q (.add (.t rfl) .k (fun _ => by omega)) rfl (.gyes rfl rfl (.q (.ata 1 (.t rfl) rfl (.t rfl) Tryz.underlying84 ty83 (fun _ => by omega)) rfl (.gyes rfl rfl (.q (.lda1 1 (us.length + 1) 0 (.t rfl) rfl hkF (by omega) rfl rfl rfl ag83) rfl (.gyes rfl rfl (.mv rfl rfl (.gyes rfl rfl ?_)))))))))))))))))); refine W.q (.at (E := 82) (.t rfl) (.t rfl) Tryz.underlying83 ty82 (fun hg => ⟨by omega, hgto⟩) rfl rfl) rfl ?_; refine W.gyes rfl rfl (.q (.fae (.t rfl) fa82_1 rfl) rfl (.gyes rfl rfl (.q (.lde1 (.t rfl) ag4) rfl ?_)))
     refine W.q (.as_ (.and (.t rfl) ⟨_, _, rfl, rfl, fun _ _ => rfl⟩) (Eq.refl (AV.bool (nx.getD to.toNat Fit.cz).ok))) rfl ?_; refine W.n ?_; refine W.h ?_; refine W.cond (.t rfl) (fun hc_t111 => ?_) (fun hc_t111 => ?_)
     ·have hok0 : (nx.getD to.toNat Fit.cz).ok = true := hc_t111
      have hb0 := htb _ htl hok0
      have hal0 : Fit.Al A sz i (kk :: ks.drop (us.length + 1)) (nx.getD to.toNat Fit.cz).d (nx.getD to.toNat Fit.cz).f := .keep (by rw [hto]; exact hpos) (by rw [hto]; exact (hbest _ htl).al hok0)
      have hri1 := hri.betR hlt hal0 (by omega)
      have hl0 : i < r.length := by rw [hri.len]; exact hlt
      have hm1 := Fit.betR_mono r i (nx.getD to.toNat Fit.cz).d (nx.getD to.toNat Fit.cz).f hl0
      have hk1 : 0 ≤ Fit.tr A i kk → (nx.getD (Fit.tr A i kk).toNat Fit.cz).ok = true → ((Fit.betR r i (nx.getD to.toNat Fit.cz).d (nx.getD to.toNat Fit.cz).f).getD i Fit.cz).Le (nx.getD (Fit.tr A i kk).toNat Fit.cz).d (nx.getD (Fit.tr A i kk).toNat Fit.cz).f := fun _ _ => by rw [hto]; exact Fit.betR_le r i _ _ hl0
      refine W.r (.mv rfl rfl (.mv rfl rfl (.mv rfl rfl (.mv rfl rfl (.q (.nilc (.t rfl)) rfl (.q (.fab (.t rfl) fa86_3) rfl (.q (.ldb1 2 (.t rfl) rfl ag84 rfl) rfl (.mv rfl rfl (.q (.add (.t rfl) .k (fun _ => by omega)) rfl (.q (.ata 1 (.t rfl) rfl (.t rfl) Tryz.underlying84 ty83 (fun _ => by omega)) rfl (.q (.lda1 1 (us.length + 1) 0 (.t rfl) rfl hkF (by omega) rfl rfl rfl ag83) rfl (.mv rfl rfl ?_)))))))))))); refine W.q (.at (E := 82) (.t rfl) (.t rfl) Tryz.underlying83 ty82 (fun hg => ⟨by omega, hgto⟩) rfl rfl) rfl ?_; refine W.q (.fae (.t rfl) fa82_0 rfl) rfl (.q (.lden (.t rfl) ag81 ty81 rfl rfl) rfl ?_); refine W.call (WFSmall.c_better b25 (.lit (.pointer (some ⟨b, 0, none⟩))) (.sl 1 (A.next.map pav)) (.sl 1 (A.final.map AV.bool)) (.sl 1 (ks.map fun k : Nat => AV.int (k : Int))) u.1 u.2.1 u.2.2 (Fit.slv vr) ((us.map fun u : Fit.Sv3 => AV.lit (Fit.slv u)) ++ (.lit (Fit.slv u) :: (fr.map Fit.rowv))) r i us.length (nx.getD to.toNat Fit.cz).d (nx.getD to.toNat Fit.cz).f (by omega) hkE) ⟨(.t rfl), (.t rfl), (.t rfl), (.t rfl), trivial⟩ (.refl _) rfl ?_
      rintro _ _ ⟨rfl, rfl⟩
      refine W.n (.h (.s (.r (.mv rfl rfl (.q (.nilc (.t rfl)) rfl (.q (.fab (.t rfl) fa86_3) rfl (.q (.ldb1 2 (.t rfl) rfl ag84 rfl) rfl (.mv rfl rfl (.q (.add (.t rfl) .k (fun _ => by omega)) rfl (.q (.ata 1 (.t rfl) rfl (.t rfl) Tryz.underlying84 ty83 (fun _ => by omega)) rfl (.q (.lda1 1 (us.length + 1) 0 (.t rfl) rfl hkF (by omega) rfl rfl rfl ag83) rfl (.mv rfl rfl ?_)))))))))))); refine W.q (.at (E := 82) (.t rfl) (.t rfl) Tryz.underlying83 ty82 (fun hg => ⟨by omega, hgi⟩) rfl rfl) rfl ?_; refine W.q (.lden (.t rfl) ag82 ty82 rfl rfl) rfl ?_
      refine W.alloc ty82 rfl rfl ?_; intro b14
      refine W.stb 0 (.t rfl) (.t rfl) rfl ty82 rfl rfl rfl (.n (.h (.s (.r (.q (.fab (.t rfl) fa82_1) rfl (.q (.ldb1 0 (.t rfl) rfl ag4 rfl) rfl ?_))))))
      refine W.n ?_; refine W.h ?_; refine W.cond (.t rfl) (fun hc_t140 => ?_) (fun hc_t140 => ?_)
      ·have hok1 : (nx.getD i Fit.cz).ok = true := hc_t140
       have hb1 := htb i hlt hok1
       have hal1 : Fit.Al A sz i (kk :: ks.drop (us.length + 1)) ((nx.getD i Fit.cz).d + 1) (nx.getD i Fit.cz).f := .drop ((hbest i hlt).al hok1)
       have hri2 := hri1.betR hlt hal1 (by omega)
       have hl1 : i < (Fit.betR r i (nx.getD to.toNat Fit.cz).d (nx.getD to.toNat Fit.cz).f).length := by rw [hri1.len]; exact hlt
       have hmo2 := Fit.betR_mono (Fit.betR r i (nx.getD to.toNat Fit.cz).d (nx.getD to.toNat Fit.cz).f) i ((nx.getD i Fit.cz).d + 1) (nx.getD i Fit.cz).f hl1
       have hm2 := fun j d f h => hmo2 j d f (hm1 j d f h)
       have hk2 := fun a b => hmo2 _ _ _ (hk1 a b)
       have hd2 := fun _ : (nx.getD i Fit.cz).ok = true => Fit.betR_le (Fit.betR r i (nx.getD to.toNat Fit.cz).d (nx.getD to.toNat Fit.cz).f) i ((nx.getD i Fit.cz).d + 1) (nx.getD i Fit.cz).f hl1
       have hplus : FnP Tryz.prog 60 [.agg [.int (nx.getD i Fit.cz).d, .int (nx.getD i Fit.cz).f], .agg [.int 1, .int 0]] (.agg [.int ((nx.getD i Fit.cz).d + 1), .int (nx.getD i Fit.cz).f]) := by have := WFSmall.c_plus (nx.getD i Fit.cz).d (nx.getD i Fit.cz).f 1 0 ⟨⟨by omega, by omega⟩, ⟨by omega, by omega⟩, ⟨by omega, by omega⟩, by omega, by omega⟩; rwa [Int.add_zero] at this
       refine W.r (.mv rfl rfl (.mv rfl rfl (.mv rfl rfl (.q (.fab (.t rfl) fa82_0) rfl (.q (.ldbn 0 (.t rfl) rfl ag81 ty81 rfl) rfl ?_)))))
       refine W.q (.build ty81 st81 rfl (fun hg => ⟨_, _, _, rfl, .k, rfl, rfl, rfl, _, _, _, rfl, .k, rfl, rfl, rfl, rfl⟩)) rfl ?_; refine W.callp (hplus) ⟨(.t rfl), (.t rfl), trivial⟩ rfl ?_; refine W.call (WFSmall.c_better b25 (.lit (.pointer (some ⟨b, 0, none⟩))) (.sl 1 (A.next.map pav)) (.sl 1 (A.final.map AV.bool)) (.sl 1 (ks.map fun k : Nat => AV.int (k : Int))) u.1 u.2.1 u.2.2 (Fit.slv vr) ((us.map fun u : Fit.Sv3 => AV.lit (Fit.slv u)) ++ (.lit (Fit.slv u) :: (fr.map Fit.rowv))) (Fit.betR r i (nx.getD to.toNat Fit.cz).d (nx.getD to.toNat Fit.cz).f) i us.length ((nx.getD i Fit.cz).d + 1) (nx.getD i Fit.cz).f (by omega) hkE) ⟨(.t rfl), (.t rfl), (.t rfl), (.t rfl), trivial⟩ (((List.perm_middle (l₁ := [_])).trans <| List.Perm.cons _ <| (List.perm_middle (l₁ := [_])).trans <| List.Perm.cons _ <| (List.perm_middle (l₁ := [_])).trans <| List.Perm.cons _ <| List.Perm.cons _ <| .refl _)) rfl ?_
       rintro _ _ ⟨rfl, rfl⟩
       refine W.n (.bn (.h (.r (.q (.add (.t rfl) .k (fun _ => by omega)) rfl ?_))))
       refine W.q (.move (.t rfl)) rfl ?_; refine W.n ?_; refine W.h ?_; refine W.reach (D := [_]) (i + 1, (Fit.betR (Fit.betR r i (nx.getD to.toNat Fit.cz).d (nx.getD to.toNat Fit.cz).f) i ((nx.getD i Fit.cz).d + 1) (nx.getD i Fit.cz).f)) ⟨rfl, rfl, rfl, rfl, rfl, rfl, trivial⟩ (by dsimp only; exact (List.Perm.cons _ <| List.Perm.cons _ <| List.Perm.cons _ <| List.perm_append_comm (l₁ := [_])) ) ⟨⟨hlt, hri2, hBs.next hm2 hk2 hd2⟩, by show A.next.length - (i + 1) < A.next.length - i; omega⟩
      ·have hok1 : (nx.getD i Fit.cz).ok = false := hc_t140
       have hri2 := hri1
       have hm2 := hm1
       have hk2 := hk1
       have hd2 : (nx.getD i Fit.cz).ok = true → ((Fit.betR r i (nx.getD to.toNat Fit.cz).d (nx.getD to.toNat Fit.cz).f).getD i Fit.cz).Le ((nx.getD i Fit.cz).d + 1) (nx.getD i Fit.cz).f := fun h => by rw [hok1] at h; cases h
       refine W.k (.bn (.h (.r (.q (.add (.t rfl) .k (fun _ => by omega)) rfl ?_))))
       refine W.q (.move (.t rfl)) rfl ?_; refine W.n ?_; refine W.h ?_; refine W.perm (M' := .arr (Fit.slv u) 82 3 ((Fit.betR r i (nx.getD to.toNat Fit.cz).d (nx.getD to.toNat Fit.cz).f).map Fit.ctv) :: .arr (Fit.slv vr) 83 1 ((us.map fun u : Fit.Sv3 => AV.lit (Fit.slv u)) ++ (.lit (Fit.slv u) :: (fr.map Fit.rowv))) :: .box b25 86 [.lit (.pointer (some ⟨b, 0, none⟩)), .sl 1 (A.next.map pav), .sl 1 (A.final.map AV.bool), .sl 1 (ks.map fun k : Nat => AV.int (k : Int)), .lit (Fit.slv vr)] :: .box b14 82 (Fit.ctv (nx.getD i Fit.cz)).cells :: .box b 76 [.sl 3 (ts.map tpv), .sl 2 (as_.map Au.avx), .sl 1 (sz.map AV.int)] :: (us.map fun u : Fit.Sv3 => ME.arr (Fit.slv u) 82 3 (Fit.zrow (A.next.map pav).length))) ((List.perm_middle (l₁ := [_])).trans <| List.Perm.cons _ <| (List.perm_middle (l₁ := [_])).trans <| List.Perm.cons _ <| (List.perm_middle (l₁ := [_])).trans <| List.Perm.cons _ <| List.Perm.cons _ <| .refl _) ?_; refine W.reach (D := [_]) (i + 1, (Fit.betR r i (nx.getD to.toNat Fit.cz).d (nx.getD to.toNat Fit.cz).f)) ⟨rfl, rfl, rfl, rfl, rfl, rfl, trivial⟩ (by dsimp only; exact (List.Perm.cons _ <| List.Perm.cons _ <| List.Perm.cons _ <| List.perm_append_comm (l₁ := [_])) ) ⟨⟨hlt, hri2, hBs.next hm2 hk2 hd2⟩, by show A.next.length - (i + 1) < A.next.length - i; omega⟩
     ·have hok0 : (nx.getD to.toNat Fit.cz).ok = false := hc_t111
      have hri1 := hri
      have hm1 : ∀ j d f, (r.getD j Fit.cz).Le d f → (r.getD j Fit.cz).Le d f := fun _ _ _ h => h
      have hk1 : 0 ≤ Fit.tr A i kk → (nx.getD (Fit.tr A i kk).toNat Fit.cz).ok = true → (r.getD i Fit.cz).Le (nx.getD (Fit.tr A i kk).toNat Fit.cz).d (nx.getD (Fit.tr A i kk).toNat Fit.cz).f := fun h h2 => by rw [hto] at h h2; (rw [hok0] at h2; cases h2)
      refine W.k (.h (.s (.r (.mv rfl rfl (.q (.nilc (.t rfl)) rfl (.q (.fab (.t rfl) fa86_3) rfl (.q (.ldb1 2 (.t rfl) rfl ag84 rfl) rfl (.mv rfl rfl (.q (.add (.t rfl) .k (fun _ => by omega)) rfl (.q (.ata 1 (.t rfl) rfl (.t rfl) Tryz.underlying84 ty83 (fun _ => by omega)) rfl (.q (.lda1 1 (us.length + 1) 0 (.t rfl) rfl hkF (by omega) rfl rfl rfl ag83) rfl (.mv rfl rfl ?_)))))))))))); refine W.q (.at (E := 82) (.t rfl) (.t rfl) Tryz.underlying83 ty82 (fun hg => ⟨by omega, hgi⟩) rfl rfl) rfl ?_; refine W.q (.lden (.t rfl) ag82 ty82 rfl rfl) rfl ?_
      refine W.alloc ty82 rfl rfl ?_; intro b14
      refine W.stb 0 (.t rfl) (.t rfl) rfl ty82 rfl rfl rfl (.n (.h (.s (.r (.q (.fab (.t rfl) fa82_1) rfl (.q (.ldb1 0 (.t rfl) rfl ag4 rfl) rfl ?_))))))
      refine W.n ?_; refine W.h ?_; refine W.cond (.t rfl) (fun hc_t140 => ?_) (fun hc_t140 => ?_)
      ·have hok1 : (nx.getD i Fit.cz).ok = true := hc_t140
       have hb1 := htb i hlt hok1
       have hal1 : Fit.Al A sz i (kk :: ks.drop (us.length + 1)) ((nx.getD i Fit.cz).d + 1) (nx.getD i Fit.cz).f := .drop ((hbest i hlt).al hok1)
       have hri2 := hri1.betR hlt hal1 (by omega)
       have hl1 : i < r.length := by rw [hri1.len]; exact hlt
       have hmo2 := Fit.betR_mono r i ((nx.getD i Fit.cz).d + 1) (nx.getD i Fit.cz).f hl1
       have hm2 := fun j d f h => hmo2 j d f (hm1 j d f h)
       have hk2 := fun a b => hmo2 _ _ _ (hk1 a b)
       have hd2 := fun _ : (nx.getD i Fit.cz).ok = true => Fit.betR_le r i ((nx.getD i Fit.cz).d + 1) (nx.getD i Fit.cz).f hl1
       have hplus : FnP Tryz.prog 60 [.agg [.int (nx.getD i Fit.cz).d, .int (nx.getD i Fit.cz).f], .agg [.int 1, .int 0]] (.agg [.int ((nx.getD i Fit.cz).d + 1), .int (nx.getD i Fit.cz).f]) := by have := WFSmall.c_plus (nx.getD i Fit.cz).d (nx.getD i Fit.cz).f 1 0 ⟨⟨by omega, by omega⟩, ⟨by omega, by omega⟩, ⟨by omega, by omega⟩, by omega, by omega⟩; rwa [Int.add_zero] at this
       refine W.r (.mv rfl rfl (.mv rfl rfl (.mv rfl rfl (.q (.fab (.t rfl) fa82_0) rfl (.q (.ldbn 0 (.t rfl) rfl ag81 ty81 rfl) rfl ?_)))))
       refine W.q (.build ty81 st81 rfl (fun hg => ⟨_, _, _, rfl, .k, rfl, rfl, rfl, _, _, _, rfl, .k, rfl, rfl, rfl, rfl⟩)) rfl ?_; refine W.callp (hplus) ⟨(.t rfl), (.t rfl), trivial⟩ rfl ?_; refine W.call (WFSmall.c_better b25 (.lit (.pointer (some ⟨b, 0, none⟩))) (.sl 1 (A.next.map pav)) (.sl 1 (A.final.map AV.bool)) (.sl 1 (ks.map fun k : Nat => AV.int (k : Int))) u.1 u.2.1 u.2.2 (Fit.slv vr) ((us.map fun u : Fit.Sv3 => AV.lit (Fit.slv u)) ++ (.lit (Fit.slv u) :: (fr.map Fit.rowv))) r i us.length ((nx.getD i Fit.cz).d + 1) (nx.getD i Fit.cz).f (by omega) hkE) ⟨(.t rfl), (.t rfl), (.t rfl), (.t rfl), trivial⟩ (((List.perm_middle (l₁ := [_])).trans <| List.Perm.cons _ <| (List.perm_middle (l₁ := [_])).trans <| List.Perm.cons _ <| (List.perm_middle (l₁ := [_])).trans <| List.Perm.cons _ <| List.Perm.cons _ <| .refl _)) rfl ?_
       rintro _ _ ⟨rfl, rfl⟩
       refine W.n (.bn (.h (.r (.q (.add (.t rfl) .k (fun _ => by omega)) rfl ?_))))
       refine W.q (.move (.t rfl)) rfl ?_; refine W.n ?_; refine W.h ?_; refine W.reach (D := [_]) (i + 1, (Fit.betR r i ((nx.getD i Fit.cz).d + 1) (nx.getD i Fit.cz).f)) ⟨rfl, rfl, rfl, rfl, rfl, rfl, trivial⟩ (by dsimp only; exact (List.Perm.cons _ <| List.Perm.cons _ <| List.Perm.cons _ <| List.perm_append_comm (l₁ := [_])) ) ⟨⟨hlt, hri2, hBs.next hm2 hk2 hd2⟩, by show A.next.length - (i + 1) < A.next.length - i; omega⟩
      ·have hok1 : (nx.getD i Fit.cz).ok = false := hc_t140
       have hri2 := hri1
       have hm2 := hm1
       have hk2 := hk1
       have hd2 : (nx.getD i Fit.cz).ok = true → (r.getD i Fit.cz).Le ((nx.getD i Fit.cz).d + 1) (nx.getD i Fit.cz).f := fun h => by rw [hok1] at h; cases h
       refine W.k (.bn (.h (.r (.q (.add (.t rfl) .k (fun _ => by omega)) rfl ?_))))
       refine W.q (.move (.t rfl)) rfl ?_; refine W.n ?_; refine W.h ?_; refine W.perm (M' := .arr (Fit.slv u) 82 3 (r.map Fit.ctv) :: .arr (Fit.slv vr) 83 1 ((us.map fun u : Fit.Sv3 => AV.lit (Fit.slv u)) ++ (.lit (Fit.slv u) :: (fr.map Fit.rowv))) :: .box b25 86 [.lit (.pointer (some ⟨b, 0, none⟩)), .sl 1 (A.next.map pav), .sl 1 (A.final.map AV.bool), .sl 1 (ks.map fun k : Nat => AV.int (k : Int)), .lit (Fit.slv vr)] :: .box b14 82 (Fit.ctv (nx.getD i Fit.cz)).cells :: .box b 76 [.sl 3 (ts.map tpv), .sl 2 (as_.map Au.avx), .sl 1 (sz.map AV.int)] :: (us.map fun u : Fit.Sv3 => ME.arr (Fit.slv u) 82 3 (Fit.zrow (A.next.map pav).length))) ((List.perm_middle (l₁ := [_])).trans <| List.Perm.cons _ <| (List.perm_middle (l₁ := [_])).trans <| List.Perm.cons _ <| (List.perm_middle (l₁ := [_])).trans <| List.Perm.cons _ <| List.Perm.cons _ <| .refl _) ?_; refine W.reach (D := [_]) (i + 1, r) ⟨rfl, rfl, rfl, rfl, rfl, rfl, trivial⟩ (by dsimp only; exact (List.Perm.cons _ <| List.Perm.cons _ <| List.Perm.cons _ <| List.perm_append_comm (l₁ := [_])) ) ⟨⟨hlt, hri2, hBs.next hm2 hk2 hd2⟩, by show A.next.length - (i + 1) < A.next.length - i; omega⟩
    ·subst hend
     refine W.s (.r (.q (.lti (.t rfl) (.t rfl)) rfl (.n (.h (.s ?_))))); refine W.isb 85 false rfl (by exact decide_eq_false (by omega)) ?_; refine W.condF (.t rfl) (.ex (.he (.he (.bh (.h (.r (.mv rfl rfl (.mv rfl rfl ?_)))))))); refine W.call (WFFill.c_fill b ts as_ sz A hsh hn hz hcol b25 (.sl 1 (ks.map fun k : Nat => AV.int (k : Int))) u.1 u.2.1 u.2.2 (Fit.slv vr) ((us.map fun u : Fit.Sv3 => AV.lit (Fit.slv u)) ++ (.lit (Fit.slv u) :: (fr.map Fit.rowv))) us.length hkE (kk :: ks.drop (us.length + 1)) (by ((simp only [List.length_cons, List.length_drop, List.length_nil]; omega))) (4800 * ((ks.length : Int) - (us.length : Int))) (by omega) (by omega) r hri) ⟨(.t rfl), (.t rfl), trivial⟩ (.refl _) rfl ?_
     rintro _ _ ⟨rfl, r2, hri2, hfx2, hmo2, rfl⟩
     refine W.n (.bn (.h (.r ?_))); refine W.freezeA (M1 := .arr (Fit.slv vr) 83 1 ((us.map fun u : Fit.Sv3 => AV.lit (Fit.slv u)) ++ (.lit (Fit.slv u) :: (fr.map Fit.rowv))) :: .box b25 86 [.lit (.pointer (some ⟨b, 0, none⟩)), .sl 1 (A.next.map pav), .sl 1 (A.final.map AV.bool), .sl 1 (ks.map fun k : Nat => AV.int (k : Int)), .lit (Fit.slv vr)] :: .box b 76 [.sl 3 (ts.map tpv), .sl 2 (as_.map Au.avx), .sl 1 (sz.map AV.int)] :: (us.map fun u : Fit.Sv3 => ME.arr (Fit.slv u) 82 3 (Fit.zrow (A.next.map pav).length))) (M2 := .arr (Fit.slv vr) 83 1 ((us.map fun u : Fit.Sv3 => AV.lit (Fit.slv u)) ++ (r2 :: fr).map Fit.rowv) :: .box b25 86 [.lit (.pointer (some ⟨b, 0, none⟩)), .sl 1 (A.next.map pav), .sl 1 (A.final.map AV.bool), .sl 1 (ks.map fun k : Nat => AV.int (k : Int)), .lit (Fit.slv vr)] :: .box b 76 [.sl 3 (ts.map tpv), .sl 2 (as_.map Au.avx), .sl 1 (sz.map AV.int)] :: (us.map fun u : Fit.Sv3 => ME.arr (Fit.slv u) 82 3 (Fit.zrow (A.next.map pav).length))) (D := []) (v := Fit.slv u) (L' := []) (by ((rw [List.append_nil]; exact .refl _))) trivial ⟨.arr (FrzL.append (FrzL.refl _) ⟨.hit, FrzL.refl _⟩), FrzMs.refl _⟩ ?_
     have hT2 := Fit.Tail.step hz hsh hn hks hT hul hdk hri2 hfx2 (by rw [hnx]; exact hBs.mono hmo2)
     refine W.mv rfl rfl (.q (.sub (.t rfl) .k (fun _ => by omega)) rfl ?_)
     refine W.q (.assign (.t rfl)) rfl ?_; refine W.n ?_; refine W.h ?_; refine W.reach (D := []) (us, r2 :: fr) ⟨rfl, rfl, rfl, trivial⟩ (by ((rw [List.append_nil]; done))) ⟨⟨hT2, Nat.succ_pos _⟩, by show us.length < (us ++ [u]).length; rw [List.length_append, List.length_singleton]; omega⟩
   ·have hopt := Fit.Tail.opt hks hT
    refine W.s (.s (.r (.mv rfl rfl (.q (.gei (.t rfl) .k) rfl (.n (.h ?_)))))); refine W.isb 75 false rfl (by exact decide_eq_false (by simp)) ?_; refine W.condF (.t rfl) (.ex (.he (.he (.bh (.h (.s (.r (.mv rfl rfl (.asg rfl rfl (.n (.h ?_))))))))))); refine W.ret ?_; refine W.freezeA (M1 := .box b25 86 [.lit (.pointer (some ⟨b, 0, none⟩)), .sl 1 (A.next.map pav), .sl 1 (A.final.map AV.bool), .sl 1 (ks.map fun k : Nat => AV.int (k : Int)), .lit (Fit.slv vr)] :: [.box b 76 [.sl 3 (ts.map tpv), .sl 2 (as_.map Au.avx), .sl 1 (sz.map AV.int)]]) (M2 := .box b25 86 [.lit (.pointer (some ⟨b, 0, none⟩)), .sl 1 (A.next.map pav), .sl 1 (A.final.map AV.bool), .sl 1 (ks.map fun k : Nat => AV.int (k : Int)), .sl 1 (fr.map Fit.rowv)] :: [.box b 76 [.sl 3 (ts.map tpv), .sl 2 (as_.map Au.avx), .sl 1 (sz.map AV.int)]]) (D := []) (v := Fit.slv vr) (L' := []) (.refl _) trivial ⟨.box ⟨.refl _, .refl _, .refl _, .refl _, .hit, trivial⟩, FrzMs.refl _⟩ ?_; refine W.retn (M' := [.box b25 86 [.lit (.pointer (some ⟨b, 0, none⟩)), .sl 1 (A.next.map pav), .sl 1 (A.final.map AV.bool), .sl 1 (ks.map fun k : Nat => AV.int (k : Int)), .sl 1 (fr.map Fit.rowv)], .box b 76 [.sl 3 (ts.map tpv), .sl 2 (as_.map Au.avx), .sl 1 (sz.map AV.int)]]) (D := []) (rs := [.tmp 6]) (avs := [_]) Tryz.results33 ⟨rfl, trivial⟩ rfl (.refl _) ?_
    exact ⟨b25, fr, hopt, rfl, rfl⟩
end WFPlan
end Go.Proofs.YtphlkdbglpcikaaGreatDoor
end
section
namespace Go.Proofs.YtphlkdbglpcikaaGreatDoor
open Go.Vl
open Y
namespace WFBest
theorem int2 : Int2 Tryz.prog 81 := Int2.of Tryz.underlying81 (by kernel_rfl) (by kernel_rfl) (by decide) (by decide) rfl rfl Tryz.underlying3 Tryz.underlying3
set_option maxHeartbeats 8000000 in
theorem c_Best (b : Nat) (ts : List Tp) (as_ : List Au) (sz : List Int) (A : Au) (hsh : A.Shape) (hn : A.next.length ≤ 32) (hz : Fit.Sz A sz) (hcol : ∀ i m, 0 ≤ Fit.tr A i m → m < sz.length) (t : Nat) (hA : (as_.map Au.avx)[t]? = some (Au.avx A)) (ks : List Nat) (hks : ks.length ≤ 64) (hk8 : ∀ k ∈ ks, k < 8) (hex : ∃ d f, Fit.Al A sz 0 ks d f) : FnC Tryz.prog 35 [.lit (.pointer (some ⟨b, 0, none⟩)), .int (t : Int), .sl 1 (ks.map fun k : Nat => AV.int (k : Int))] [.box b 76 [.sl 3 (ts.map tpv), .sl 2 (as_.map Au.avx), .sl 1 (sz.map AV.int)]] (fun r M => (∃ rows m w fr, Fit.Opt A sz ks rows ∧ Fit.Tr A sz ks rows m 0 0 w fr ∧ r = .tup [.sl 1 (w.map fun k : Nat => AV.int (k : Int)), .sl 1 (fr.map AV.int)]) ∧ M = [.box b 76 [.sl 3 (ts.map tpv), .sl 2 (as_.map Au.avx), .sl 1 (sz.map AV.int)]]) :=  by
 refine FnC.mk Tryz.func35 (by kernel_rfl) rfl Tryz.ntmps35 rfl (fun w0 F => ?_)
 have hnl : (A.next.map pav).length = A.next.length := List.length_map ..
 have hlen7 : (ks.map fun k : Nat => AV.int (k : Int)).length = ks.length := List.length_map ..
 have hpos0 := hsh.pos
 refine W.s (.r (.q (.assign .k) rfl (.q (.assign .k) rfl (.n (.h (.s (.r (.mv rfl rfl (.mv rfl rfl (.mv rfl rfl ?_)))))))))); refine W.call (WFPlan.c_plan b ts as_ sz A hsh hn hz hcol t hA ks hks hk8) ⟨(.t rfl), (.t rfl), (.t rfl), trivial⟩ (.refl _) rfl ?_
 rintro _ _ ⟨p, rows, ho, rfl, rfl⟩
 refine W.asg rfl rfl (.n (.h (.s (.r (.q (.assign .k) rfl (.q (.assign .k) rfl (.n (.h (.s (.b ?_))))))))))
 have hrlen := ho.len
 have hrl0 : (rows.map Fit.rowv).length = rows.length := List.length_map ..
 have hok0 : (Fit.cel rows 0 0).ok = true := by obtain ⟨d, f, hal⟩ := hex; exact ((ho.cel_best (Nat.zero_le _) hpos0).le d f hal).1
 obtain ⟨m0, w, fr, hTr0⟩ := ho.ex hsh hz _ _ 0 0 (Nat.zero_le _) hpos0 hok0 (Nat.le_refl _) (Nat.le_refl _)
 have hbnd := hTr0.bound hsh hz ho (Nat.zero_le _) hpos0 hok0
 have hb00 := ho.b 0 (Nat.zero_le _) 0 hpos0 hok0
 have hm0 : m0 ≤ 2000000 := by have e : Fit.cel rows 0 0 = (rows.getD 0 []).getD 0 Fit.cz := rfl; rw [e] at hbnd; omega
 refine W.own_nil 3 1 ?_; refine W.own_nil 3 1 ?_; refine W.loop (D := []) (ι := Nat × Nat × List Nat × List Int × Value × Value) (fun z => [(9, true, .int (z.2.1 : Int)), (10, true, .int (z.1 : Int)), (6, true, .lit z.2.2.2.2.1), (7, true, .lit z.2.2.2.2.2), (8, true, .lit (.pointer (some ⟨p, 0, none⟩))), (2, true, .sl 1 (ks.map fun k : Nat => AV.int (k : Int)))]) (fun z => [.arr z.2.2.2.2.1 3 1 (z.2.2.1.map fun k : Nat => AV.int (k : Int)), .arr z.2.2.2.2.2 3 1 (z.2.2.2.1.map AV.int), .box p 86 [.lit (.pointer (some ⟨b, 0, none⟩)), .sl 1 (A.next.map pav), .sl 1 (A.final.map AV.bool), .sl 1 (ks.map fun k : Nat => AV.int (k : Int)), .sl 1 (rows.map Fit.rowv)], .box b 76 [.sl 3 (ts.map tpv), .sl 2 (as_.map Au.avx), .sl 1 (sz.map AV.int)]]) (fun z => z.1 ≤ ks.length ∧ z.2.1 < A.next.length ∧ (Fit.cel rows z.1 z.2.1).ok = true ∧ ∃ m wr frr, Fit.Tr A sz ks rows m z.2.1 z.1 wr frr ∧ z.2.2.1 ++ wr = w ∧ z.2.2.2.1 ++ frr = fr ∧ z.2.2.1.length + m ≤ 2000000 ∧ z.2.2.2.1.length = z.2.2.1.length) (fun z => (ks.length - z.1) * 2 + (Fit.cel rows z.1 z.2.1).f.toNat + 0 * z.2.2.1.length) (0, 0, [], [], .slice none 0 0, .slice none 0 0) ⟨rfl, rfl, rfl, rfl, rfl, rfl, trivial⟩ (.refl _) ⟨Nat.zero_le _, hpos0, hok0, m0, w, fr, hTr0, rfl, rfl, by show 0 + m0 ≤ _; omega, rfl⟩ ?_
 rintro ⟨k, i, w0, f0, vw, vf⟩ ⟨hk, hi, hok, m, wr, frr, hTr, hwe, hfe, hml, hfl0⟩
 dsimp only at hk hi hok hTr hwe hfe hml hfl0 ⊢
 have hgk := getD_mapG Fit.rowv [] rows k (by omega)
 have hgs : ((rows.getD k []).map Fit.ctv)[i]? = some (Fit.ctv (Fit.cel rows k i)) := Fit.getD_ctv _ _ (by rw [ho.row k hk]; exact hi)
 have hcl : ((rows.getD k []).map Fit.ctv).length = A.next.length := by rw [List.length_map]; exact ho.row k hk
 obtain ⟨cs, hcs⟩ : ∃ c, Fit.cel rows k i = c := ⟨_, rfl⟩
 rw [hcs] at hgs
 have hgr := getD_mapG pav [] A.next i hi
 have hr8 := hsh.row i hi
 have htr : ∀ m, Fit.tr A i m = (A.next.getD i []).getD m (-1) := fun m => rfl
 generalize A.next.getD i [] = rw_ at hgr hr8 htr
 have hrl : (rw_.map AV.int).length = 8 := by rw [List.length_map]; exact hr8
 rcases (show (cs.d = 0 ∧ cs.f = 0 ∧ k = ks.length) ∨ (k < ks.length) ∨ (k = ks.length ∧ ¬ (cs.d = 0 ∧ cs.f = 0 ∧ k = ks.length)) from by by_cases h1 : k < ks.length; exact .inr (.inl h1); by_cases h2 : (cs.d = 0 ∧ cs.f = 0 ∧ k = ks.length); exact .inl h2; exact .inr (.inr ⟨by omega, h2⟩)) with hst | hkl | ⟨hke, hns⟩
 ·obtain ⟨rfl, rfl⟩ := hTr.inv_stop (by rw [hcs]; exact ⟨hst.1, hst.2.1⟩) hst.2.2
  rw [List.append_nil] at hwe hfe
  subst hwe
  subst hfe
  refine W.s (.s (.r (.mv rfl rfl (.q (.nilc (.t rfl)) rfl (.q (.fab (.t rfl) fa86_3) rfl (.q (.ldb1 2 (.t rfl) rfl ag84 rfl) rfl (.mv rfl rfl ?_))))))); refine W.q (.at (E := 83) (.t rfl) (.t rfl) Tryz.underlying84 ty83 (fun hg => ⟨by omega, hgk⟩) rfl rfl) rfl ?_; refine W.q (.lde1 (.t rfl) ag83) rfl (.mv rfl rfl ?_); refine W.q (.at (E := 82) (.t rfl) (.t rfl) Tryz.underlying83 ty82 (fun hg => ⟨by omega, hgs⟩) rfl rfl) rfl ?_; refine W.q (.fae (.t rfl) fa82_0 rfl) rfl (.q (.lden (.t rfl) ag81 ty81 rfl rfl) rfl (.q (.build ty81 st81 rfl (fun hg => rfl)) rfl (.q (.nei2 int2 (.t rfl) (.t rfl)) rfl (.mv rfl rfl (.qgF rfl rfl (.move (.t rfl)) rfl (.qgF rfl rfl (.move (.t rfl)) rfl (.qgF rfl rfl (.lensl (.c rfl) Tryz.underlying22) rfl (.qgF rfl rfl (.lti (.c rfl) (.c rfl)) rfl ?_)))))))); refine W.q (.or (.t rfl) ⟨_, _, rfl, rfl, by ((simp; done))⟩) rfl ?_; refine W.n (.h ?_); refine W.isb 34 false rfl (by rw [hst.1, hst.2.1]; simp; omega) ?_; refine W.condF (.t rfl) (.ex (.he (.he (.bh (.h (.s (.r (.mv rfl rfl (.mv rfl rfl (.asg rfl rfl (.asg rfl rfl (.n (.h ?_))))))))))))); refine W.ret ?_; refine W.freezeA (M1 := [.arr vf 3 1 (f0.map AV.int), .box p 86 [.lit (.pointer (some ⟨b, 0, none⟩)), .sl 1 (A.next.map pav), .sl 1 (A.final.map AV.bool), .sl 1 (ks.map fun k : Nat => AV.int (k : Int)), .sl 1 (rows.map Fit.rowv)], .box b 76 [.sl 3 (ts.map tpv), .sl 2 (as_.map Au.avx), .sl 1 (sz.map AV.int)]]) (M2 := [.arr vf 3 1 (f0.map AV.int), .box p 86 [.lit (.pointer (some ⟨b, 0, none⟩)), .sl 1 (A.next.map pav), .sl 1 (A.final.map AV.bool), .sl 1 (ks.map fun k : Nat => AV.int (k : Int)), .sl 1 (rows.map Fit.rowv)], .box b 76 [.sl 3 (ts.map tpv), .sl 2 (as_.map Au.avx), .sl 1 (sz.map AV.int)]]) (D := []) (v := vw) (L' := [(6, true, .sl 1 (w0.map fun k : Nat => AV.int (k : Int)))]) (.refl _) ⟨⟨_, rfl, .one .hit⟩, trivial⟩ (FrzMs.refl _) ?_; refine W.freezeA (M1 := [.box p 86 [.lit (.pointer (some ⟨b, 0, none⟩)), .sl 1 (A.next.map pav), .sl 1 (A.final.map AV.bool), .sl 1 (ks.map fun k : Nat => AV.int (k : Int)), .sl 1 (rows.map Fit.rowv)], .box b 76 [.sl 3 (ts.map tpv), .sl 2 (as_.map Au.avx), .sl 1 (sz.map AV.int)]]) (M2 := [.box p 86 [.lit (.pointer (some ⟨b, 0, none⟩)), .sl 1 (A.next.map pav), .sl 1 (A.final.map AV.bool), .sl 1 (ks.map fun k : Nat => AV.int (k : Int)), .sl 1 (rows.map Fit.rowv)], .box b 76 [.sl 3 (ts.map tpv), .sl 2 (as_.map Au.avx), .sl 1 (sz.map AV.int)]]) (D := []) (v := vf) (L' := [(7, true, .sl 1 (f0.map AV.int))]) (.refl _) ⟨⟨_, rfl, .one .hit⟩, trivial⟩ (FrzMs.refl _) ?_; refine W.retn (M' := [.box b 76 [.sl 3 (ts.map tpv), .sl 2 (as_.map Au.avx), .sl 1 (sz.map AV.int)]]) (D := [_]) (rs := [.tmp 6, .tmp 7]) (avs := [_, _]) Tryz.results35 ⟨rfl, rfl, trivial⟩ rfl (List.Perm.swap _ _ []) ?_
  exact ⟨⟨rows, m0, w0, f0, ho, hTr0, rfl⟩, rfl⟩
 ·obtain ⟨kk, hkk⟩ : ∃ z, ks.getD k 0 = z := ⟨_, rfl⟩
  have hkm : kk ∈ ks := by rw [← hkk, List.getD_eq_getElem?_getD, List.getElem?_eq_getElem hkl]; exact List.getElem_mem _
  have hkk8 := hk8 kk hkm
  have hgq : (ks.map fun k : Nat => AV.int (k : Int))[k]? = some (AV.int (kk : Int)) := by rw [List.getElem?_map, ← hkk, List.getD_eq_getElem?_getD, List.getElem?_eq_getElem hkl]; rfl
  obtain ⟨to, hto⟩ : ∃ z, Fit.tr A i kk = z := ⟨_, rfl⟩
  have hgx : (rw_.map AV.int)[((kk : Int)).toNat]? = some (AV.int to) := by rw [Int.toNat_natCast, List.getElem?_map, ← hto, htr, List.getD_eq_getElem?_getD, List.getElem?_eq_getElem (show kk < rw_.length by omega)]; rfl
  have htl : 0 ≤ to → to.toNat < A.next.length := fun h => by have := Fit.tr_lt hsh hi (n := kk) (by rw [hto]; exact h); rw [hto] at this; exact this.1
  have hG := WFGoes.c_goes p (.lit (.pointer (some ⟨b, 0, none⟩))) (.sl 1 (A.next.map pav)) (.sl 1 (A.final.map AV.bool)) (.sl 1 (ks.map fun k : Nat => AV.int (k : Int))) rows i k 0 0 to (k + 1) (by omega) (fun h => by rw [ho.row (k + 1) hkl]; exact htl h) (by omega) (by rw [ho.row k hk]; exact hi) (fun h h2 => by have := ho.b (k + 1) hkl to.toNat (htl h) h2; have e : Fit.cel rows (k + 1) to.toNat = (rows.getD (k + 1) []).getD to.toNat Fit.cz := rfl; rw [e]; omega) (by omega)
  have hns : ¬ (cs.d = 0 ∧ cs.f = 0 ∧ k = ks.length) := fun h => by omega
  refine W.s (.s (.r (.mv rfl rfl (.q (.nilc (.t rfl)) rfl (.q (.fab (.t rfl) fa86_3) rfl (.q (.ldb1 2 (.t rfl) rfl ag84 rfl) rfl (.mv rfl rfl ?_))))))); refine W.q (.at (E := 83) (.t rfl) (.t rfl) Tryz.underlying84 ty83 (fun hg => ⟨by omega, hgk⟩) rfl rfl) rfl ?_; refine W.q (.lde1 (.t rfl) ag83) rfl (.mv rfl rfl ?_); refine W.q (.at (E := 82) (.t rfl) (.t rfl) Tryz.underlying83 ty82 (fun hg => ⟨by omega, hgs⟩) rfl rfl) rfl ?_; refine W.q (.fae (.t rfl) fa82_0 rfl) rfl (.q (.lden (.t rfl) ag81 ty81 rfl rfl) rfl (.q (.build ty81 st81 rfl (fun hg => rfl)) rfl (.q (.nei2 int2 (.t rfl) (.t rfl)) rfl (.mv rfl rfl (.qgF rfl rfl (.move (.t rfl)) rfl (.qgF rfl rfl (.move (.t rfl)) rfl (.qgF rfl rfl (.lensl (.c rfl) Tryz.underlying22) rfl (.qgF rfl rfl (.lti (.c rfl) (.c rfl)) rfl ?_)))))))); refine W.q (.or (.t rfl) ⟨_, _, rfl, rfl, by ((simp; done))⟩) rfl ?_; refine W.n (.h ?_); refine W.isb 34 true rfl (by simp; omega) ?_; refine W.condT (.t rfl) (.k (.h (.b (.s (.s ?_))))); refine W.drawnE (ι := Unit) (fun _ _ => [.arr vw 3 1 (w0.map fun k : Nat => AV.int (k : Int)), .arr vf 3 1 (f0.map AV.int), .box p 86 [.lit (.pointer (some ⟨b, 0, none⟩)), .sl 1 (A.next.map pav), .sl 1 (A.final.map AV.bool), .sl 1 (ks.map fun k : Nat => AV.int (k : Int)), .sl 1 (rows.map Fit.rowv)], .box b 76 [.sl 3 (ts.map tpv), .sl 2 (as_.map Au.avx), .sl 1 (sz.map AV.int)]]) 27 () (by kernel_rfl) (by kernel_rfl) rfl ?_; refine DE.q (fun e c hk => (.move (.t rfl))) rfl (fun _ _ => rfl) (.inr fun _ _ => rfl) (.q (fun e c hk => (.move (.t rfl))) rfl (fun _ _ => rfl) (.inr fun _ _ => rfl) (.q (fun e c hk => (.lensl (.t rfl) Tryz.underlying22)) rfl (fun _ _ => rfl) (.inr fun _ _ => rfl) ?_)); refine DE.q (av := fun _ => .bool true) (fun e c_ hk_ => Ev.as_ (.lti (.t rfl) (.t rfl)) (congrArg AV.bool (decide_eq_true (by omega)))) rfl (fun _ _ => rfl) (.inr fun _ _ => rfl) ?_; refine DE.q (fun e c hk => (.move (.t rfl))) rfl (fun _ _ => rfl) (.inr fun _ _ => rfl) (.qy rfl (fun _ => rfl) (fun e c hk => (.move (.t rfl))) rfl (fun _ _ => rfl) (.inr fun _ _ => rfl) (.qy rfl (fun _ => rfl) (fun e c hk => (.move (.t rfl))) rfl (fun _ _ => rfl) (.inr fun _ _ => rfl) (.qy rfl (fun _ => rfl) (fun e c hk => (.move (.t rfl))) rfl (fun _ _ => rfl) (.inr fun _ _ => rfl) (.qy rfl (fun _ => rfl) (fun e c hk => (.build ty81 st81 rfl (fun hg => rfl))) rfl (fun _ _ => rfl) (.inr fun _ _ => rfl) (.qy rfl (fun _ => rfl) (fun e c hk => (.move (.t rfl))) rfl (fun _ _ => rfl) (.inr fun _ _ => rfl) (.qy rfl (fun _ => rfl) (fun e c hk => (.nilc (.t rfl))) rfl (fun _ _ => rfl) (.inr fun _ _ => rfl) (.qy rfl (fun _ => rfl) (fun e c hk => (.fab (.t rfl) fa86_1)) rfl (fun _ _ => rfl) (.inr fun _ _ => rfl) (.qy rfl (fun _ => rfl) (fun e c hk => (.fab (.t rfl) fa62_0)) rfl (fun _ _ => rfl) (.inr fun _ _ => rfl) (.qy rfl (fun _ => rfl) (fun e c hk => (.ldb1 2 (.t rfl) rfl ag59 rfl)) rfl (fun _ _ => rfl) (.inr fun _ _ => rfl) (.qy rfl (fun _ => rfl) (fun e c hk => (.move (.t rfl))) rfl (fun _ _ => rfl) (.inr fun _ _ => rfl) ?_)))))))))); refine DE.qy rfl (fun _ => rfl) (fun e c_ hk_ => Ev.at (E := 22) (.t rfl) (.t rfl) Tryz.underlying59 ty22 (fun _ => ⟨by omega, hgr⟩) rfl rfl) rfl (fun _ _ => rfl) (.inr fun _ _ => rfl) ?_; refine DE.qy rfl (fun _ => rfl) (fun e c hk => (.lde1 (.t rfl) ag22)) rfl (fun _ _ => rfl) (.inr fun _ _ => rfl) (.qy rfl (fun _ => rfl) (fun e c hk => (.move (.t rfl))) rfl (fun _ _ => rfl) (.inr fun _ _ => rfl) (.qy rfl (fun _ => rfl) (fun e c hk => (.move (.t rfl))) rfl (fun _ _ => rfl) (.inr fun _ _ => rfl) ?_)); refine DE.qy rfl (fun _ => rfl) (fun e c_ hk_ => Ev.at (E := 3) (.t rfl) (.t rfl) Tryz.underlying22 ty3 (fun _ => ⟨by omega, hgq⟩) rfl rfl) rfl (fun _ _ => rfl) (.inr fun _ _ => rfl) ?_; refine DE.qy rfl (fun _ => rfl) (fun e c hk => (.lde1 (.t rfl) ag3)) rfl (fun _ _ => rfl) (.inr fun _ _ => rfl) ?_; refine DE.qy rfl (fun _ => rfl) (fun e c_ hk_ => Ev.at (E := 3) (.t rfl) (.t rfl) Tryz.underlying22 ty3 (fun _ => ⟨by omega, hgx⟩) rfl rfl) rfl (fun _ _ => rfl) (.inr fun _ _ => rfl) ?_; refine DE.qy rfl (fun _ => rfl) (fun e c hk => (.lde1 (.t rfl) ag3)) rfl (fun _ _ => rfl) (.inr fun _ _ => rfl) ?_
  refine DE.qy rfl (fun _ => rfl) (fun e c hk => (.move (.t rfl))) rfl (fun _ _ => rfl) (.inr fun _ _ => rfl) ?_; refine DE.qy (av := fun _ => .int ((k + 1 : Nat) : Int)) rfl (fun _ => rfl) (fun e c_ hk_ => Ev.as_ (.add (.t rfl) .k (fun _ => by omega)) (congrArg AV.int (by omega))) rfl (fun _ _ => rfl) (.inr fun _ _ => rfl) ?_; refine DE.callmy rfl (fun _ => rfl) (fun c => hG) (fun e c => ⟨_, (List.perm_middle (l₁ := [_, _]))⟩) (fun c => ⟨(.t rfl), (.t rfl), (.t rfl), (.t rfl), (.t rfl), (.t rfl), trivial⟩) rfl (fun _ _ => rfl) (.inr fun _ _ => rfl) ?_; refine DE.q (av := fun _ => .bool (Fit.goesB rows i k 0 0 to (k + 1))) (fun e c_ hk_ => Ev.as_ (.and (.t rfl) ⟨_, _, rfl, rfl, fun _ _ => rfl⟩) rfl) rfl (fun _ _ => rfl) (.inr fun _ _ => rfl) ?_; refine DE.nil (fun c_ e_ he_ => ?_)
  dsimp only
  refine W.h ?_; refine W.cond (.t rfl) (fun hc_t61 => ?_) (fun hc_t61 => ?_)
  ·have hgo : Fit.goesB rows i k 0 0 to (k + 1) = true := hc_t61
   have hml1 : w0.length < 2000000 := by have := hTr.inv_keep hkl (by rw [hkk, hto]; exact hgo); obtain ⟨_, _, _, e, _⟩ := this; omega
   obtain ⟨m2, w2, f2, rfl, rfl, rfl, hTr2⟩ := hTr.inv_keep hkl (by rw [hkk, hto]; exact hgo)
   rw [hkk] at hTr2 hwe
   rw [hto] at hTr2
   have hg2 := Fit.goesB_iff.1 hgo
   have htl2 := htl hg2.1
   refine W.s (.r (.mv rfl rfl (.mv rfl rfl (.mv rfl rfl ?_)))); refine W.q (.at (E := 3) (.t rfl) (.t rfl) Tryz.underlying22 ty3 (fun hg => ⟨by omega, hgq⟩) rfl rfl) rfl ?_; refine W.q (.lde1 (.t rfl) ag3) rfl ?_; refine W.bs (es := [_]) Tryz.underlying22 ty3 ⟨rfl, (.t rfl), rfl, rfl, trivial⟩ rfl (by decide) rfl rfl ?_; refine W.app 0 (.t rfl) rfl (.sl (.t rfl) (by ((simp [AV.okc, shV]; done)))) Tryz.underlying22 ni22 ty3 rfl rfl (by rw [List.length_map]; simp only [List.length_cons, List.length_nil]; omega) rfl ?_
   intro v68; refine W.q (.move (.t rfl)) rfl ?_; refine W.q (.move (.t rfl)) rfl ?_; refine W.bs (es := [_]) Tryz.underlying22 ty3 ⟨rfl, (.t rfl), rfl, rfl, trivial⟩ rfl (by decide) rfl rfl ?_
   refine W.app 1 (.t rfl) rfl (.sl (.t rfl) (by ((simp [AV.okc, shV]; done)))) Tryz.underlying22 ni22 ty3 rfl rfl (by rw [List.length_map]; simp only [List.length_cons, List.length_nil]; omega) rfl ?_
   intro v72; refine W.q (.assign (.t rfl)) rfl ?_; refine W.q (.assign (.t rfl)) rfl ?_; refine W.n ?_; refine W.h ?_; refine W.s ?_; refine W.drawn (by kernel_rfl) (by kernel_rfl) ?_; refine DP.q (.move (.t rfl)) rfl ?_; refine DP.q (.nilc (.t rfl)) rfl ?_
   refine DP.q (.fab (.t rfl) fa86_1) rfl (.q (.fab (.t rfl) fa62_0) rfl (.q (.ldb1 2 (.t rfl) rfl ag59 rfl) rfl (.q (.move (.t rfl)) rfl ?_))); refine DP.q (.at (E := 22) (.t rfl) (.t rfl) Tryz.underlying59 ty22 (fun hg => ⟨by omega, hgr⟩) rfl rfl) rfl ?_; refine DP.q (.lde1 (.t rfl) ag22) rfl (.q (.move (.t rfl)) rfl (.q (.move (.t rfl)) rfl ?_)); refine DP.q (.at (E := 3) (.t rfl) (.t rfl) Tryz.underlying22 ty3 (fun hg => ⟨by omega, hgq⟩) rfl rfl) rfl ?_; refine DP.q (.lde1 (.t rfl) ag3) rfl ?_; refine DP.q (.at (E := 3) (.t rfl) (.t rfl) Tryz.underlying22 ty3 (fun hg => ⟨by omega, hgx⟩) rfl rfl) rfl ?_; refine DP.q (.lde1 (.t rfl) ag3) rfl (.q (.assign (.t rfl)) rfl (.nil (.h (.s (.r (.mv rfl rfl (.q (.add (.t rfl) .k (fun _ => by omega)) rfl ?_)))))))
   refine W.q (.assign (.t rfl)) rfl ?_; refine W.n ?_; refine W.h ?_; refine W.ex ?_; refine W.he ?_; refine W.bh ?_; refine W.h ?_; refine W.is (t := 9) (av' := .int ((to.toNat : Nat) : Int)) rfl (congrArg AV.int (by have := hg2.1; omega)) ?_; refine W.is (t := 10) (av' := .int ((k + 1 : Nat) : Int)) rfl (congrArg AV.int (by omega)) ?_; refine W.reach (D := []) (k + 1, to.toNat, w0 ++ [kk], f0 ++ [(k : Int)], v68, v72) ⟨rfl, rfl, rfl, rfl, rfl, rfl, trivial⟩ (by dsimp only; rw [List.append_nil, List.map_append, List.map_append]; exact .refl _) ⟨⟨hkl, htl2, hg2.2.1, m2, w2, f2, hTr2, by rw [← hwe]; simp, by rw [← hfe]; simp, by show (w0 ++ [kk]).length + m2 ≤ _; rw [List.length_append, List.length_singleton]; omega, by show (f0 ++ [(k : Int)]).length = (w0 ++ [kk]).length; rw [List.length_append, List.length_append, List.length_singleton, List.length_singleton, hfl0]⟩, ?_⟩
   show (ks.length - (k + 1)) * 2 + (Fit.cel rows (k + 1) to.toNat).f.toNat + 0 * (w0 ++ [kk]).length < (ks.length - k) * 2 + (Fit.cel rows k i).f.toNat + 0 * w0.length
   have := hg2.2.2
   rw [Nat.zero_mul, Nat.zero_mul]
   omega
  ·have hgo : Fit.goesB rows i k 0 0 to (k + 1) = false := hc_t61
   have hng : ¬ (k < ks.length ∧ Fit.goesB rows i k 0 0 (Fit.tr A i (ks.getD k 0)) (k + 1) = true) := by rintro ⟨_, h⟩; rw [hkk, hto, hgo] at h; cases h
   refine W.k (.h (.s (.s (.r (.mv rfl rfl (.mv rfl rfl (.mv rfl rfl ?_))))))); refine W.call (WFGoes.c_filled b ts as_ sz A hsh hn hz hcol p ks hks rows ho i k hi hk) ⟨(.t rfl), (.t rfl), (.t rfl), trivial⟩ ((List.perm_append_comm (l₁ := [_, _]) (l₂ := [_, _]))) rfl ?_
   rintro _ _ ⟨rfl, rfl⟩
   refine W.perm (List.perm_append_comm (l₁ := [_, _]) (l₂ := [_, _])) ?_; refine W.q (.assign (.t rfl)) rfl ?_; refine W.n ?_; refine W.h ?_; refine W.s ?_; refine W.r ?_; refine W.q (.move (.t rfl)) rfl ?_; refine W.q (.gei (.t rfl) .k) rfl ?_; refine W.n ?_; refine W.h ?_; refine W.cond (.t rfl) (fun hc_t94 => ?_) (fun hc_t94 => ?_)
   ·have hfi : 0 ≤ Fit.fillI A sz rows i k := of_decide_eq_true hc_t94
    obtain ⟨n, hfn⟩ : ∃ n, Sch.firstN (Fit.fillP A sz rows i k) 8 0 = some n := by
     cases h : Sch.firstN (Fit.fillP A sz rows i k) 8 0 with
     | some n => exact ⟨n, rfl⟩
     | none => unfold Fit.fillI at hfi; rw [h] at hfi; simp at hfi
    have hI : Fit.fillI A sz rows i k = (n : Int) := by unfold Fit.fillI; rw [hfn]
    have hfp := Fit.firstN_some hfn
    have hg2 := Fit.fillP_iff.1 hfp.1
    have ht2 := Fit.tr_lt hsh hi hg2.1
    have hzl := hz.lo _ _ hg2.1
    have hbo := ho.b k hk _ ht2.1 hg2.2.1
    obtain ⟨m2, w2, f2, rfl, rfl, rfl, hTr2⟩ := hTr.inv_fill (by rw [hcs]; exact hns) hng hfn
    refine W.is (t := 11) (av' := .int (n : Int)) rfl (congrArg AV.int hI) ?_
    have hgn : (rw_.map AV.int)[((n : Int)).toNat]? = some (AV.int (Fit.tr A i n)) := by rw [Int.toNat_natCast, List.getElem?_map, htr, List.getD_eq_getElem?_getD, List.getElem?_eq_getElem (show n < rw_.length by omega)]; rfl
    refine W.s (.r (.mv rfl rfl (.mv rfl rfl ?_))); refine W.bs (es := [_]) Tryz.underlying22 ty3 ⟨rfl, (.t rfl), rfl, rfl, trivial⟩ rfl (by decide) rfl rfl ?_; refine W.app 0 (.t rfl) rfl (.sl (.t rfl) (by ((simp [AV.okc, shV]; done)))) Tryz.underlying22 ni22 ty3 rfl rfl (by rw [List.length_map]; simp only [List.length_cons, List.length_nil]; omega) rfl ?_
    intro v98; refine W.q (.move (.t rfl)) rfl ?_; refine W.bs (es := [_]) Tryz.underlying22 ty3 ⟨rfl, .k, rfl, rfl, trivial⟩ rfl (by decide) rfl rfl ?_
    refine W.app 1 (.t rfl) rfl (.sl (.t rfl) (by ((simp [AV.okc, shV]; done)))) Tryz.underlying22 ni22 ty3 rfl rfl (by rw [List.length_map]; simp only [List.length_cons, List.length_nil]; omega) rfl ?_
    intro v101; refine W.q (.assign (.t rfl)) rfl ?_; refine W.q (.assign (.t rfl)) rfl ?_; refine W.n ?_; refine W.h ?_; refine W.s ?_; refine W.r ?_; refine W.q (.move (.t rfl)) rfl ?_; refine W.q (.nilc (.t rfl)) rfl ?_
    refine W.q (.fab (.t rfl) fa86_1) rfl (.q (.fab (.t rfl) fa62_0) rfl (.q (.ldb1 2 (.t rfl) rfl ag59 rfl) rfl (.mv rfl rfl ?_))); refine W.q (.at (E := 22) (.t rfl) (.t rfl) Tryz.underlying59 ty22 (fun hg => ⟨by omega, hgr⟩) rfl rfl) rfl ?_; refine W.q (.lde1 (.t rfl) ag22) rfl (.mv rfl rfl ?_); refine W.q (.at (E := 3) (.t rfl) (.t rfl) Tryz.underlying22 ty3 (fun hg => ⟨by omega, hgn⟩) rfl rfl) rfl ?_; refine W.q (.lde1 (.t rfl) ag3) rfl ?_
    refine W.q (.assign (.t rfl)) rfl ?_; refine W.n ?_; refine W.h ?_; refine W.ex ?_; refine W.he ?_; refine W.bh ?_; refine W.h ?_; refine W.is (t := 9) (av' := .int (((Fit.tr A i n).toNat : Nat) : Int)) rfl (congrArg AV.int (by have := hg2.1; omega)) ?_; refine W.reach (D := []) (k, (Fit.tr A i n).toNat, w0 ++ [n], f0 ++ [(-1 : Int)], v98, v101) ⟨rfl, rfl, rfl, rfl, rfl, rfl, trivial⟩ (by dsimp only; rw [List.append_nil, List.map_append, List.map_append]; exact .refl _) ⟨⟨hk, ht2.1, hg2.2.1, m2, w2, f2, hTr2, by rw [← hwe]; simp, by rw [← hfe]; simp, by show (w0 ++ [n]).length + m2 ≤ _; rw [List.length_append, List.length_singleton]; omega, by show (f0 ++ [(-1 : Int)]).length = (w0 ++ [n]).length; rw [List.length_append, List.length_append, List.length_singleton, List.length_singleton, hfl0]⟩, ?_⟩
    show (ks.length - k) * 2 + (Fit.cel rows k (Fit.tr A i n).toNat).f.toNat + 0 * (w0 ++ [n]).length < (ks.length - k) * 2 + (Fit.cel rows k i).f.toNat + 0 * w0.length
    have e : (Fit.cel rows k (Fit.tr A i n).toNat).f = ((rows.getD k []).getD (Fit.tr A i n).toNat Fit.cz).f := rfl
    have := hg2.2.2
    rw [Nat.zero_mul, Nat.zero_mul]
    omega
   ·have hfi : ¬ 0 ≤ Fit.fillI A sz rows i k := of_decide_eq_false hc_t94
    have hfn : Sch.firstN (Fit.fillP A sz rows i k) 8 0 = none := by
     cases h : Sch.firstN (Fit.fillP A sz rows i k) 8 0 with
     | some n => unfold Fit.fillI at hfi; rw [h] at hfi; exact absurd (Int.natCast_nonneg n) hfi
     | none => rfl
    obtain ⟨hkl2, hok2, m2, rfl, hTr2⟩ := hTr.inv_drop (by rw [hcs]; exact hns) hng hfn
    have hdc := ho.drop_f hsh hk hi hok (by rw [hcs]; exact hns) hng hfn
    refine W.k (.h (.r (.mv rfl rfl (.q (.add (.t rfl) .k (fun _ => by omega)) rfl ?_))))
    refine W.q (.assign (.t rfl)) rfl ?_; refine W.n ?_; refine W.bn ?_; refine W.h ?_; refine W.is (t := 10) (av' := .int ((k + 1 : Nat) : Int)) rfl (congrArg AV.int (by omega)) ?_; refine W.reach (D := []) (k + 1, i, w0, f0, vw, vf) ⟨rfl, rfl, rfl, rfl, rfl, rfl, trivial⟩ (.refl _) ⟨⟨hkl2, hi, hok2, m2, wr, frr, hTr2, hwe, hfe, by show w0.length + m2 ≤ _; omega, hfl0⟩, ?_⟩
    show (ks.length - (k + 1)) * 2 + (Fit.cel rows (k + 1) i).f.toNat + 0 * w0.length < (ks.length - k) * 2 + (Fit.cel rows k i).f.toNat + 0 * w0.length
    rw [hdc]
    omega
 ·have hng : ¬ (k < ks.length ∧ Fit.goesB rows i k 0 0 (Fit.tr A i (ks.getD k 0)) (k + 1) = true) := fun h => by omega
  refine W.s (.s (.r (.mv rfl rfl (.q (.nilc (.t rfl)) rfl (.q (.fab (.t rfl) fa86_3) rfl (.q (.ldb1 2 (.t rfl) rfl ag84 rfl) rfl (.mv rfl rfl ?_))))))); refine W.q (.at (E := 83) (.t rfl) (.t rfl) Tryz.underlying84 ty83 (fun hg => ⟨by omega, hgk⟩) rfl rfl) rfl ?_; refine W.q (.lde1 (.t rfl) ag83) rfl (.mv rfl rfl ?_); refine W.q (.at (E := 82) (.t rfl) (.t rfl) Tryz.underlying83 ty82 (fun hg => ⟨by omega, hgs⟩) rfl rfl) rfl ?_; refine W.q (.fae (.t rfl) fa82_0 rfl) rfl (.q (.lden (.t rfl) ag81 ty81 rfl rfl) rfl (.q (.build ty81 st81 rfl (fun hg => rfl)) rfl (.q (.nei2 int2 (.t rfl) (.t rfl)) rfl (.mv rfl rfl (.qgF rfl rfl (.move (.t rfl)) rfl (.qgF rfl rfl (.move (.t rfl)) rfl (.qgF rfl rfl (.lensl (.c rfl) Tryz.underlying22) rfl (.qgF rfl rfl (.lti (.c rfl) (.c rfl)) rfl ?_)))))))); refine W.q (.or (.t rfl) ⟨_, _, rfl, rfl, by ((simp; done))⟩) rfl ?_; refine W.n (.h ?_); refine W.isb 34 true rfl (by rw [Bool.or_eq_true]; left; cases h1 : (cs.d == 0 && cs.f == 0); rfl; simp at h1; exact absurd ⟨h1.1, h1.2, hke⟩ hns) ?_; refine W.condT (.t rfl) (.k (.h (.b (.s (.s ?_))))); refine W.drawnE (ι := Unit) (fun _ _ => [.arr vw 3 1 (w0.map fun k : Nat => AV.int (k : Int)), .arr vf 3 1 (f0.map AV.int), .box p 86 [.lit (.pointer (some ⟨b, 0, none⟩)), .sl 1 (A.next.map pav), .sl 1 (A.final.map AV.bool), .sl 1 (ks.map fun k : Nat => AV.int (k : Int)), .sl 1 (rows.map Fit.rowv)], .box b 76 [.sl 3 (ts.map tpv), .sl 2 (as_.map Au.avx), .sl 1 (sz.map AV.int)]]) 27 () (by kernel_rfl) (by kernel_rfl) rfl ?_; refine DE.q (fun e c hk => (.move (.t rfl))) rfl (fun _ _ => rfl) (.inr fun _ _ => rfl) (.q (fun e c hk => (.move (.t rfl))) rfl (fun _ _ => rfl) (.inr fun _ _ => rfl) (.q (fun e c hk => (.lensl (.t rfl) Tryz.underlying22)) rfl (fun _ _ => rfl) (.inr fun _ _ => rfl) ?_))
  refine DE.q (av := fun _ => .bool false) (fun e c_ hk_ => Ev.as_ (.lti (.t rfl) (.t rfl)) (congrArg AV.bool (decide_eq_false (by omega)))) rfl (fun _ _ => rfl) (.inr fun _ _ => rfl) ?_; refine DE.q (fun e c hk => (.move (.t rfl))) rfl (fun _ _ => rfl) (.inr fun _ _ => rfl) ?_; refine DE.skipg rfl (fun _ => rfl) rfl rfl (fun _ _ => rfl) ?_; refine DE.skipg rfl (fun _ => rfl) rfl rfl (fun _ _ => rfl) ?_; refine DE.skipg rfl (fun _ => rfl) rfl rfl (fun _ _ => rfl) ?_; refine DE.skipg rfl (fun _ => rfl) rfl rfl (fun _ _ => rfl) ?_; refine DE.skipg rfl (fun _ => rfl) rfl rfl (fun _ _ => rfl) ?_; refine DE.skipg rfl (fun _ => rfl) rfl rfl (fun _ _ => rfl) ?_; refine DE.skipg rfl (fun _ => rfl) rfl rfl (fun _ _ => rfl) ?_; refine DE.skipg rfl (fun _ => rfl) rfl rfl (fun _ _ => rfl) ?_; refine DE.skipg rfl (fun _ => rfl) rfl rfl (fun _ _ => rfl) ?_; refine DE.skipg rfl (fun _ => rfl) rfl rfl (fun _ _ => rfl) ?_; refine DE.skipg rfl (fun _ => rfl) rfl rfl (fun _ _ => rfl) ?_; refine DE.skipg rfl (fun _ => rfl) rfl rfl (fun _ _ => rfl) ?_; refine DE.skipg rfl (fun _ => rfl) rfl rfl (fun _ _ => rfl) ?_; refine DE.skipg rfl (fun _ => rfl) rfl rfl (fun _ _ => rfl) ?_; refine DE.skipg rfl (fun _ => rfl) rfl rfl (fun _ _ => rfl) ?_; refine DE.skipg rfl (fun _ => rfl) rfl rfl (fun _ _ => rfl) ?_; refine DE.skipg rfl (fun _ => rfl) rfl rfl (fun _ _ => rfl) ?_; refine DE.skipg rfl (fun _ => rfl) rfl rfl (fun _ _ => rfl) ?_; refine DE.skipg rfl (fun _ => rfl) rfl rfl (fun _ _ => rfl) ?_; refine DE.skipg rfl (fun _ => rfl) rfl rfl (fun _ _ => rfl) ?_; refine DE.skipg rfl (fun _ => rfl) rfl rfl (fun _ _ => rfl) ?_; refine DE.q (fun e c_ hk_ => Ev.andF (.t rfl)) rfl (fun _ _ => rfl) (.inr fun _ _ => rfl) ?_; refine DE.nil (fun c_ e_ he_ => ?_)
  dsimp only
  refine W.h (.condF (.t rfl) (.k (.h (.s (.s (.r (.mv rfl rfl (.mv rfl rfl (.mv rfl rfl ?_))))))))); refine W.call (WFGoes.c_filled b ts as_ sz A hsh hn hz hcol p ks hks rows ho i k hi hk) ⟨(.t rfl), (.t rfl), (.t rfl), trivial⟩ ((List.perm_append_comm (l₁ := [_, _]) (l₂ := [_, _]))) rfl ?_
  rintro _ _ ⟨rfl, rfl⟩
  refine W.perm (List.perm_append_comm (l₁ := [_, _]) (l₂ := [_, _])) ?_; refine W.q (.assign (.t rfl)) rfl ?_; refine W.n ?_; refine W.h ?_; refine W.s ?_; refine W.r ?_; refine W.q (.move (.t rfl)) rfl ?_; refine W.q (.gei (.t rfl) .k) rfl ?_; refine W.n ?_; refine W.h ?_; refine W.cond (.t rfl) (fun hc_t94 => ?_) (fun hc_t94 => ?_)
  ·have hfi : 0 ≤ Fit.fillI A sz rows i k := of_decide_eq_true hc_t94
   obtain ⟨n, hfn⟩ : ∃ n, Sch.firstN (Fit.fillP A sz rows i k) 8 0 = some n := by
    cases h : Sch.firstN (Fit.fillP A sz rows i k) 8 0 with
    | some n => exact ⟨n, rfl⟩
    | none => unfold Fit.fillI at hfi; rw [h] at hfi; simp at hfi
   have hI : Fit.fillI A sz rows i k = (n : Int) := by unfold Fit.fillI; rw [hfn]
   have hfp := Fit.firstN_some hfn
   have hg2 := Fit.fillP_iff.1 hfp.1
   have ht2 := Fit.tr_lt hsh hi hg2.1
   have hzl := hz.lo _ _ hg2.1
   have hbo := ho.b k hk _ ht2.1 hg2.2.1
   obtain ⟨m2, w2, f2, rfl, rfl, rfl, hTr2⟩ := hTr.inv_fill (by rw [hcs]; exact hns) hng hfn
   refine W.is (t := 11) (av' := .int (n : Int)) rfl (congrArg AV.int hI) ?_
   have hgn : (rw_.map AV.int)[((n : Int)).toNat]? = some (AV.int (Fit.tr A i n)) := by rw [Int.toNat_natCast, List.getElem?_map, htr, List.getD_eq_getElem?_getD, List.getElem?_eq_getElem (show n < rw_.length by omega)]; rfl
   refine W.s (.r (.mv rfl rfl (.mv rfl rfl ?_))); refine W.bs (es := [_]) Tryz.underlying22 ty3 ⟨rfl, (.t rfl), rfl, rfl, trivial⟩ rfl (by decide) rfl rfl ?_; refine W.app 0 (.t rfl) rfl (.sl (.t rfl) (by ((simp [AV.okc, shV]; done)))) Tryz.underlying22 ni22 ty3 rfl rfl (by rw [List.length_map]; simp only [List.length_cons, List.length_nil]; omega) rfl ?_
   intro v98; refine W.q (.move (.t rfl)) rfl ?_; refine W.bs (es := [_]) Tryz.underlying22 ty3 ⟨rfl, .k, rfl, rfl, trivial⟩ rfl (by decide) rfl rfl ?_
   refine W.app 1 (.t rfl) rfl (.sl (.t rfl) (by ((simp [AV.okc, shV]; done)))) Tryz.underlying22 ni22 ty3 rfl rfl (by rw [List.length_map]; simp only [List.length_cons, List.length_nil]; omega) rfl ?_
   intro v101; refine W.q (.assign (.t rfl)) rfl ?_; refine W.q (.assign (.t rfl)) rfl ?_; refine W.n ?_; refine W.h ?_; refine W.s ?_; refine W.r ?_; refine W.q (.move (.t rfl)) rfl ?_; refine W.q (.nilc (.t rfl)) rfl ?_
   refine W.q (.fab (.t rfl) fa86_1) rfl (.q (.fab (.t rfl) fa62_0) rfl (.q (.ldb1 2 (.t rfl) rfl ag59 rfl) rfl (.mv rfl rfl ?_))); refine W.q (.at (E := 22) (.t rfl) (.t rfl) Tryz.underlying59 ty22 (fun hg => ⟨by omega, hgr⟩) rfl rfl) rfl ?_; refine W.q (.lde1 (.t rfl) ag22) rfl (.mv rfl rfl ?_); refine W.q (.at (E := 3) (.t rfl) (.t rfl) Tryz.underlying22 ty3 (fun hg => ⟨by omega, hgn⟩) rfl rfl) rfl ?_; refine W.q (.lde1 (.t rfl) ag3) rfl ?_
   refine W.q (.assign (.t rfl)) rfl ?_; refine W.n ?_; refine W.h ?_; refine W.ex ?_; refine W.he ?_; refine W.bh ?_; refine W.h ?_; refine W.is (t := 9) (av' := .int (((Fit.tr A i n).toNat : Nat) : Int)) rfl (congrArg AV.int (by have := hg2.1; omega)) ?_; refine W.reach (D := []) (k, (Fit.tr A i n).toNat, w0 ++ [n], f0 ++ [(-1 : Int)], v98, v101) ⟨rfl, rfl, rfl, rfl, rfl, rfl, trivial⟩ (by dsimp only; rw [List.append_nil, List.map_append, List.map_append]; exact .refl _) ⟨⟨hk, ht2.1, hg2.2.1, m2, w2, f2, hTr2, by rw [← hwe]; simp, by rw [← hfe]; simp, by show (w0 ++ [n]).length + m2 ≤ _; rw [List.length_append, List.length_singleton]; omega, by show (f0 ++ [(-1 : Int)]).length = (w0 ++ [n]).length; rw [List.length_append, List.length_append, List.length_singleton, List.length_singleton, hfl0]⟩, ?_⟩
   show (ks.length - k) * 2 + (Fit.cel rows k (Fit.tr A i n).toNat).f.toNat + 0 * (w0 ++ [n]).length < (ks.length - k) * 2 + (Fit.cel rows k i).f.toNat + 0 * w0.length
   have e : (Fit.cel rows k (Fit.tr A i n).toNat).f = ((rows.getD k []).getD (Fit.tr A i n).toNat Fit.cz).f := rfl
   have := hg2.2.2
   rw [Nat.zero_mul, Nat.zero_mul]
   omega
  ·have hfi : ¬ 0 ≤ Fit.fillI A sz rows i k := of_decide_eq_false hc_t94
   have hfn : Sch.firstN (Fit.fillP A sz rows i k) 8 0 = none := by
    cases h : Sch.firstN (Fit.fillP A sz rows i k) 8 0 with
    | some n => unfold Fit.fillI at hfi; rw [h] at hfi; exact absurd (Int.natCast_nonneg n) hfi
    | none => rfl
   obtain ⟨hkl2, hok2, m2, rfl, hTr2⟩ := hTr.inv_drop (by rw [hcs]; exact hns) hng hfn
   have hdc := ho.drop_f hsh hk hi hok (by rw [hcs]; exact hns) hng hfn
   refine W.k (.h (.r (.mv rfl rfl (.q (.add (.t rfl) .k (fun _ => by omega)) rfl ?_))))
   refine W.q (.assign (.t rfl)) rfl ?_; refine W.n ?_; refine W.bn ?_; refine W.h ?_; refine W.is (t := 10) (av' := .int ((k + 1 : Nat) : Int)) rfl (congrArg AV.int (by omega)) ?_; refine W.reach (D := []) (k + 1, i, w0, f0, vw, vf) ⟨rfl, rfl, rfl, rfl, rfl, rfl, trivial⟩ (.refl _) ⟨⟨hkl2, hi, hok2, m2, wr, frr, hTr2, hwe, hfe, by show w0.length + m2 ≤ _; omega, hfl0⟩, ?_⟩
   show (ks.length - (k + 1)) * 2 + (Fit.cel rows (k + 1) i).f.toNat + 0 * w0.length < (ks.length - k) * 2 + (Fit.cel rows k i).f.toNat + 0 * w0.length
   rw [hdc]
   omega
end WFBest
end Go.Proofs.YtphlkdbglpcikaaGreatDoor
end
section
namespace Go.Proofs.YtphlkdbglpcikaaGreatDoor
open Go.Vl
open Y
namespace WFit
theorem c_fault1 (ts : List Tp) (k : Int) (b3 : Nat) : FnC Tryz.prog 57 [.int k, .lit (.pointer (some ⟨b3, 0, none⟩))] [.box b3 23 [.sl 3 (ts.map tpv)]] (fun r M => r = .bool (decide (k < 0) || decide ((ts.length : Int) ≤ k)) ∧ M = [.box b3 23 [.sl 3 (ts.map tpv)]]) :=  by
 refine FnC.mk Tryz.func57 (by kernel_rfl) rfl Tryz.ntmps57 rfl (fun w0 F => ?_)
 refine W.s (.r (.q (.assign .k) rfl (.n (.h (.s (.r (.mv rfl rfl (.q (.lti (.t rfl) .k) rfl (.mv rfl rfl (.qgF rfl rfl (.move (.t rfl)) rfl (.qgF rfl rfl (.ldb1 0 (.t rfl) rfl ag23 rfl) rfl (.qgF rfl rfl (.lensl (.c rfl) Tryz.underlying23) rfl (.qgF rfl rfl (.gei (.c rfl) (.c rfl)) rfl ?_))))))))))))); refine W.q (.or (.t rfl) ⟨_, _, rfl, rfl, by ((simp; done))⟩) rfl ?_; refine W.asg rfl rfl (.n (.h ?_)); refine W.ret ?_; refine W.retn (M' := [.box b3 23 [.sl 3 (ts.map tpv)]]) (D := []) (rs := [.tmp 3]) (avs := [_]) Tryz.results57 ⟨rfl, trivial⟩ rfl (.refl _) ?_
 exact ⟨congrArg AV.bool (by rw [List.length_map]), rfl⟩
theorem c_fault (ts : List Tp) (as_ : List Au) (hg : Sch.Good ts as_) (fin : List Int) (hfin : Sch.sizesOf ts as_ = some fin) (hall : (fin.any fun n => n == 0 || decide (150 < n)) = false) (M0 : List ME) (hI : ∀ n : Int, -1 ≤ n → n < 100 → FnC Tryz.prog 107 [.int n] M0 (fun r M => r = .str (itoa n) ∧ M = M0)) (t : Nat) (ht : t < ts.length) (hnm : (ts.getD t Sch.dT).name ≠ []) (ks : List Nat) (hks : ks.length ≤ 40) (hkt : ∀ k ∈ ks, k < ts.length) : FnC Tryz.prog 32 [.sl 3 (ts.map tpv), .int (t : Int), .sl 1 (ks.map fun k : Nat => AV.int (k : Int))] M0 (fun r M => ∃ b, r = .tup [.lit (.pointer (some ⟨b, 0, none⟩)), .int 0] ∧ M = .box b 76 [.sl 3 (ts.map tpv), .sl 2 (as_.map Au.avx), .sl 1 (fin.map AV.int)] :: M0) :=  by
 refine FnC.mk Tryz.func32 (by kernel_rfl) rfl Tryz.ntmps32 rfl (fun w0 F => ?_)
 have hnl : (ts.map tpv).length = ts.length := List.length_map ..
 have hlen7 : (ks.map fun k : Nat => AV.int (k : Int)).length = ks.length := List.length_map ..
 have hgt := getD_mapG tpv Sch.dT ts t ht
 have hne : ((ts.getD t Sch.dT).name == []) = false := beq_eq_false_iff_ne.2 hnm
 have hany : ((ks.map fun k : Nat => (k : Int)).any fun k => decide (k < 0) || decide ((ts.length : Int) ≤ k)) = false := by
  rw [List.any_eq_false]
  intro k hk
  obtain ⟨q, hq, rfl⟩ := List.mem_map.1 hk
  have := hkt q hq
  simp; omega
 refine W.s ?_; refine W.r ?_; refine W.box (.t rfl) rfl rfl ?_; intro b3; refine W.q (.assign .k) rfl ?_; refine W.q (.assign .k) rfl ?_; refine W.n ?_; refine W.h ?_; refine W.s ?_; refine W.r ?_
 refine W.q (.ldb1 0 (.t rfl) rfl ag23 rfl) rfl ?_; refine W.call (WNew.c_New ts as_ hg fin hfin hall M0 hI) ⟨(.t rfl), trivial⟩ ((List.perm_append_comm (l₁ := [_]))) rfl ?_
 rintro _ M' ⟨b9, rfl, hM'⟩
 rw [hM']
 refine W.perm (M' := .box b3 23 [.sl 3 (ts.map tpv)] :: .box b9 76 [.sl 3 (ts.map tpv), .sl 2 (as_.map Au.avx), .sl 1 (fin.map AV.int)] :: M0) (List.perm_append_comm (l₂ := [_])) ?_; refine W.mv rfl rfl (.q (.extract (.t rfl) rfl) rfl (.q (.extract (.t rfl) rfl) rfl (.asg rfl rfl (.asg rfl rfl (.n (.h (.s (.b (.s (.r (.mv rfl rfl (.q (.nei (.t rfl) .k) rfl (.asg rfl rfl (.n (.h (.isb 15 false rfl (by rfl) (.condF (.t rfl) (.s (.r (.mv rfl rfl (.q (.lensl (.t rfl) Tryz.underlying22) rfl (.q (.gti (.t rfl) .k) rfl (.asg rfl rfl ?_))))))))))))))))))))))); refine W.n (.h ?_); refine W.isb 19 false rfl (by exact decide_eq_false (by omega)) ?_; refine W.condF (.t rfl) (.s (.r (.mv rfl rfl (.q (.lti (.t rfl) .k) rfl (.mv rfl rfl (.qgF rfl rfl (.move (.t rfl)) rfl (.qgF rfl rfl (.ldb1 0 (.t rfl) rfl ag23 rfl) rfl (.qgF rfl rfl (.lensl (.c rfl) Tryz.underlying23) rfl (.qgF rfl rfl (.gei (.c rfl) (.c rfl)) rfl ?_))))))))); refine W.q (.or (.t rfl) ⟨_, _, rfl, rfl, by ((simp; done))⟩) rfl ?_; refine W.mv rfl rfl (.qgF rfl rfl (.ldb1 0 (.t rfl) rfl ag23 rfl) rfl (.qgF rfl rfl (.move (.t rfl)) rfl ?_)); refine W.qgF rfl rfl (.at (E := 28) (.c rfl) (.c rfl) Tryz.underlying23 ty28 (fun hg => ⟨by omega, hgt⟩) rfl rfl) rfl ?_; refine W.qgF rfl rfl (.fae (.c rfl) fa28_0 rfl) rfl (.qgF rfl rfl (.lde1 (.c rfl) ag9) rfl (.qgF rfl rfl (.eqs (.c rfl) .k) rfl ?_)); refine W.q (.or (.t rfl) ⟨_, _, rfl, rfl, by ((simp; done))⟩) rfl ?_; refine W.asg rfl rfl (.n (.h ?_)); refine W.isb 23 false rfl (by rw [hne]; simp; omega) ?_; refine W.condF (.t rfl) (.s (.r (.mv rfl rfl ?_))); refine W.is (t := 41) (av' := .sl 1 ((ks.map fun k : Nat => (k : Int)).map AV.int)) rfl (congrArg (AV.sl 1) (by rw [List.map_map]; rfl)) ?_; refine W.q (.mkfn (caps := [.tmp 3]) (vs := [_]) ⟨(.t rfl), trivial⟩) rfl ?_; refine W.call (WConts.c_ContainsFuncI (ks.map fun k : Nat => (k : Int)) 57 [.pointer (some ⟨b3, 0, none⟩)] [.box b3 23 [.sl 3 (ts.map tpv)]] (fun k => decide (k < 0) || decide ((ts.length : Int) ≤ k)) (fun k _ => c_fault1 ts k b3) (by rw [List.length_map]; omega)) ⟨(.t rfl), (.t rfl), trivial⟩ (.refl _) rfl ?_
 rintro _ _ ⟨rfl, rfl⟩
 refine W.asg rfl rfl (.n (.h ?_)); refine W.isb 40 false rfl (by exact hany) ?_; refine W.condF (.t rfl) (.k (.bn (.h (.s (.r (.mv rfl rfl (.asg rfl rfl (.q (.assign .k) rfl (.n (.h ?_)))))))))); refine W.ret ?_; refine W.retn (M' := (.box b9 76 [.sl 3 (ts.map tpv), .sl 2 (as_.map Au.avx), .sl 1 (fin.map AV.int)] :: M0)) (D := [_]) (rs := [.tmp 6, .tmp 7]) (avs := [_, _]) Tryz.results32 ⟨rfl, rfl, trivial⟩ rfl (List.perm_append_comm (l₁ := [_])) ?_
 exact ⟨b9, rfl, rfl⟩
theorem c_Cost (ts : List Tp) (as_ : List Au) (hg : Sch.Good ts as_) (fin : List Int) (hfin : Sch.sizesOf ts as_ = some fin) (hall : (fin.any fun n => n == 0 || decide (150 < n)) = false) (hpos : ∀ n ∈ fin, 1 ≤ n ∧ n ≤ 150) (M0 : List ME) (hI : ∀ n : Int, -1 ≤ n → n < 100 → FnC Tryz.prog 107 [.int n] M0 (fun r M => r = .str (itoa n) ∧ M = M0)) (t : Nat) (ht : t < ts.length) (hnm : (ts.getD t Sch.dT).name ≠ []) (ks : List Nat) (hks : ks.length ≤ 40) (hkt : ∀ k ∈ ks, k < ts.length) : FnC Tryz.prog 19 [.sl 3 (ts.map tpv), .int (t : Int), .sl 1 (ks.map fun k : Nat => AV.int (k : Int))] M0 (fun r M => (∃ rows, Fit.Opt (as_.getD t Sch.dA) fin ks rows ∧ r = .tup [.int (Fit.cel rows 0 0).d, .int (Fit.cel rows 0 0).f, .int 0]) ∧ M = M0) :=  by
 refine FnC.mk Tryz.func19 (by kernel_rfl) rfl Tryz.ntmps19 rfl (fun w0 F => ?_)
 have hlen8 := hg.len
 have hsl : fin.length = ts.length := by
  have := Sch.mso_len 10 _ _ hfin
  rwa [List.length_replicate] at this
 have gf := Fit.gf_of hg hsl hpos ht
 have hk8 : ∀ k ∈ ks, k < 8 := fun k hk => by have := hkt k hk; omega
 have hF := c_fault ts as_ hg fin hfin hall M0 hI t ht hnm ks hks hkt
 refine W.s (.r (.q (.assign .k) rfl (.q (.assign .k) rfl (.q (.assign .k) rfl (.n (.h (.s (.r (.mv rfl rfl (.mv rfl rfl (.mv rfl rfl ?_))))))))))); refine W.call (hF) ⟨(.t rfl), (.t rfl), (.t rfl), trivial⟩ ((by ((rw [List.append_nil]; done)))) rfl ?_
 rintro _ M' ⟨b, rfl, hM'⟩
 rw [hM', List.append_nil]
 refine W.mv rfl rfl (.q (.extract (.t rfl) rfl) rfl (.q (.extract (.t rfl) rfl) rfl (.asg rfl rfl (.asg rfl rfl (.n (.h (.s (.s (.r (.mv rfl rfl (.q (.nei (.t rfl) .k) rfl (.n (.h (.isb 19 false rfl (by rfl) (.condF (.t rfl) (.k (.h (.s (.r (.mv rfl rfl (.mv rfl rfl (.mv rfl rfl ?_)))))))))))))))))))))); refine W.call (WFPlan.c_plan b ts as_ fin (as_.getD t Sch.dA) gf.sh gf.n32 gf.sz gf.col t gf.at_ ks (by omega) hk8) ⟨(.t rfl), (.t rfl), (.t rfl), trivial⟩ (.refl _) rfl ?_
 rintro _ _ ⟨p, rows, ho, rfl, rfl⟩
 have hrl := ho.len
 have hg0 := getD_mapG Fit.rowv [] rows 0 (by omega)
 have hr0 := ho.row 0 (Nat.zero_le _)
 have hps := gf.sh.pos
 have hg1 : ((rows.getD 0 []).map Fit.ctv)[0]? = some (Fit.ctv (Fit.cel rows 0 0)) := Fit.getD_ctv _ 0 (by omega)
 have hrl0 : (rows.map Fit.rowv).length = rows.length := List.length_map ..
 have hr1 : ((rows.getD 0 []).map Fit.ctv).length = (rows.getD 0 []).length := List.length_map ..
 refine W.q (.nilc (.t rfl)) rfl (.q (.fab (.t rfl) fa86_3) rfl (.q (.ldb1 0 (.t rfl) rfl ag84 rfl) rfl ?_)); refine W.q (.at (E := 83) (.t rfl) .k Tryz.underlying84 ty83 (fun hg => ⟨by omega, hg0⟩) rfl rfl) rfl ?_; refine W.q (.lde1 (.t rfl) ag83) rfl ?_; refine W.q (.at (E := 82) (.t rfl) .k Tryz.underlying83 ty82 (fun hg => ⟨by omega, hg1⟩) rfl rfl) rfl ?_; refine W.q (.lden (.t rfl) ag82 ty82 rfl rfl) rfl ?_
 refine W.alloc ty82 rfl rfl ?_; intro b10
 refine W.stb 0 (.t rfl) (.t rfl) rfl ty82 rfl rfl rfl (.n (.h (.s ?_))); refine W.drawnE (ι := Unit) (fun _ _ => _) 9 () (by kernel_rfl) (by kernel_rfl) rfl ?_; refine DE.q (fun e c hk => (.fab (.t rfl) fa82_0)) rfl (fun _ _ => rfl) (.inr fun _ _ => rfl) (.q (fun e c hk => (.fab (.t rfl) fa81_0)) rfl (fun _ _ => rfl) (.inr fun _ _ => rfl) (.q (fun e c hk => (.ldb1 0 (.t rfl) rfl ag3 rfl)) rfl (fun _ _ => rfl) (.inr fun _ _ => rfl) (.q (fun e c hk => (.fab (.t rfl) fa82_0)) rfl (fun _ _ => rfl) (.inr fun _ _ => rfl) (.q (fun e c hk => (.fab (.t rfl) fa81_1)) rfl (fun _ _ => rfl) (.inr fun _ _ => rfl) (.q (fun e c hk => (.ldb1 0 (.t rfl) rfl ag3 rfl)) rfl (fun _ _ => rfl) (.inr fun _ _ => rfl) ?_)))))
 refine DE.q (fun e c hk => (.assign (.t rfl))) rfl (fun _ _ => rfl) (.inr fun _ _ => rfl) ?_; refine DE.q (fun e c hk => (.assign (.t rfl))) rfl (fun _ _ => rfl) (.inr fun _ _ => rfl) ?_; refine DE.q (fun e c hk => (.assign .k)) rfl (fun _ _ => rfl) (.inr fun _ _ => rfl) ?_; refine DE.nil (fun c_ e_ he_ => ?_)
 dsimp only
 refine W.h ?_; refine W.ret ?_; refine W.retn (M' := M0) (D := [_, _, _]) (rs := [.tmp 6, .tmp 7, .tmp 8]) (avs := [_, _, _]) Tryz.results19 ⟨rfl, rfl, rfl, trivial⟩ rfl (List.perm_append_comm (l₁ := [_, _, _])) ?_
 exact ⟨⟨rows, ho, rfl⟩, rfl⟩
theorem c_Fit (ts : List Tp) (as_ : List Au) (hg : Sch.Good ts as_) (fin : List Int) (hfin : Sch.sizesOf ts as_ = some fin) (hall : (fin.any fun n => n == 0 || decide (150 < n)) = false) (hpos : ∀ n ∈ fin, 1 ≤ n ∧ n ≤ 150) (M0 : List ME) (hI : ∀ n : Int, -1 ≤ n → n < 100 → FnC Tryz.prog 107 [.int n] M0 (fun r M => r = .str (itoa n) ∧ M = M0)) (t : Nat) (ht : t < ts.length) (hnm : (ts.getD t Sch.dT).name ≠ []) (ks : List Nat) (hks : ks.length ≤ 40) (hkt : ∀ k ∈ ks, k < ts.length) (hex : ∃ d f, Fit.Al (as_.getD t Sch.dA) fin 0 ks d f) : FnC Tryz.prog 22 [.sl 3 (ts.map tpv), .int (t : Int), .sl 1 (ks.map fun k : Nat => AV.int (k : Int))] M0 (fun r M => (∃ rows m w fr, Fit.Opt (as_.getD t Sch.dA) fin ks rows ∧ Fit.Tr (as_.getD t Sch.dA) fin ks rows m 0 0 w fr ∧ r = .tup [.sl 1 (w.map fun k : Nat => AV.int (k : Int)), .sl 1 (fr.map AV.int), .int 0]) ∧ M = M0) :=  by
 refine FnC.mk Tryz.func22 (by kernel_rfl) rfl Tryz.ntmps22 rfl (fun w0 F => ?_)
 have hlen8 := hg.len
 have hsl : fin.length = ts.length := by
  have := Sch.mso_len 10 _ _ hfin
  rwa [List.length_replicate] at this
 have gf := Fit.gf_of hg hsl hpos ht
 have hk8 : ∀ k ∈ ks, k < 8 := fun k hk => by have := hkt k hk; omega
 have hF := c_fault ts as_ hg fin hfin hall M0 hI t ht hnm ks hks hkt
 refine W.s (.r (.q (.assign .k) rfl (.q (.assign .k) rfl (.q (.assign .k) rfl (.n (.h (.s (.r (.mv rfl rfl (.mv rfl rfl (.mv rfl rfl ?_))))))))))); refine W.call (hF) ⟨(.t rfl), (.t rfl), (.t rfl), trivial⟩ ((by ((rw [List.append_nil]; done)))) rfl ?_
 rintro _ M' ⟨b, rfl, hM'⟩
 rw [hM', List.append_nil]
 refine W.mv rfl rfl (.q (.extract (.t rfl) rfl) rfl (.q (.extract (.t rfl) rfl) rfl (.asg rfl rfl (.asg rfl rfl (.n (.h (.s (.s (.r (.mv rfl rfl (.q (.nei (.t rfl) .k) rfl (.n (.h (.isb 18 false rfl (by rfl) (.condF (.t rfl) (.k (.h (.s (.r (.mv rfl rfl (.mv rfl rfl (.mv rfl rfl ?_)))))))))))))))))))))); refine W.call (WFBest.c_Best b ts as_ fin (as_.getD t Sch.dA) gf.sh gf.n32 gf.sz gf.col t gf.at_ ks (by omega) hk8 hex) ⟨(.t rfl), (.t rfl), (.t rfl), trivial⟩ (.refl _) rfl ?_
 rintro _ M' ⟨⟨rows, m, w, fr, ho, hTr, rfl⟩, rfl⟩
 refine W.mv rfl rfl (.q (.extract (.t rfl) rfl) rfl (.q (.extract (.t rfl) rfl) rfl (.asg rfl rfl (.asg rfl rfl (.n (.h (.s (.r (.mv rfl rfl (.mv rfl rfl (.asg rfl rfl (.asg rfl rfl (.q (.assign .k) rfl (.n (.h ?_))))))))))))))); refine W.ret ?_; refine W.retn (M' := M0) (D := [_]) (rs := [.tmp 6, .tmp 7, .tmp 8]) (avs := [_, _, _]) Tryz.results22 ⟨rfl, rfl, rfl, trivial⟩ rfl (List.perm_append_comm (l₁ := [_])) ?_
 exact ⟨⟨rows, m, w, fr, ho, hTr, rfl⟩, rfl⟩
end WFit
end Go.Proofs.YtphlkdbglpcikaaGreatDoor
end
