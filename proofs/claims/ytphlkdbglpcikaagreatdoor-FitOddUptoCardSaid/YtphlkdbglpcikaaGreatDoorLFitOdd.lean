/-
  The law FitOdd, walked.
-/
import Derived.Test.YtphlkdbglpcikaaGreatDoorG15
set_option linter.unusedVariables false
set_option linter.unusedSimpArgs false
set_option maxRecDepth 100000
namespace Go.Proofs.YtphlkdbglpcikaaGreatDoor
open Go.Vl
open Y
namespace LFitOdd
theorem c_FitOdd (l : List Int) (kids : List Int) (at_ : Int) (hl : l.length ≤ 1048576) (hkd : kids.length ≤ 1048576) (M0 : List ME) (hI : ∀ n : Int, -1 ≤ n → n < 100 → FnC Tryz.prog 107 [.int n] M0 (fun r M => r = .str (itoa n) ∧ M = M0)) : FnC Tryz.prog 9 [.sl 1 (l.map AV.int), .sl 1 (kids.map AV.int), .int at_] M0 (fun r M => r = .bool true ∧ M = M0) :=  by
 refine FnC.mk Tryz.func9 (by kernel_rfl) rfl Tryz.ntmps9 rfl (fun w0 F => ?_)
 have hp0 := WTypes.pk_lt l 0 4 (by decide)
 have hp1 := WTypes.pk_lt l 1 3 (by decide)
 have hp2 := WTypes.pk_lt l 2 2 (by decide)
 have hp3 := WTypes.pk_lt l 3 3 (by decide)
 have hp4 := WTypes.pk_lt l 4 3 (by decide)
 have hp5 := WTypes.pk_lt l 5 2 (by decide)
 have hTy := WTypes.c_Types l (by omega)
 rw [Sch.tys_tyk] at hTy
 have hck := Sch.fit_all hp0 hp1 hp2 hp3 hp4 hp5
 have hb := Sch.mk_lt hp0 hp1 hp2 hp3 hp4 hp5
 have hd3 := Sch.dead3 hp1
 generalize Sch.mk0 (Sch.pk l 0 4) = m0 at *
 generalize Sch.mk1 (Sch.pk l 1 3) = m1 at *
 generalize Sch.mk2 (Sch.pk l 2 2) = m2 at *
 generalize Sch.mk3 (Sch.pk l 3 3) = m3 at *
 generalize Sch.mk4 (Sch.pk l 4 3) = m4 at *
 generalize Sch.mk5 (Sch.pk l 5 2) = m5 at *
 obtain ⟨fin, hfk⟩ := Sch.chkFit_out hck
 have hg := Sch.good_tyk m0 m1 m2 m3 m4 m5 hb
 have hnm6 := Sch.name7 m0 m1 m2 m3 m4 m5
 have htl : (Sch.tyk m0 m1 m2 m3 m4 m5).length = 7 := rfl
 have hfin := hfk.sizes
 have hpos := hfk.pos
 have hall := Sch.any_of hpos
 have hfl : fin.length = 7 := by
  have := Sch.mso_len 10 _ _ hfin
  rwa [List.length_replicate] at this
 have hA1 : ∀ i, Fit.tr ((Sch.ask m0 m1 m2 m3 m4 m5).getD 1 Sch.dA) i 3 < 0 := hd3
 generalize Sch.tyk m0 m1 m2 m3 m4 m5 = ts at *
 generalize Sch.ask m0 m1 m2 m3 m4 m5 = as_ at *
 have htm : (ts.map tpv).length = 7 := by rw [List.length_map]; exact htl
 have gf := Fit.gf_of hg (by omega) hpos (t := 1) (by omega)
 obtain ⟨o, hpot, hal0, ho0⟩ := Sch.leastB_out gf.sh (hfk.least 1 (by omega))
 obtain ⟨kl, hkl⟩ : ∃ q, ((kids.take 12).map fun z => (z % ((7 : Nat) : Int)).toNat) = q := ⟨_, rfl⟩
 have hkll : kl.length ≤ 12 := by rw [← hkl, List.length_map, List.length_take]; omega
 have hkl7 : ∀ q ∈ kl, q < 7 := fun q hq => by rw [← hkl] at hq; obtain ⟨z, _, rfl⟩ := List.mem_map.1 hq; have := Int.emod_nonneg z (by decide : ((7 : Nat) : Int) ≠ 0); have := Int.emod_lt_of_pos z (by decide : (0 : Int) < ((7 : Nat) : Int)); omega
 have hKi := WKids.c_Kids kids 12 7 (by decide) (by decide) (by decide) (by omega)
 rw [hkl] at hKi
 have hkl7t : ∀ q ∈ kl, q < ts.length := fun q hq => by rw [htl]; exact hkl7 q hq
 have hlmk : (kl.map fun k : Nat => AV.int (k : Int)).length = kl.length := List.length_map ..
 refine W.s (.r (.q (.assign .k) rfl (.n (.h (.s (.r (.mv rfl rfl ?_))))))); refine W.callp (hTy) ⟨(.t rfl), trivial⟩ rfl ?_; refine W.asg rfl rfl (.n (.h (.s (.r (.mv rfl rfl ?_))))); refine W.app0 .k (.sl (.t rfl) (by intro e he; obtain ⟨t_, _, rfl⟩ := List.mem_map.1 he; rfl)) Tryz.underlying23 ni23 ty28 rfl rfl (by rw [htm]; decide) rfl ?_; refine W.mv rfl rfl (.mv rfl rfl (.q (.lensl (.t rfl) Tryz.underlying23) rfl ?_)); refine W.is (t := 28) (av' := .int ((7 : Nat) : Int)) rfl (congrArg AV.int (by rw [htm])) ?_; refine W.call (hKi) ⟨(.t rfl), .k, (.t rfl), trivial⟩ (.refl _) rfl ?_
 rintro _ _ ⟨v29, rfl, rfl⟩
 refine W.freezeA (M1 := M0) (M2 := M0) (D := []) (v := v29) (L' := [(29, true, .sl 1 (kl.map fun k : Nat => AV.int (k : Int)))]) (by ((rw [List.append_nil]; exact .refl _))) ⟨⟨_, rfl, .one .hit⟩, trivial⟩ (FrzMs.refl _) ?_; refine W.call (WFit.c_Fit ts as_ hg fin hfin hall hpos M0 hI 1 (by omega) (hnm6 1 (by omega)) kl (by omega) hkl7t ⟨_, _, hal0.all _⟩) ⟨(.t rfl), .k, (.t rfl), trivial⟩ ((by ((rw [List.append_nil]; done)))) rfl ?_
 rintro _ M' ⟨⟨rows1, ma, w, fr, ho1, hTr1, rfl⟩, hM'⟩
 rw [hM', List.append_nil]
 have hok1 := ho1.ok0 gf.sh ⟨_, _, hal0.all _⟩
 have hacc := hTr1.acc gf.sh gf.sz ho1 (Nat.zero_le _) gf.sh.pos hok1
 have hw7 : ∀ q ∈ w, q < ts.length := hTr1.letters hkl7t (fun i n h => by have := gf.col i n h; omega)
 have hwl : w.length ≤ 30 := Sch.wlenG hg gf (by omega) ho1 hTr1 (by omega)
 have hwm : (w.map fun k : Nat => AV.int (k : Int)).length = w.length := List.length_map ..
 have hi0 := Int.emod_nonneg at_ (by omega : ((w.length : Int) + 1) ≠ 0)
 have hi1 := Int.emod_lt_of_pos at_ (by omega : (0 : Int) < (w.length : Int) + 1)
 obtain ⟨i, hi⟩ : ∃ i : Nat, at_ % ((w.length : Int) + 1) = (i : Int) := ⟨(at_ % ((w.length : Int) + 1)).toNat, by omega⟩
 have hPi := Base.c_Picked at_ ((w.length : Int) + 1) (by omega) (by omega)
 rw [hi] at hPi
 have hodl : (w.take i ++ 3 :: w.drop i).length ≤ 40 := by rw [List.length_append, List.length_cons, List.length_take, List.length_drop]; omega
 have hod7 : ∀ q ∈ (w.take i ++ 3 :: w.drop i), q < ts.length := fun q hq => by rcases List.mem_append.1 hq with h | h; exact hw7 q (List.mem_of_mem_take h); rcases List.mem_cons.1 h with rfl | h; omega; exact hw7 q (List.mem_of_mem_drop h)
 have hac2 : Fit.Acc (as_.getD 1 Sch.dA) 0 ((w.take i).drop 0 ++ w.drop i) := by rw [List.drop_zero, List.take_append_drop]; exact hacc
 have hex2 : ∃ d f, Fit.Al (as_.getD 1 Sch.dA) fin 0 (w.take i ++ 3 :: w.drop i) d f := ⟨_, _, (hac2.al (sz := fin)).insert (k := 3) (w.take i) (w.drop i) rfl⟩
 have htl2 : (w.take i).length = i := by rw [List.length_take]; omega
 have hdl2 : (w.drop i).length = w.length - i := List.length_drop ..
 refine W.mv rfl rfl (.q (.extract (.t rfl) rfl) rfl (.q (.extract (.t rfl) rfl) rfl (.q (.extract (.t rfl) rfl) rfl (.asg rfl rfl (.asg rfl rfl (.asg rfl rfl (.n (.h (.s (.r (.mv rfl rfl (.mv rfl rfl (.q (.lensl (.t rfl) Tryz.underlying22) rfl (.q (.add (.t rfl) .k (fun _ => by omega)) rfl ?_))))))))))))))
 refine W.is (t := 37) (av' := .int ((w.length : Int) + 1)) rfl (congrArg AV.int (by rw [hwm])) ?_; refine W.callp (hPi) ⟨(.t rfl), (.t rfl), trivial⟩ rfl ?_; refine W.q (.assign (.t rfl)) rfl ?_; refine W.n ?_; refine W.h ?_; refine W.s ?_; refine W.drawnM (fun ee cc => (bif ee 9 then [ME.arr (cc 9).2 3 1 ((((w.take i).map fun k : Nat => AV.int (k : Int)) ++ [AV.int 3]) ++ ((w.drop i).map fun k : Nat => AV.int (k : Int)))] else bif ee 5 then [ME.arr (cc 5).2 3 1 (((w.take i).map fun k : Nat => AV.int (k : Int)) ++ [AV.int 3])] else bif ee 3 then [ME.arr (cc 3).2 3 1 ((w.take i).map fun k : Nat => AV.int (k : Int))] else []) ++ M0) (c0 := ks0) (by kernel_rfl) (by kernel_rfl) rfl ?_; refine DM.q (fun e c hk => (.move (.t rfl))) rfl (fun _ _ => rfl) (fun _ _ _ => rfl) ?_; refine DM.q (fun e c hk => (.move (.t rfl))) rfl (fun _ _ => rfl) (fun _ _ _ => rfl) ?_; refine DM.q (av := fun _ => .sl 1 ((w.take i).map fun k : Nat => AV.int (k : Int))) (fun e c hk_ => Ev.as_ (.takesl (n := i) (.t rfl) Tryz.underlying22 ty3 (.t rfl) rfl (fun _ => by omega)) (congrArg (AV.sl 1) (by rw [List.map_take]))) rfl (fun _ _ => rfl) (fun _ _ _ => rfl) ?_; refine DM.eff1 (av := fun c => .lit (c 3).2) rfl (fun c c_ h => by (simp only [h 3 (by (exact .inl rfl))])) (fun e c hk L_ hs Q h => ?_) ?_
 ·have hk_3 := hk.not
  have hk_5 := hk.down 5 (by kernel_rfl)
  have hk_9 := hk.down 9 (by kernel_rfl)
  simp only [addE, upd, eq_self, List.nil_append, List.cons_append, List.append_nil, hk_3, hk_5, hk_9, Nat.reduceAdd, Nat.reduceEqDiff, ↓reduceIte, cond_true, cond_false] at h ⊢
  ((refine W.appn .k (.sl (.t (hs _ _ rfl)) (by intro e he; obtain ⟨k_, _, rfl⟩ := List.mem_map.1 he; rfl)) Tryz.underlying22 ni22 ty3 rfl rfl (by rw [List.length_map, List.length_take]; omega) rfl ?_; exact fun v => h (0, v) _ (by (exact .refl _))))
 refine DM.bs (es := fun _ => [_]) Tryz.underlying22 ty3 (fun c => ⟨rfl, .k, rfl, rfl, trivial⟩) (fun _ => rfl) (by decide) rfl rfl (fun _ _ => rfl) (fun _ _ _ => rfl) ?_; refine DM.eff1 (av := fun c => .lit (c 5).2) rfl (fun c c_ h => by (simp only [h 3 (by (exact .inr (by kernel_rfl))), h 5 (by (exact .inl rfl))])) (fun e c hk L_ hs Q h => ?_) ?_
 ·have hk_5 := hk.not
  have hk_3 := hk.up 3 (by kernel_rfl)
  have hk_9 := hk.down 9 (by kernel_rfl)
  simp only [addE, upd, eq_self, List.nil_append, List.cons_append, List.append_nil, hk_5, hk_3, hk_9, Nat.reduceAdd, Nat.reduceEqDiff, ↓reduceIte, cond_true, cond_false] at h ⊢
  ((refine W.app 0 (.t (hs _ _ rfl)) rfl (.sl (.t (hs _ _ rfl)) (by ((simp [AV.okc, shV]; done)))) Tryz.underlying22 ni22 ty3 rfl rfl (by rw [List.length_map, List.length_take]; simp only [List.length_cons, List.length_nil]; omega) rfl ?_; exact fun v => h (0, v) _ (by (exact .refl _))))
 refine DM.q (fun e c hk => (.move (.t rfl))) rfl (fun _ _ => rfl) (fun _ _ _ => rfl) ?_; refine DM.q (fun e c hk => (.move (.t rfl))) rfl (fun _ _ => rfl) (fun _ _ _ => rfl) ?_; refine DM.q (av := fun _ => .sl 1 ((w.drop i).map fun k : Nat => AV.int (k : Int))) (fun e c hk_ => Ev.as_ (.dropsl (n := i) (.t rfl) Tryz.underlying22 ty3 (.t rfl) rfl (fun _ => by omega)) (congrArg (AV.sl 1) (by rw [List.map_drop]))) rfl (fun _ _ => rfl) (fun _ _ _ => rfl) ?_; refine DM.eff1 (av := fun c => .lit (c 9).2) rfl (fun c c_ h => by (simp only [h 3 (by (exact .inr (by kernel_rfl))), h 5 (by (exact .inr (by kernel_rfl))), h 9 (by (exact .inl rfl))])) (fun e c hk L_ hs Q h => ?_) ?_
 ·have hk_9 := hk.not
  have hk_3 := hk.up 3 (by kernel_rfl)
  have hk_5 := hk.up 5 (by kernel_rfl)
  simp only [addE, upd, eq_self, List.nil_append, List.cons_append, List.append_nil, hk_9, hk_3, hk_5, Nat.reduceAdd, Nat.reduceEqDiff, ↓reduceIte, cond_true, cond_false] at h ⊢
  ((refine W.app 0 (.t (hs _ _ rfl)) rfl (.sl (.t (hs _ _ rfl)) (by intro e he; obtain ⟨k_, _, rfl⟩ := List.mem_map.1 he; rfl)) Tryz.underlying22 ni22 ty3 rfl rfl (by rw [List.length_append, List.length_map, List.length_map, List.length_take, List.length_drop]; simp only [List.length_cons, List.length_nil]; omega) rfl ?_; exact fun v => h (0, v) _ (by (exact .refl _))))
 refine DM.q (fun e c hk => (.assign (.t rfl))) rfl (fun _ _ => rfl) (fun c c_ h => by (simp only [h 3 (by (exact .inr (by kernel_rfl))), h 5 (by (exact .inr (by kernel_rfl))), h 9 (by (exact .inr (by kernel_rfl)))])) ?_; refine DM.nil (fun cc e_ he_ => ?_)
 simp only [he_ 3 (by decide), he_ 5 (by decide), he_ 9 (by decide), cond_true, cond_false]
 refine W.freezeA (M1 := M0) (M2 := M0) (D := []) (v := (cc 9).2) (L' := [(12, true, .sl 1 ((w.take i ++ 3 :: w.drop i).map fun k : Nat => AV.int (k : Int)))]) (by rw [List.append_nil, Fit.odd_map]; exact .refl _) ⟨⟨_, rfl, .one .hit⟩, trivial⟩ (FrzMs.refl _) ?_; refine W.h (.s (.r (.mv rfl rfl (.mv rfl rfl ?_)))); refine W.call (WFit.c_Cost ts as_ hg fin hfin hall hpos M0 hI 1 (by omega) (hnm6 1 (by omega)) (w.take i ++ 3 :: w.drop i) hodl hod7) ⟨(.t rfl), .k, (.t rfl), trivial⟩ ((by ((rw [List.append_nil]; done)))) rfl ?_
 rintro _ M' ⟨⟨rows2, ho2, rfl⟩, hM'⟩
 rw [hM', List.append_nil]
 have hoc := Fit.odd_cost gf.sz hA1 rfl ho2 (Nat.zero_le _) gf.sh.pos hac2
 refine W.mv rfl rfl (.q (.extract (.t rfl) rfl) rfl (.q (.extract (.t rfl) rfl) rfl (.q (.extract (.t rfl) rfl) rfl (.asg rfl rfl (.asg rfl rfl (.asg rfl rfl (.n (.h (.s (.r (.mv rfl rfl (.mv rfl rfl ?_)))))))))))); refine W.call (WFit.c_Fit ts as_ hg fin hfin hall hpos M0 hI 1 (by omega) (hnm6 1 (by omega)) (w.take i ++ 3 :: w.drop i) hodl hod7 hex2) ⟨(.t rfl), .k, (.t rfl), trivial⟩ ((by ((rw [List.append_nil]; done)))) rfl ?_
 rintro _ M' ⟨⟨rows3, mb, w3, fr3, ho3, hTr3, rfl⟩, hM'⟩
 rw [hM', List.append_nil]
 have hof := hTr3.odd gf.sh gf.sz hA1 rfl ho3 (Nat.zero_le _) gf.sh.pos hac2
 rw [List.drop_zero, List.take_append_drop, htl2, hdl2, Nat.sub_zero] at hof
 rw [hof.1, hof.2]
 have hupl : (Fit.upto 0 i ++ Fit.upto (i + 1) (w.length - i)).length = w.length := by rw [List.length_append, Fit.upto_len, Fit.upto_len]; omega
 have hupm : ((Fit.upto 0 i ++ Fit.upto (i + 1) (w.length - i)).map AV.int).length = w.length := by rw [List.length_map]; exact hupl
 refine W.mv rfl rfl (.q (.extract (.t rfl) rfl) rfl (.q (.extract (.t rfl) rfl) rfl (.q (.extract (.t rfl) rfl) rfl (.asg rfl rfl (.asg rfl rfl (.asg rfl rfl (.n (.h (.s (.s (.r (.mv rfl rfl (.q (.nei (.t rfl) .k) rfl (.mv rfl rfl (.isb 65 false rfl (by rfl) (.gyes rfl rfl (.mv rfl rfl (.gyes rfl rfl (.q (.nei (.t rfl) .k) rfl ?_))))))))))))))))))); refine W.q (.or (.t rfl) ⟨_, _, rfl, rfl, by ((simp; done))⟩) rfl ?_; refine W.mv rfl rfl (.isb 69 false rfl (by rfl) (.gyes rfl rfl (.mv rfl rfl (.gyes rfl rfl (.q (.nei (.t rfl) .k) rfl ?_))))); refine W.q (.or (.t rfl) ⟨_, _, rfl, rfl, by ((simp; done))⟩) rfl ?_; refine W.mv rfl rfl (.isb 73 false rfl (by rfl) (.gyes rfl rfl (.mv rfl rfl (.gyes rfl rfl (.q (.nei (.t rfl) .k) rfl ?_))))); refine W.q (.or (.t rfl) ⟨_, _, rfl, rfl, by ((simp; done))⟩) rfl ?_; refine W.mv rfl rfl ?_; refine W.isb 77 false rfl (by rw [hoc.2.1]; rfl) ?_; refine W.gyes rfl rfl (.mv rfl rfl (.gyes rfl rfl (.q (.nei (.t rfl) .k) rfl ?_))); refine W.q (.or (.t rfl) ⟨_, _, rfl, rfl, by ((simp; done))⟩) rfl ?_; refine W.mv rfl rfl ?_; refine W.isb 81 false rfl (by rw [hoc.2.2]; rfl) ?_; refine W.gyes rfl rfl (.mv rfl rfl ?_); refine W.is (t := 82) (av' := .sl 1 ((w.map fun k : Nat => (k : Int)).map AV.int)) rfl (congrArg (AV.sl 1) (by rw [List.map_map]; rfl)) ?_; refine W.gyes rfl rfl (.mv rfl rfl ?_); refine W.is (t := 83) (av' := .sl 1 ((w.map fun k : Nat => (k : Int)).map AV.int)) rfl (congrArg (AV.sl 1) (by rw [List.map_map]; rfl)) ?_; refine W.gyes rfl rfl ?_; refine W.callp (WLet.c_sameInts (w.map fun k : Nat => (k : Int)) (w.map fun k : Nat => (k : Int)) (by rw [List.length_map]; omega)) ⟨(.t rfl), (.t rfl), trivial⟩ rfl ?_; refine W.gyes rfl rfl (.q (.not (.t rfl)) rfl ?_); refine W.q (.or (.t rfl) ⟨_, _, rfl, rfl, by ((simp; done))⟩) rfl ?_; refine W.mv rfl rfl ?_; refine W.isb 87 false rfl (by simp) ?_; refine W.gyes rfl rfl (.mv rfl rfl (.gyes rfl rfl (.q (.lensl (.t rfl) Tryz.underlying22) rfl ?_))); refine W.is (t := 89) (av' := .int (w.length : Int)) rfl (congrArg AV.int (by rw [hupm])) ?_; refine W.gyes rfl rfl (.mv rfl rfl (.gyes rfl rfl (.q (.lensl (.t rfl) Tryz.underlying22) rfl ?_)))
 refine W.is (t := 91) (av' := .int (w.length : Int)) rfl (congrArg AV.int (by rw [hwm])) ?_; refine W.gyes rfl rfl ?_; refine W.q (.nei (.t rfl) (.t rfl)) rfl ?_; refine W.q (.or (.t rfl) ⟨_, _, rfl, rfl, by ((simp; done))⟩) rfl ?_; refine W.n ?_; refine W.h ?_; refine W.isb 93 false rfl (by simp) ?_; refine W.condF (.t rfl) ?_; refine W.k ?_; refine W.h ?_; refine W.s ?_; refine W.s ?_; refine W.r ?_; refine W.q (.assign .k) rfl ?_; refine W.n ?_; refine W.h ?_; refine W.b ?_; refine W.loop (D := []) (ι := Nat) (fun j => [(19, true, .int (j : Int)), (17, true, .sl 1 ((Fit.upto 0 i ++ Fit.upto (i + 1) (w.length - i)).map AV.int)), (11, true, .int (i : Int))]) (fun _ => M0) (fun j => j ≤ w.length) (fun j => w.length - j) 0 ⟨rfl, rfl, rfl, trivial⟩ (by ((rw [List.append_nil]; done))) (Nat.zero_le _) ?_; intro j hj
 dsimp only at hj ⊢
 rcases (show j < w.length ∨ j = w.length from by omega) with hlt | hend
 ·have hgu := getD_map (Fit.upto 0 i ++ Fit.upto (i + 1) (w.length - i)) j (by omega)
  rw [Fit.upto2_get i (w.length - i) j (by omega)] at hgu
  refine W.s (.s (.r (.mv rfl rfl (.mv rfl rfl (.q (.lensl (.t rfl) Tryz.underlying22) rfl ?_)))))
  refine W.q (.lti (.t rfl) (.t rfl)) rfl ?_; refine W.n ?_; refine W.h ?_; refine W.isb 97 true rfl (by exact decide_eq_true (by omega)) ?_; refine W.condT (.t rfl) ?_; refine W.k ?_; refine W.h ?_; refine W.s ?_; refine W.b ?_; refine W.s ?_; refine W.r ?_; refine W.q (.move (.t rfl)) rfl ?_; refine W.q (.assign (.t rfl)) rfl ?_; refine W.n ?_; refine W.h ?_; refine W.s ?_; refine W.s ?_; refine W.r ?_; refine W.q (.move (.t rfl)) rfl ?_; refine W.q (.move (.t rfl)) rfl ?_; refine W.q (.gei (.t rfl) (.t rfl)) rfl ?_; refine W.n ?_; refine W.h ?_; refine W.cond (.t rfl) (fun hc_t103 => ?_) (fun hc_t103 => ?_)
  ·have h103 : i ≤ j := by have := of_decide_eq_true hc_t103; omega
   refine W.r (.mv rfl rfl (.q (.add (.t rfl) .k (fun _ => by omega)) rfl (.asg rfl rfl (.n (.h (.s (.r (.mv rfl rfl (.mv rfl rfl ?_))))))))); refine W.q (.at (E := 3) (.t rfl) (.t rfl) Tryz.underlying22 ty3 (fun _ => ⟨by omega, hgu⟩) rfl rfl) rfl ?_; refine W.q (.lde1 (.t rfl) ag3) rfl (.mv rfl rfl (.q (.nei (.t rfl) (.t rfl)) rfl (.n (.h ?_)))); refine W.isb 111 false rfl (by rw [if_pos h103]; simp) ?_; refine W.condF (.t rfl) (.k (.bn (.h (.r (.mv rfl rfl (.q (.add (.t rfl) .k (fun _ => by omega)) rfl ?_))))))
   refine W.q (.assign (.t rfl)) rfl ?_; refine W.n ?_; refine W.h ?_; refine W.reach (D := []) (j + 1) ⟨rfl, rfl, rfl, trivial⟩ (by ((rw [List.append_nil]; done))) ⟨hlt, by show w.length - (j + 1) < w.length - j; omega⟩
  ·have h103 : ¬ i ≤ j := by have := of_decide_eq_false hc_t103; omega
   refine W.k (.h (.s (.r (.mv rfl rfl (.mv rfl rfl ?_))))); refine W.q (.at (E := 3) (.t rfl) (.t rfl) Tryz.underlying22 ty3 (fun _ => ⟨by omega, hgu⟩) rfl rfl) rfl ?_; refine W.q (.lde1 (.t rfl) ag3) rfl (.mv rfl rfl (.q (.nei (.t rfl) (.t rfl)) rfl (.n (.h ?_)))); refine W.isb 111 false rfl (by rw [if_neg h103]; simp) ?_; refine W.condF (.t rfl) (.k (.bn (.h (.r (.mv rfl rfl (.q (.add (.t rfl) .k (fun _ => by omega)) rfl ?_))))))
   refine W.q (.assign (.t rfl)) rfl ?_; refine W.n ?_; refine W.h ?_; refine W.reach (D := []) (j + 1) ⟨rfl, rfl, rfl, trivial⟩ (by ((rw [List.append_nil]; done))) ⟨hlt, by show w.length - (j + 1) < w.length - j; omega⟩
 ·skip
  refine W.s (.s (.r (.mv rfl rfl (.mv rfl rfl (.q (.lensl (.t rfl) Tryz.underlying22) rfl (.q (.lti (.t rfl) (.t rfl)) rfl (.n (.h ?_)))))))); refine W.isb 97 false rfl (by exact decide_eq_false (by omega)) ?_; refine W.condF (.t rfl) (.ex (.he (.he (.bh (.h (.s (.r (.q (.assign .k) rfl (.n (.h ?_)))))))))); refine W.ret ?_; refine W.retn (M' := M0) (D := []) (rs := [.tmp 6]) (avs := [_]) Tryz.results9 ⟨rfl, trivial⟩ rfl (by ((rw [List.append_nil]; done))) ?_
  exact ⟨rfl, rfl⟩
end LFitOdd
end Go.Proofs.YtphlkdbglpcikaaGreatDoor
