/-
  The law FitFixed, walked.
-/
import Derived.Test.YtphlkdbglpcikaaGreatDoorG15
set_option linter.unusedVariables false
set_option linter.unusedSimpArgs false
set_option maxRecDepth 100000
namespace Go.Proofs.YtphlkdbglpcikaaGreatDoor
open Go.Vl
open Y
namespace LFitFixed
theorem c_FitFixed (l : List Int) (t : Int) (kids : List Int) (hl : l.length ≤ 1048576) (hkd : kids.length ≤ 1048576) (M0 : List ME) (hI : ∀ n : Int, -1 ≤ n → n < 100 → FnC Tryz.prog 107 [.int n] M0 (fun r M => r = .str (itoa n) ∧ M = M0)) : FnC Tryz.prog 8 [.sl 1 (l.map AV.int), .int t, .sl 1 (kids.map AV.int)] M0 (fun r M => r = .bool true ∧ M = M0) :=  by
 refine FnC.mk Tryz.func8 (by kernel_rfl) rfl Tryz.ntmps8 rfl (fun w0 F => ?_)
 have hp0 := WTypes.pk_lt l 0 4 (by decide)
 have hp1 := WTypes.pk_lt l 1 3 (by decide)
 have hp2 := WTypes.pk_lt l 2 2 (by decide)
 have hp3 := WTypes.pk_lt l 3 3 (by decide)
 have hp4 := WTypes.pk_lt l 4 3 (by decide)
 have hp5 := WTypes.pk_lt l 5 2 (by decide)
 have hTy := WTypes.c_Types l (by omega)
 rw [Sch.tys_tyk] at hTy
 have hck := Sch.fit_all hp0 hp1 hp2 hp3 hp4 hp5
 have hb := Sch.mk_lt hp0 hp1 hp2 hp3 hp4 hp5
 have ha6 := Sch.acc6 hp2
 generalize Sch.mk0 (Sch.pk l 0 4) = m0 at *
 generalize Sch.mk1 (Sch.pk l 1 3) = m1 at *
 generalize Sch.mk2 (Sch.pk l 2 2) = m2 at *
 generalize Sch.mk3 (Sch.pk l 3 3) = m3 at *
 generalize Sch.mk4 (Sch.pk l 4 3) = m4 at *
 generalize Sch.mk5 (Sch.pk l 5 2) = m5 at *
 obtain ⟨fin, hfk⟩ := Sch.chkFit_out hck
 have hg := Sch.good_tyk m0 m1 m2 m3 m4 m5 hb
 have hnm6 := Sch.name7 m0 m1 m2 m3 m4 m5
 have htl : (Sch.tyk m0 m1 m2 m3 m4 m5).length = 7 := rfl
 have hfin := hfk.sizes
 have hpos := hfk.pos
 have hall := Sch.any_of hpos
 have hfl : fin.length = 7 := by
  have := Sch.mso_len 10 _ _ hfin
  rwa [List.length_replicate] at this
 have hA2 : Fit.Acc ((Sch.ask m0 m1 m2 m3 m4 m5).getD 2 Sch.dA) 0 [6] := ha6
 have hk0 := Int.emod_nonneg t (by decide : (6 : Int) ≠ 0)
 have hk1 := Int.emod_lt_of_pos t (by decide : (0 : Int) < 6)
 obtain ⟨k, hk⟩ : ∃ k : Nat, t % 6 = (k : Int) := ⟨(t % 6).toNat, by omega⟩
 have hPk := Base.c_Picked t 6 (by decide) (by decide)
 rw [hk] at hPk
 generalize Sch.tyk m0 m1 m2 m3 m4 m5 = ts at *
 generalize Sch.ask m0 m1 m2 m3 m4 m5 = as_ at *
 have htm : (ts.map tpv).length = 7 := by rw [List.length_map]; exact htl
 have gf := Fit.gf_of hg (by omega) hpos (t := k) (by omega)
 obtain ⟨o, hpot, hal0, ho0⟩ := Sch.leastB_out gf.sh (hfk.least k (by omega))
 have gf2 := Fit.gf_of hg (by omega) hpos (t := 2) (by omega)
 obtain ⟨kl, hkl⟩ : ∃ q, ((kids.take 15).map fun z => (z % ((7 : Nat) : Int)).toNat) = q := ⟨_, rfl⟩
 have hkll : kl.length ≤ 15 := by rw [← hkl, List.length_map, List.length_take]; omega
 have hkl7 : ∀ q ∈ kl, q < 7 := fun q hq => by rw [← hkl] at hq; obtain ⟨z, _, rfl⟩ := List.mem_map.1 hq; have := Int.emod_nonneg z (by decide : ((7 : Nat) : Int) ≠ 0); have := Int.emod_lt_of_pos z (by decide : (0 : Int) < ((7 : Nat) : Int)); omega
 have hKi := WKids.c_Kids kids 15 7 (by decide) (by decide) (by decide) (by omega)
 rw [hkl] at hKi
 have hkl7t : ∀ q ∈ kl, q < ts.length := fun q hq => by rw [htl]; exact hkl7 q hq
 have hlmk : (kl.map fun k : Nat => AV.int (k : Int)).length = kl.length := List.length_map ..
 refine W.s (.r (.q (.assign .k) rfl (.n (.h (.s (.r (.mv rfl rfl ?_))))))); refine W.callp (hTy) ⟨(.t rfl), trivial⟩ rfl ?_; refine W.asg rfl rfl (.n (.h (.s (.r (.mv rfl rfl ?_))))); refine W.callp (hPk) ⟨(.t rfl), .k, trivial⟩ rfl ?_; refine W.asg rfl rfl (.n (.h (.s (.r (.mv rfl rfl (.mv rfl rfl (.q (.lensl (.t rfl) Tryz.underlying23) rfl ?_))))))); refine W.is (t := 29) (av' := .int ((7 : Nat) : Int)) rfl (congrArg AV.int (by rw [htm])) ?_; refine W.call (hKi) ⟨(.t rfl), .k, (.t rfl), trivial⟩ (.refl _) rfl ?_
 rintro _ _ ⟨v30, rfl, rfl⟩
 refine W.freezeA (M1 := M0) (M2 := M0) (D := []) (v := v30) (L' := [(30, true, .sl 1 (kl.map fun k : Nat => AV.int (k : Int)))]) (by ((rw [List.append_nil]; exact .refl _))) ⟨⟨_, rfl, .one .hit⟩, trivial⟩ (FrzMs.refl _) ?_; refine W.asg rfl rfl (.n (.h (.s (.r (.mv rfl rfl ?_))))); refine W.app0 .k (.sl (.t rfl) (by intro e he; obtain ⟨t_, _, rfl⟩ := List.mem_map.1 he; rfl)) Tryz.underlying23 ni23 ty28 rfl rfl (by rw [htm]; decide) rfl ?_; refine W.mv rfl rfl (.mv rfl rfl ?_); refine W.app0 .k (.sl (.t rfl) (by intro e he; obtain ⟨k_, _, rfl⟩ := List.mem_map.1 he; rfl)) Tryz.underlying22 ni22 ty3 rfl rfl (by rw [List.length_map]; omega) rfl ?_; refine W.call (WFit.c_Fit ts as_ hg fin hfin hall hpos M0 hI k (by omega) (hnm6 k (by omega)) kl (by omega) hkl7t ⟨_, _, hal0.all _⟩) ⟨(.t rfl), (.t rfl), (.t rfl), trivial⟩ ((by ((rw [List.append_nil]; done)))) rfl ?_
 rintro _ M' ⟨⟨rows1, ma, w, fr, ho1, hTr1, rfl⟩, hM'⟩
 rw [hM', List.append_nil]
 have hok1 := ho1.ok0 gf.sh ⟨_, _, hal0.all _⟩
 have hacc := hTr1.acc gf.sh gf.sz ho1 (Nat.zero_le _) gf.sh.pos hok1
 have hwfr := (hTr1.from_ gf.sh ho1 (Nat.zero_le _) gf.sh.pos).1
 have hw7 : ∀ q ∈ w, q < ts.length := hTr1.letters hkl7t (fun i n h => by have := gf.col i n h; omega)
 have hwl : w.length ≤ 30 := Sch.wlenG hg gf (by omega) ho1 hTr1 (by omega)
 have hwm : (w.map fun k : Nat => AV.int (k : Int)).length = w.length := List.length_map ..
 have hfm : (fr.map AV.int).length = fr.length := List.length_map ..
 refine W.mv rfl rfl (.q (.extract (.t rfl) rfl) rfl (.q (.extract (.t rfl) rfl) rfl (.q (.extract (.t rfl) rfl) rfl (.asg rfl rfl (.asg rfl rfl (.asg rfl rfl (.n (.h (.s (.r (.mv rfl rfl (.mv rfl rfl (.mv rfl rfl ?_))))))))))))); refine W.app0 .k (.sl (.t rfl) (by intro e he; obtain ⟨k_, _, rfl⟩ := List.mem_map.1 he; rfl)) Tryz.underlying22 ni22 ty3 rfl rfl (by rw [List.length_map]; omega) rfl ?_; refine W.call (WFit.c_Fit ts as_ hg fin hfin hall hpos M0 hI k (by omega) (hnm6 k (by omega)) w (by omega) hw7 ⟨_, _, hacc.al⟩) ⟨(.t rfl), (.t rfl), (.t rfl), trivial⟩ ((by ((rw [List.append_nil]; done)))) rfl ?_
 rintro _ M' ⟨⟨rows2, mb, w2, fr2, ho2, hTr2, rfl⟩, hM'⟩
 rw [hM', List.append_nil]
 have hfx := hTr2.fixed gf.sh gf.sz ho2 (Nat.zero_le _) gf.sh.pos (by rw [List.drop_zero]; exact hacc)
 rw [List.drop_zero, Nat.sub_zero] at hfx
 obtain ⟨hw2, hfr2⟩ := hfx
 rw [hw2, hfr2]
 have hul := Fit.upto_len 0 w.length
 have hum : ((Fit.upto 0 w.length).map AV.int).length = w.length := by rw [List.length_map]; exact hul
 refine W.mv rfl rfl (.q (.extract (.t rfl) rfl) rfl (.q (.extract (.t rfl) rfl) rfl (.q (.extract (.t rfl) rfl) rfl (.asg rfl rfl (.asg rfl rfl (.asg rfl rfl (.n (.h (.s (.r (.mv rfl rfl (.mv rfl rfl (.mv rfl rfl ?_))))))))))))); refine W.app0 .k (.sl (.t rfl) (by intro e he; obtain ⟨k_, _, rfl⟩ := List.mem_map.1 he; rfl)) Tryz.underlying22 ni22 ty3 rfl rfl (by rw [List.length_map]; omega) rfl ?_; refine W.call (WFit.c_Cost ts as_ hg fin hfin hall hpos M0 hI k (by omega) (hnm6 k (by omega)) w (by omega) hw7) ⟨(.t rfl), (.t rfl), (.t rfl), trivial⟩ ((by ((rw [List.append_nil]; done)))) rfl ?_
 rintro _ M' ⟨⟨rows3, ho3, rfl⟩, hM'⟩
 rw [hM', List.append_nil]
 have hz0 := ho3.zero gf.sz (Nat.zero_le _) gf.sh.pos (by rw [List.drop_zero]; exact hacc)
 refine W.mv rfl rfl (.q (.extract (.t rfl) rfl) rfl (.q (.extract (.t rfl) rfl) rfl (.q (.extract (.t rfl) rfl) rfl (.asg rfl rfl (.asg rfl rfl (.asg rfl rfl (.n (.h (.s (.r (.mv rfl rfl ?_))))))))))); refine W.bs (es := [_]) Tryz.underlying22 ty3 ⟨rfl, .k, rfl, rfl, trivial⟩ rfl (by decide) rfl rfl ?_; refine W.call (WFit.c_Fit ts as_ hg fin hfin hall hpos M0 hI 2 (by omega) (hnm6 2 (by omega)) [6] (by decide) (fun q hq => by rw [List.mem_singleton.1 hq]; omega) ⟨_, _, hA2.al⟩) ⟨(.t rfl), .k, (.t rfl), trivial⟩ ((by ((rw [List.append_nil]; done)))) rfl ?_
 rintro _ M' ⟨⟨rows4, mc, w4, fr4, ho4, hTr4, rfl⟩, hM'⟩
 rw [hM', List.append_nil]
 have hfx4 := hTr4.fixed gf2.sh gf2.sz ho4 (Nat.zero_le _) gf2.sh.pos (by rw [List.drop_zero]; exact hA2)
 rw [List.drop_zero] at hfx4
 rw [hfx4.1]
 refine W.mv rfl rfl (.q (.extract (.t rfl) rfl) rfl (.q (.extract (.t rfl) rfl) rfl (.q (.extract (.t rfl) rfl) rfl (.asg rfl rfl (.asg rfl rfl (.asg rfl rfl (.n (.h (.s (.s (.r (.mv rfl rfl (.q (.nei (.t rfl) .k) rfl (.mv rfl rfl (.isb 68 false rfl (by rfl) (.gyes rfl rfl (.mv rfl rfl (.gyes rfl rfl (.q (.nei (.t rfl) .k) rfl ?_))))))))))))))))))); refine W.q (.or (.t rfl) ⟨_, _, rfl, rfl, by ((simp; done))⟩) rfl ?_; refine W.mv rfl rfl (.isb 72 false rfl (by rfl) (.gyes rfl rfl (.mv rfl rfl (.gyes rfl rfl (.q (.nei (.t rfl) .k) rfl ?_))))); refine W.q (.or (.t rfl) ⟨_, _, rfl, rfl, by ((simp; done))⟩) rfl ?_; refine W.mv rfl rfl (.isb 76 false rfl (by rfl) (.gyes rfl rfl (.mv rfl rfl (.gyes rfl rfl (.q (.nei (.t rfl) .k) rfl ?_))))); refine W.q (.or (.t rfl) ⟨_, _, rfl, rfl, by ((simp; done))⟩) rfl ?_; refine W.mv rfl rfl (.isb 80 false rfl (by rfl) (.gyes rfl rfl (.mv rfl rfl (.gyes rfl rfl ?_)))); refine W.bs (es := [_]) Tryz.underlying22 ty3 ⟨rfl, .k, rfl, rfl, trivial⟩ rfl (by decide) rfl rfl ?_; refine W.gyes rfl rfl ?_; refine W.callp (WLet.c_sameInts [6] [6] (by decide)) ⟨(.t rfl), (.t rfl), trivial⟩ rfl ?_; refine W.gyes rfl rfl (.q (.not (.t rfl)) rfl ?_); refine W.q (.or (.t rfl) ⟨_, _, rfl, rfl, by ((simp; done))⟩) rfl ?_; refine W.mv rfl rfl ?_; refine W.isb 86 false rfl (by simp) ?_; refine W.gyes rfl rfl (.mv rfl rfl (.gyes rfl rfl (.q (.lensl (.t rfl) Tryz.underlying22) rfl ?_))); refine W.is (t := 88) (av' := .int (w.length : Int)) rfl (congrArg AV.int (by rw [hwm])) ?_; refine W.gyes rfl rfl (.mv rfl rfl (.gyes rfl rfl (.q (.lensl (.t rfl) Tryz.underlying22) rfl ?_)))
 refine W.is (t := 90) (av' := .int (w.length : Int)) rfl (congrArg AV.int (by rw [hfm, hwfr])) ?_; refine W.gyes rfl rfl ?_; refine W.q (.nei (.t rfl) (.t rfl)) rfl ?_; refine W.q (.or (.t rfl) ⟨_, _, rfl, rfl, by ((simp; done))⟩) rfl ?_; refine W.q (.move (.t rfl)) rfl ?_; refine W.isb 93 false rfl (by simp) ?_; refine W.gyes rfl rfl ?_; refine W.q (.move (.t rfl)) rfl ?_; refine W.gyes rfl rfl ?_; refine W.q (.nei (.t rfl) .k) rfl ?_; refine W.q (.or (.t rfl) ⟨_, _, rfl, rfl, by ((simp; done))⟩) rfl ?_; refine W.q (.move (.t rfl)) rfl ?_; refine W.isb 97 false rfl (by simp; omega) ?_; refine W.gyes rfl rfl ?_; refine W.q (.move (.t rfl)) rfl ?_; refine W.gyes rfl rfl ?_; refine W.q (.nei (.t rfl) .k) rfl ?_; refine W.q (.or (.t rfl) ⟨_, _, rfl, rfl, by ((simp; done))⟩) rfl ?_; refine W.q (.move (.t rfl)) rfl ?_; refine W.isb 101 false rfl (by simp; omega) ?_; refine W.gyes rfl rfl ?_; refine W.q (.move (.t rfl)) rfl ?_; refine W.is (t := 102) (av' := .sl 1 ((w.map fun k : Nat => (k : Int)).map AV.int)) rfl (congrArg (AV.sl 1) (by rw [List.map_map]; rfl)) ?_; refine W.gyes rfl rfl ?_; refine W.q (.move (.t rfl)) rfl ?_; refine W.is (t := 103) (av' := .sl 1 ((w.map fun k : Nat => (k : Int)).map AV.int)) rfl (congrArg (AV.sl 1) (by rw [List.map_map]; rfl)) ?_; refine W.gyes rfl rfl ?_; refine W.callp (WLet.c_sameInts (w.map fun k : Nat => (k : Int)) (w.map fun k : Nat => (k : Int)) (by rw [List.length_map]; omega)) ⟨(.t rfl), (.t rfl), trivial⟩ rfl ?_; refine W.gyes rfl rfl ?_; refine W.q (.not (.t rfl)) rfl ?_; refine W.q (.or (.t rfl) ⟨_, _, rfl, rfl, by ((simp; done))⟩) rfl ?_; refine W.n ?_; refine W.h ?_; refine W.isb 106 false rfl (by simp) ?_; refine W.condF (.t rfl) ?_; refine W.k ?_; refine W.h ?_; refine W.s ?_; refine W.s ?_; refine W.r ?_; refine W.q (.assign .k) rfl ?_; refine W.n ?_; refine W.h ?_; refine W.b ?_; refine W.loop (D := []) (ι := Nat) (fun i => [(22, true, .int (i : Int)), (14, true, .sl 1 ((Fit.upto 0 w.length).map AV.int))]) (fun _ => M0) (fun i => i ≤ w.length) (fun i => w.length - i) 0 ⟨rfl, rfl, trivial⟩ (by ((rw [List.append_nil]; done))) (Nat.zero_le _) ?_; intro i hi
 dsimp only at hi ⊢
 rcases (show i < w.length ∨ i = w.length from by omega) with hlt | hend
 ·have hgu := getD_map (Fit.upto 0 w.length) i (by omega)
  rw [Fit.upto_get _ _ _ hlt, Nat.zero_add] at hgu
  refine W.s (.s (.r (.mv rfl rfl (.mv rfl rfl (.q (.lensl (.t rfl) Tryz.underlying22) rfl (.q (.lti (.t rfl) (.t rfl)) rfl (.n (.h ?_)))))))); refine W.isb 110 true rfl (by exact decide_eq_true (by omega)) ?_; refine W.condT (.t rfl) (.k (.h (.s (.b (.s (.r (.mv rfl rfl (.mv rfl rfl ?_)))))))); refine W.q (.at (E := 3) (.t rfl) (.t rfl) Tryz.underlying22 ty3 (fun _ => ⟨by omega, hgu⟩) rfl rfl) rfl ?_; refine W.q (.lde1 (.t rfl) ag3) rfl (.mv rfl rfl (.q (.nei (.t rfl) (.t rfl)) rfl (.n (.h ?_)))); refine W.isb 118 false rfl (by simp) ?_; refine W.condF (.t rfl) (.k (.bn (.h (.r (.mv rfl rfl (.q (.add (.t rfl) .k (fun _ => by omega)) rfl ?_))))))
  refine W.q (.assign (.t rfl)) rfl ?_; refine W.n ?_; refine W.h ?_; refine W.reach (D := []) (i + 1) ⟨rfl, rfl, trivial⟩ (by ((rw [List.append_nil]; done))) ⟨hlt, by show w.length - (i + 1) < w.length - i; omega⟩
 ·skip
  refine W.s (.s (.r (.mv rfl rfl (.mv rfl rfl (.q (.lensl (.t rfl) Tryz.underlying22) rfl (.q (.lti (.t rfl) (.t rfl)) rfl (.n (.h ?_)))))))); refine W.isb 110 false rfl (by exact decide_eq_false (by omega)) ?_; refine W.condF (.t rfl) (.ex (.he (.he (.bh (.h (.s (.r (.q (.assign .k) rfl (.n (.h ?_)))))))))); refine W.ret ?_; refine W.retn (M' := M0) (D := []) (rs := [.tmp 6]) (avs := [_]) Tryz.results8 ⟨rfl, trivial⟩ rfl (by ((rw [List.append_nil]; done))) ?_
  exact ⟨rfl, rfl⟩
end LFitFixed
end Go.Proofs.YtphlkdbglpcikaaGreatDoor
