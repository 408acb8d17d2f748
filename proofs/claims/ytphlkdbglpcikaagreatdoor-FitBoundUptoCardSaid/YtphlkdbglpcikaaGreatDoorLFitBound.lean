/-
  The law FitBound, walked.
-/
import Derived.Test.YtphlkdbglpcikaaGreatDoorG15
set_option linter.unusedVariables false
set_option linter.unusedSimpArgs false
set_option maxRecDepth 100000
namespace Go.Proofs.YtphlkdbglpcikaaGreatDoor
open Go.Vl
open Y
namespace LFitBound
theorem c_FitBound (l : List Int) (t : Int) (kids : List Int) (hl : l.length ≤ 1048576) (hkd : kids.length ≤ 1048576) (M0 : List ME) (hI : ∀ n : Int, -1 ≤ n → n < 100 → FnC Tryz.prog 107 [.int n] M0 (fun r M => r = .str (itoa n) ∧ M = M0)) : FnC Tryz.prog 5 [.sl 1 (l.map AV.int), .int t, .sl 1 (kids.map AV.int)] M0 (fun r M => r = .bool true ∧ M = M0) :=  by
 refine FnC.mk Tryz.func5 (by kernel_rfl) rfl Tryz.ntmps5 rfl (fun w0 F => ?_)
 have hp0 := WTypes.pk_lt l 0 4 (by decide)
 have hp1 := WTypes.pk_lt l 1 3 (by decide)
 have hp2 := WTypes.pk_lt l 2 2 (by decide)
 have hp3 := WTypes.pk_lt l 3 3 (by decide)
 have hp4 := WTypes.pk_lt l 4 3 (by decide)
 have hp5 := WTypes.pk_lt l 5 2 (by decide)
 have hTy := WTypes.c_Types l (by omega)
 rw [Sch.tys_tyk] at hTy
 have hck := Sch.fit_all hp0 hp1 hp2 hp3 hp4 hp5
 have hb := Sch.mk_lt hp0 hp1 hp2 hp3 hp4 hp5
 generalize Sch.mk0 (Sch.pk l 0 4) = m0 at *
 generalize Sch.mk1 (Sch.pk l 1 3) = m1 at *
 generalize Sch.mk2 (Sch.pk l 2 2) = m2 at *
 generalize Sch.mk3 (Sch.pk l 3 3) = m3 at *
 generalize Sch.mk4 (Sch.pk l 4 3) = m4 at *
 generalize Sch.mk5 (Sch.pk l 5 2) = m5 at *
 obtain ⟨fin, hfk⟩ := Sch.chkFit_out hck
 have hg := Sch.good_tyk m0 m1 m2 m3 m4 m5 hb
 have hnm6 := Sch.name7 m0 m1 m2 m3 m4 m5
 have htl : (Sch.tyk m0 m1 m2 m3 m4 m5).length = 7 := rfl
 have hfin := hfk.sizes
 have hpos := hfk.pos
 have hall := Sch.any_of hpos
 have hfl : fin.length = 7 := by
  have := Sch.mso_len 10 _ _ hfin
  rwa [List.length_replicate] at this
 have hk0 := Int.emod_nonneg t (by decide : (6 : Int) ≠ 0)
 have hk1 := Int.emod_lt_of_pos t (by decide : (0 : Int) < 6)
 obtain ⟨k, hk⟩ : ∃ k : Nat, t % 6 = (k : Int) := ⟨(t % 6).toNat, by omega⟩
 have hPk := Base.c_Picked t 6 (by decide) (by decide)
 rw [hk] at hPk
 generalize Sch.tyk m0 m1 m2 m3 m4 m5 = ts at *
 generalize Sch.ask m0 m1 m2 m3 m4 m5 = as_ at *
 have htm : (ts.map tpv).length = 7 := by rw [List.length_map]; exact htl
 have gf := Fit.gf_of hg (by omega) hpos (t := k) (by omega)
 obtain ⟨o, hpot, hal0, ho0⟩ := Sch.leastB_out gf.sh (hfk.least k (by omega))
 obtain ⟨kl, hkl⟩ : ∃ q, ((kids.take 12).map fun z => (z % ((7 : Nat) : Int)).toNat) = q := ⟨_, rfl⟩
 have hkll : kl.length ≤ 12 := by rw [← hkl, List.length_map, List.length_take]; omega
 have hkl7 : ∀ q ∈ kl, q < 7 := fun q hq => by rw [← hkl] at hq; obtain ⟨z, _, rfl⟩ := List.mem_map.1 hq; have := Int.emod_nonneg z (by decide : ((7 : Nat) : Int) ≠ 0); have := Int.emod_lt_of_pos z (by decide : (0 : Int) < ((7 : Nat) : Int)); omega
 have hKi := WKids.c_Kids kids 12 7 (by decide) (by decide) (by decide) (by omega)
 rw [hkl] at hKi
 have hkl7t : ∀ q ∈ kl, q < ts.length := fun q hq => by rw [htl]; exact hkl7 q hq
 have hlmk : (kl.map fun k : Nat => AV.int (k : Int)).length = kl.length := List.length_map ..
 have hfkp := hpos _ (getD_memG 0 fin k (by omega))
 have hgl6 := getD_map fin 6 (by omega)
 have hglk := getD_map fin k (by omega)
 have hfm : (fin.map AV.int).length = 7 := by rw [List.length_map]; exact hfl
 rw [hfk.last] at hgl6
 refine W.s (.r (.q (.assign .k) rfl (.n (.h (.s (.r (.mv rfl rfl ?_))))))); refine W.callp (hTy) ⟨(.t rfl), trivial⟩ rfl ?_; refine W.asg rfl rfl (.n (.h (.s (.r (.mv rfl rfl ?_))))); refine W.callp (hPk) ⟨(.t rfl), .k, trivial⟩ rfl ?_; refine W.asg rfl rfl (.n (.h (.s (.r (.mv rfl rfl (.mv rfl rfl (.q (.lensl (.t rfl) Tryz.underlying23) rfl ?_))))))); refine W.is (t := 24) (av' := .int ((7 : Nat) : Int)) rfl (congrArg AV.int (by rw [htm])) ?_; refine W.call (hKi) ⟨(.t rfl), .k, (.t rfl), trivial⟩ (.refl _) rfl ?_
 rintro _ _ ⟨v25, rfl, rfl⟩
 refine W.freezeA (M1 := M0) (M2 := M0) (D := []) (v := v25) (L' := [(25, true, .sl 1 (kl.map fun k : Nat => AV.int (k : Int)))]) (by ((rw [List.append_nil]; exact .refl _))) ⟨⟨_, rfl, .one .hit⟩, trivial⟩ (FrzMs.refl _) ?_; refine W.asg rfl rfl (.n (.h (.s (.r (.mv rfl rfl ?_))))); refine W.app0 .k (.sl (.t rfl) (by intro e he; obtain ⟨t_, _, rfl⟩ := List.mem_map.1 he; rfl)) Tryz.underlying23 ni23 ty28 rfl rfl (by rw [htm]; decide) rfl ?_; refine W.call (WFill.c_Sizes ts as_ hg fin hfin hall M0 hI) ⟨(.t rfl), trivial⟩ ((by ((rw [List.append_nil]; done)))) rfl ?_
 rintro _ M' ⟨rfl, hM'⟩
 rw [hM', List.append_nil]
 refine W.mv rfl rfl (.q (.extract (.t rfl) rfl) rfl (.q (.extract (.t rfl) rfl) rfl (.asg rfl rfl (.asg rfl rfl (.n (.h (.s (.r (.mv rfl rfl (.mv rfl rfl (.mv rfl rfl ?_))))))))))); refine W.app0 .k (.sl (.t rfl) (by intro e he; obtain ⟨k_, _, rfl⟩ := List.mem_map.1 he; rfl)) Tryz.underlying22 ni22 ty3 rfl rfl (by rw [List.length_map]; omega) rfl ?_; refine W.call (WFit.c_Cost ts as_ hg fin hfin hall hpos M0 hI k (by omega) (hnm6 k (by omega)) kl (by omega) hkl7t) ⟨(.t rfl), (.t rfl), (.t rfl), trivial⟩ ((by ((rw [List.append_nil]; done)))) rfl ?_
 rintro _ M' ⟨⟨rows1, ho1, rfl⟩, hM'⟩
 rw [hM', List.append_nil]
 refine W.mv rfl rfl (.q (.extract (.t rfl) rfl) rfl (.q (.extract (.t rfl) rfl) rfl (.q (.extract (.t rfl) rfl) rfl (.asg rfl rfl (.asg rfl rfl (.asg rfl rfl (.n (.h (.s (.r (.mv rfl rfl (.mv rfl rfl ?_)))))))))))); refine W.call (WFit.c_Cost ts as_ hg fin hfin hall hpos M0 hI k (by omega) (hnm6 k (by omega)) [] (by decide) (fun k h => by cases h)) ⟨(.t rfl), (.t rfl), (by (exact .kn)), trivial⟩ ((by ((rw [List.append_nil]; done)))) rfl ?_
 rintro _ M' ⟨⟨rows2, ho2, rfl⟩, hM'⟩
 rw [hM', List.append_nil]
 have hbd := Fit.bound gf.sh gf.sz hpot hal0 ho1 ho2
 rw [ho0] at hbd
 refine W.mv rfl rfl (.q (.extract (.t rfl) rfl) rfl (.q (.extract (.t rfl) rfl) rfl (.q (.extract (.t rfl) rfl) rfl (.asg rfl rfl (.asg rfl rfl (.asg rfl rfl (.n (.h (.s (.s (.r ?_)))))))))))
 obtain ⟨zz, hzz⟩ : ∃ z, fin.getD k 0 = z := ⟨_, rfl⟩
 rw [hzz] at hglk hfkp hbd
 clear hzz
 refine W.mv rfl rfl (.q (.nei (.t rfl) .k) rfl (.mv rfl rfl (.isb 50 false rfl (by rfl) (.gyes rfl rfl (.mv rfl rfl (.gyes rfl rfl (.q (.nei (.t rfl) .k) rfl ?_))))))); refine W.q (.or (.t rfl) ⟨_, _, rfl, rfl, by ((simp; done))⟩) rfl ?_; refine W.mv rfl rfl (.isb 54 false rfl (by rfl) (.gyes rfl rfl (.mv rfl rfl (.gyes rfl rfl (.q (.nei (.t rfl) .k) rfl ?_))))); refine W.q (.or (.t rfl) ⟨_, _, rfl, rfl, by ((simp; done))⟩) rfl ?_; refine W.mv rfl rfl (.isb 58 false rfl (by rfl) (.gyes rfl rfl (.mv rfl rfl (.gyes rfl rfl (.q (.lensl (.t rfl) Tryz.underlying22) rfl ?_))))); refine W.is (t := 60) (av' := .int 7) rfl (congrArg AV.int (by rw [hfm]; rfl)) ?_; refine W.gyes rfl rfl (.mv rfl rfl (.gyes rfl rfl (.q (.lensl (.t rfl) Tryz.underlying23) rfl ?_))); refine W.is (t := 62) (av' := .int 7) rfl (congrArg AV.int (by rw [htm]; rfl)) ?_; refine W.gyes rfl rfl (.q (.nei (.t rfl) (.t rfl)) rfl ?_); refine W.q (.or (.t rfl) ⟨_, _, rfl, rfl, by ((simp; done))⟩) rfl ?_; refine W.mv rfl rfl (.isb 65 false rfl (by rfl) (.gyes rfl rfl (.mv rfl rfl (.gyes rfl rfl ?_)))); refine W.q (.at (E := 3) (.t rfl) .k Tryz.underlying22 ty3 (fun _ => ⟨by omega, hgl6⟩) rfl rfl) rfl ?_; refine W.gyes rfl rfl (.q (.lde1 (.t rfl) ag3) rfl (.gyes rfl rfl (.q (.nei (.t rfl) .k) rfl ?_))); refine W.q (.or (.t rfl) ⟨_, _, rfl, rfl, by ((simp; done))⟩) rfl ?_; refine W.n (.h (.isb 70 false rfl (by rfl) (.condF (.t rfl) (.k (.h (.s (.r (.mv rfl rfl (.q (.gei (.t rfl) .k) rfl (.mv rfl rfl ?_)))))))))); refine W.isb 73 true rfl (by simp; omega) ?_; refine W.gyes rfl rfl (.mv rfl rfl (.gyes rfl rfl (.mv rfl rfl (.gyes rfl rfl (.q (.lensl (.t rfl) Tryz.underlying22) rfl (.gyes rfl rfl (.q (.lei (.t rfl) (.t rfl)) rfl ?_))))))); refine W.q (.and (.t rfl) ⟨_, _, rfl, rfl, by ((simp; done))⟩) rfl ?_; refine W.mv rfl rfl ?_; refine W.isb 79 true rfl (by simp; omega) ?_; refine W.gyes rfl rfl (.mv rfl rfl (.gyes rfl rfl (.q (.eqi (.t rfl) .k) rfl ?_))); refine W.q (.and (.t rfl) ⟨_, _, rfl, rfl, by ((simp; done))⟩) rfl ?_; refine W.mv rfl rfl ?_; refine W.isb 83 true rfl (by simp; omega) ?_; refine W.gyes rfl rfl (.mv rfl rfl (.gyes rfl rfl (.mv rfl rfl (.gyes rfl rfl (.mv rfl rfl (.gyes rfl rfl ?_)))))); refine W.q (.at (E := 3) (.t rfl) (.t rfl) Tryz.underlying22 ty3 (fun _ => ⟨by omega, hglk⟩) rfl rfl) rfl ?_; refine W.gyes rfl rfl (.q (.lde1 (.t rfl) ag3) rfl (.gyes rfl rfl (.q (.sub (.t rfl) .k (fun _ => by omega)) rfl (.gyes rfl rfl (.q (.eqi (.t rfl) (.t rfl)) rfl ?_))))); refine W.q (.and (.t rfl) ⟨_, _, rfl, rfl, by ((simp; done))⟩) rfl ?_; refine W.mv rfl rfl ?_; refine W.isb 92 true rfl (by simp; omega) ?_; refine W.gyes rfl rfl (.mv rfl rfl (.gyes rfl rfl (.mv rfl rfl (.gyes rfl rfl (.q (.lensl (.t rfl) Tryz.underlying22) rfl (.gyes rfl rfl (.q (.lti (.t rfl) (.t rfl)) rfl (.gyes rfl rfl (.mv rfl rfl (.qgF rfl rfl (.move (.t rfl)) rfl (.qgF rfl rfl (.move (.t rfl)) rfl (.qgF rfl rfl (.eqi (.c rfl) (.c rfl)) rfl (.gyes rfl rfl ?_))))))))))))); refine W.q (.or (.t rfl) ⟨_, _, rfl, rfl, by ((simp; done))⟩) rfl ?_; refine W.q (.and (.t rfl) ⟨_, _, rfl, rfl, by ((simp; done))⟩) rfl ?_; refine W.asg rfl rfl (.n (.h ?_)); refine W.ret ?_; refine W.retn (M' := M0) (D := []) (rs := [.tmp 6]) (avs := [_]) Tryz.results5 ⟨rfl, trivial⟩ rfl (by ((rw [List.append_nil]; done))) ?_
 exact ⟨congrArg AV.bool (by simp; omega), rfl⟩
end LFitBound
end Go.Proofs.YtphlkdbglpcikaaGreatDoor
