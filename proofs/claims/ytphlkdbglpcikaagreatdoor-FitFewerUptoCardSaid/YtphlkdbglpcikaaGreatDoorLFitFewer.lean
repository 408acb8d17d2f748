/-
  The law FitFewer, walked.
-/
import Derived.Test.YtphlkdbglpcikaaGreatDoorG15
set_option linter.unusedVariables false
set_option linter.unusedSimpArgs false
set_option maxRecDepth 100000
namespace Go.Proofs.YtphlkdbglpcikaaGreatDoor
open Go.Vl
open Y
namespace LFitFewer
theorem c_FitFewer (l : List Int) (t : Int) (kids : List Int) (at_ : Int) (hl : l.length ≤ 1048576) (hkd : kids.length ≤ 1048576) (M0 : List ME) (hI : ∀ n : Int, -1 ≤ n → n < 100 → FnC Tryz.prog 107 [.int n] M0 (fun r M => r = .str (itoa n) ∧ M = M0)) : FnC Tryz.prog 4 [.sl 1 (l.map AV.int), .int t, .sl 1 (kids.map AV.int), .int at_] M0 (fun r M => r = .bool true ∧ M = M0) :=  by
 refine FnC.mk Tryz.func4 (by kernel_rfl) rfl Tryz.ntmps4 rfl (fun w0 F => ?_)
 have hp0 := WTypes.pk_lt l 0 4 (by decide)
 have hp1 := WTypes.pk_lt l 1 3 (by decide)
 have hp2 := WTypes.pk_lt l 2 2 (by decide)
 have hp3 := WTypes.pk_lt l 3 3 (by decide)
 have hp4 := WTypes.pk_lt l 4 3 (by decide)
 have hp5 := WTypes.pk_lt l 5 2 (by decide)
 have hTy := WTypes.c_Types l (by omega)
 rw [Sch.tys_tyk] at hTy
 have hck := Sch.fit_all hp0 hp1 hp2 hp3 hp4 hp5
 have hb := Sch.mk_lt hp0 hp1 hp2 hp3 hp4 hp5
 generalize Sch.mk0 (Sch.pk l 0 4) = m0 at *
 generalize Sch.mk1 (Sch.pk l 1 3) = m1 at *
 generalize Sch.mk2 (Sch.pk l 2 2) = m2 at *
 generalize Sch.mk3 (Sch.pk l 3 3) = m3 at *
 generalize Sch.mk4 (Sch.pk l 4 3) = m4 at *
 generalize Sch.mk5 (Sch.pk l 5 2) = m5 at *
 obtain ⟨fin, hfk⟩ := Sch.chkFit_out hck
 have hg := Sch.good_tyk m0 m1 m2 m3 m4 m5 hb
 have hnm6 := Sch.name7 m0 m1 m2 m3 m4 m5
 have htl : (Sch.tyk m0 m1 m2 m3 m4 m5).length = 7 := rfl
 have hfin := hfk.sizes
 have hpos := hfk.pos
 have hall := Sch.any_of hpos
 have hfl : fin.length = 7 := by
  have := Sch.mso_len 10 _ _ hfin
  rwa [List.length_replicate] at this
 have hk0 := Int.emod_nonneg t (by decide : (6 : Int) ≠ 0)
 have hk1 := Int.emod_lt_of_pos t (by decide : (0 : Int) < 6)
 obtain ⟨k, hk⟩ : ∃ k : Nat, t % 6 = (k : Int) := ⟨(t % 6).toNat, by omega⟩
 have hPk := Base.c_Picked t 6 (by decide) (by decide)
 rw [hk] at hPk
 generalize Sch.tyk m0 m1 m2 m3 m4 m5 = ts at *
 generalize Sch.ask m0 m1 m2 m3 m4 m5 = as_ at *
 have htm : (ts.map tpv).length = 7 := by rw [List.length_map]; exact htl
 have gf := Fit.gf_of hg (by omega) hpos (t := k) (by omega)
 obtain ⟨o, hpot, hal0, ho0⟩ := Sch.leastB_out gf.sh (hfk.least k (by omega))
 obtain ⟨kl, hkl⟩ : ∃ q, ((kids.take 12).map fun z => (z % ((7 : Nat) : Int)).toNat) = q := ⟨_, rfl⟩
 have hkll : kl.length ≤ 12 := by rw [← hkl, List.length_map, List.length_take]; omega
 have hkl7 : ∀ q ∈ kl, q < 7 := fun q hq => by rw [← hkl] at hq; obtain ⟨z, _, rfl⟩ := List.mem_map.1 hq; have := Int.emod_nonneg z (by decide : ((7 : Nat) : Int) ≠ 0); have := Int.emod_lt_of_pos z (by decide : (0 : Int) < ((7 : Nat) : Int)); omega
 have hKi := WKids.c_Kids kids 12 7 (by decide) (by decide) (by decide) (by omega)
 rw [hkl] at hKi
 obtain ⟨kl2, hkl2⟩ : ∃ q, kl ++ [1] = q := ⟨_, rfl⟩
 have hl2 : kl2.length = kl.length + 1 := by rw [← hkl2, List.length_append]; rfl
 have hk27 : ∀ q ∈ kl2, q < ts.length := fun q hq => by rw [← hkl2] at hq; rcases List.mem_append.1 hq with h | h; have := hkl7 q h; omega; rw [List.mem_singleton.1 h]; omega
 have hi0 := Int.emod_nonneg at_ (by omega : (kl2.length : Int) ≠ 0)
 have hi1 := Int.emod_lt_of_pos at_ (by omega : (0 : Int) < kl2.length)
 obtain ⟨i, hi⟩ : ∃ i : Nat, at_ % (kl2.length : Int) = (i : Int) := ⟨(at_ % (kl2.length : Int)).toNat, by omega⟩
 have hPi := Base.c_Picked at_ (kl2.length : Int) (by omega) (by omega)
 rw [hi] at hPi
 have hlm2 : (kl2.map fun k : Nat => AV.int (k : Int)).length = kl2.length := List.length_map ..
 have hsplit : kl2 = kl2.take i ++ kl2.getD i 0 :: kl2.drop (i + 1) := by rw [← Fit.drop_cons (by omega), List.take_append_drop]
 have hfewl : (kl2.take i ++ kl2.drop (i + 1)).length ≤ 40 := by rw [List.length_append, List.length_take, List.length_drop]; omega
 have hfew7 : ∀ q ∈ (kl2.take i ++ kl2.drop (i + 1)), q < ts.length := fun q hq => by rcases List.mem_append.1 hq with h | h; exact hk27 q (List.mem_of_mem_take h); exact hk27 q (List.mem_of_mem_drop h)
 refine W.s (.r (.q (.assign .k) rfl (.n (.h (.s (.r (.mv rfl rfl ?_))))))); refine W.callp (hTy) ⟨(.t rfl), trivial⟩ rfl ?_; refine W.asg rfl rfl (.n (.h (.s (.r (.mv rfl rfl ?_))))); refine W.callp (hPk) ⟨(.t rfl), .k, trivial⟩ rfl ?_; refine W.asg rfl rfl (.n (.h (.s (.r (.mv rfl rfl (.mv rfl rfl (.q (.lensl (.t rfl) Tryz.underlying23) rfl ?_))))))); refine W.is (t := 29) (av' := .int ((7 : Nat) : Int)) rfl (congrArg AV.int (by rw [htm])) ?_; refine W.call (hKi) ⟨(.t rfl), .k, (.t rfl), trivial⟩ (.refl _) rfl ?_
 rintro _ _ ⟨v30, rfl, rfl⟩
 refine W.bs (es := [_]) Tryz.underlying22 ty3 ⟨rfl, .k, rfl, rfl, trivial⟩ rfl (by decide) rfl rfl ?_; refine W.app 0 (.t rfl) rfl (.sl (.t rfl) (by ((simp [AV.okc, shV]; done)))) Tryz.underlying22 ni22 ty3 rfl rfl (by rw [List.length_map]; simp only [List.length_cons, List.length_nil]; omega) rfl ?_
 intro v32; refine W.freezeA (M1 := M0) (M2 := M0) (D := []) (v := v32) (L' := [(32, true, .sl 1 (kl2.map fun k : Nat => AV.int (k : Int)))]) (by rw [List.append_nil, ← hkl2, List.map_append]; exact .refl _) ⟨⟨_, rfl, .one .hit⟩, trivial⟩ (FrzMs.refl _) ?_; refine W.q (.assign (.t rfl)) rfl ?_; refine W.n ?_; refine W.h ?_; refine W.s ?_; refine W.r ?_; refine W.q (.move (.t rfl)) rfl ?_; refine W.q (.move (.t rfl)) rfl ?_
 refine W.q (.lensl (.t rfl) Tryz.underlying22) rfl ?_
 refine W.is (t := 35) (av' := .int (kl2.length : Int)) rfl (congrArg AV.int (by rw [hlm2])) ?_; refine W.callp (hPi) ⟨(.t rfl), (.t rfl), trivial⟩ rfl ?_; refine W.q (.assign (.t rfl)) rfl ?_; refine W.n ?_; refine W.h ?_; refine W.s ?_; refine W.drawnM (fun ee cc => (bif ee 8 then [ME.arr (cc 8).2 3 1 (((kl2.take i).map fun k : Nat => AV.int (k : Int)) ++ ((kl2.drop (i + 1)).map fun k : Nat => AV.int (k : Int)))] else bif ee 3 then [ME.arr (cc 3).2 3 1 ((kl2.take i).map fun k : Nat => AV.int (k : Int))] else []) ++ M0) (c0 := ks0) (by kernel_rfl) (by kernel_rfl) rfl ?_; refine DM.q (fun e c hk => (.move (.t rfl))) rfl (fun _ _ => rfl) (fun _ _ _ => rfl) ?_; refine DM.q (fun e c hk => (.move (.t rfl))) rfl (fun _ _ => rfl) (fun _ _ _ => rfl) ?_; refine DM.q (av := fun _ => .sl 1 ((kl2.take i).map fun k : Nat => AV.int (k : Int))) (fun e c hk_ => Ev.as_ (.takesl (n := i) (.t rfl) Tryz.underlying22 ty3 (.t rfl) rfl (fun _ => by omega)) (congrArg (AV.sl 1) (by rw [List.map_take]))) rfl (fun _ _ => rfl) (fun _ _ _ => rfl) ?_; refine DM.eff1 (av := fun c => .lit (c 3).2) rfl (fun c c_ h => by (simp only [h 3 (by (exact .inl rfl))])) (fun e c hk L_ hs Q h => ?_) ?_
 ·have hk_3 := hk.not
  have hk_8 := hk.down 8 (by kernel_rfl)
  simp only [addE, upd, eq_self, List.nil_append, List.cons_append, List.append_nil, hk_3, hk_8, Nat.reduceAdd, Nat.reduceEqDiff, ↓reduceIte, cond_true, cond_false] at h ⊢
  ((refine W.appn .k (.sl (.t (hs _ _ rfl)) (by intro e he; obtain ⟨k_, _, rfl⟩ := List.mem_map.1 he; rfl)) Tryz.underlying22 ni22 ty3 rfl rfl (by rw [List.length_map, List.length_take]; omega) rfl ?_; exact fun v => h (0, v) _ (by (exact .refl _))))
 refine DM.q (fun e c hk => (.move (.t rfl))) rfl (fun _ _ => rfl) (fun _ _ _ => rfl) (.q (fun e c hk => (.move (.t rfl))) rfl (fun _ _ => rfl) (fun _ _ _ => rfl) (.q (fun e c hk => (.add (.t rfl) .k (fun _ => by omega))) rfl (fun _ _ => rfl) (fun _ _ _ => rfl) ?_))
 refine DM.q (av := fun _ => .sl 1 ((kl2.drop (i + 1)).map fun k : Nat => AV.int (k : Int))) (fun e c hk_ => Ev.as_ (.dropsl (n := i + 1) (.t rfl) Tryz.underlying22 ty3 (.t rfl) (by omega) (fun _ => by omega)) (congrArg (AV.sl 1) (by rw [List.map_drop]))) rfl (fun _ _ => rfl) (fun _ _ _ => rfl) ?_; refine DM.eff1 (av := fun c => .lit (c 8).2) rfl (fun c c_ h => by (simp only [h 3 (by (exact .inr (by kernel_rfl))), h 8 (by (exact .inl rfl))])) (fun e c hk L_ hs Q h => ?_) ?_
 ·have hk_8 := hk.not
  have hk_3 := hk.up 3 (by kernel_rfl)
  simp only [addE, upd, eq_self, List.nil_append, List.cons_append, List.append_nil, hk_8, hk_3, Nat.reduceAdd, Nat.reduceEqDiff, ↓reduceIte, cond_true, cond_false] at h ⊢
  ((refine W.app 0 (.t (hs _ _ rfl)) rfl (.sl (.t (hs _ _ rfl)) (by intro e he; obtain ⟨k_, _, rfl⟩ := List.mem_map.1 he; rfl)) Tryz.underlying22 ni22 ty3 rfl rfl (by rw [List.length_map, List.length_map, List.length_take, List.length_drop]; omega) rfl ?_; exact fun v => h (0, v) _ (by (exact .refl _))))
 refine DM.q (fun e c hk => (.assign (.t rfl))) rfl (fun _ _ => rfl) (fun c c_ h => by (simp only [h 3 (by (exact .inr (by kernel_rfl))), h 8 (by (exact .inr (by kernel_rfl)))])) ?_; refine DM.nil (fun cc e_ he_ => ?_)
 simp only [he_ 3 (by decide), he_ 8 (by decide), cond_true, cond_false]
 refine W.freezeA (M1 := M0) (M2 := M0) (D := []) (v := (cc 8).2) (L' := [(13, true, .sl 1 ((kl2.take i ++ kl2.drop (i + 1)).map fun k : Nat => AV.int (k : Int)))]) (by rw [List.append_nil, List.map_append]; exact .refl _) ⟨⟨_, rfl, .one .hit⟩, trivial⟩ (FrzMs.refl _) ?_; refine W.h (.s (.r (.mv rfl rfl (.mv rfl rfl (.mv rfl rfl ?_))))); refine W.app0 .k (.sl (.t rfl) (by intro e he; obtain ⟨k_, _, rfl⟩ := List.mem_map.1 he; rfl)) Tryz.underlying22 ni22 ty3 rfl rfl (by rw [List.length_map]; omega) rfl ?_; refine W.call (WFit.c_Cost ts as_ hg fin hfin hall hpos M0 hI k (by omega) (hnm6 k (by omega)) kl2 (by omega) hk27) ⟨(.t rfl), (.t rfl), (.t rfl), trivial⟩ ((by ((rw [List.append_nil]; done)))) rfl ?_
 rintro _ M' ⟨⟨rows1, ho1, rfl⟩, hM'⟩
 rw [hM']
 rw [List.append_nil]
 refine W.mv rfl rfl (.q (.extract (.t rfl) rfl) rfl (.q (.extract (.t rfl) rfl) rfl (.q (.extract (.t rfl) rfl) rfl (.asg rfl rfl (.asg rfl rfl (.asg rfl rfl (.n (.h (.s (.r (.mv rfl rfl (.mv rfl rfl (.mv rfl rfl ?_))))))))))))); refine W.call (WFit.c_Cost ts as_ hg fin hfin hall hpos M0 hI k (by omega) (hnm6 k (by omega)) (kl2.take i ++ kl2.drop (i + 1)) hfewl hfew7) ⟨(.t rfl), (.t rfl), (.t rfl), trivial⟩ ((by ((rw [List.append_nil]; done)))) rfl ?_
 rintro _ M' ⟨⟨rows2, ho2, rfl⟩, hM'⟩
 rw [hM']
 rw [List.append_nil]
 refine W.mv rfl rfl (.q (.extract (.t rfl) rfl) rfl (.q (.extract (.t rfl) rfl) rfl (.q (.extract (.t rfl) rfl) rfl (.asg rfl rfl (.asg rfl rfl (.asg rfl rfl (.n (.h (.s (.r (.q (.build ty28 st28 rfl (fun hg => ⟨_, _, _, rfl, .k, rfl, rfl, rfl, _, _, _, rfl, .k, rfl, rfl, rfl, rfl⟩)) rfl ?_))))))))))); refine W.nils (t := 64) (g := true) (cs' := [.str [97], .str (Sch.txt 13), .sl 1 []]) rfl ⟨.inl rfl, .inl rfl, .inr ⟨rfl, 1, rfl⟩, trivial⟩ ?_; refine W.q (.build ty28 st28 rfl (fun hg => ⟨_, _, _, rfl, .k, rfl, rfl, rfl, rfl⟩)) rfl ?_; refine W.nils (t := 65) (g := true) (cs' := [.str [98], .str (Sch.txt 12), .sl 1 []]) rfl ⟨.inl rfl, .inl rfl, .inr ⟨rfl, 1, rfl⟩, trivial⟩ ?_; refine W.bs (es := [_, _]) Tryz.underlying23 ty28 ⟨rfl, (.t rfl), rfl, rfl, rfl, (.t rfl), rfl, rfl, trivial⟩ rfl (by decide) rfl rfl ?_; refine W.call (WFit.c_Cost Sch.ts2 Sch.as2 Sch.good2 [2, 1] Sch.sizes2 (Sch.any_of Sch.pos2) Sch.pos2 M0 hI 0 (by decide) (by decide) [] (by decide) (fun k h => by cases h)) ⟨(.t rfl), .k, (by (exact .kn)), trivial⟩ ((by ((rw [List.append_nil]; done)))) rfl ?_
 rintro _ M' ⟨⟨rows3, ho3, rfl⟩, hM'⟩
 rw [hM']
 rw [List.append_nil]
 refine W.mv rfl rfl (.q (.extract (.t rfl) rfl) rfl (.q (.extract (.t rfl) rfl) rfl (.q (.extract (.t rfl) rfl) rfl (.asg rfl rfl (.asg rfl rfl (.asg rfl rfl (.n (.h (.s (.r ?_))))))))))
 have hgf2 := Fit.gf_of Sch.good2 rfl Sch.pos2 (t := 0) (by decide)
 obtain ⟨o2, hp2, ha2, he2⟩ := Sch.leastB_out hgf2.sh Sch.least2
 have hbd := Fit.bound hgf2.sh hgf2.sz hp2 ha2 ho3 ho3
 have hone : (Fit.cel rows3 0 0).f = 1 := by rw [hbd.2.2.1, he2]; rfl
 rw [hsplit] at ho1
 have hfw := Fit.fewer gf.sh ho1 ho2 ⟨_, hal0⟩
 have hok2 := ho2.ok0 gf.sh ⟨_, _, hal0.all _⟩
 have hnn := (ho2.al0 gf.sh hok2).nn gf.sz
 refine W.mv rfl rfl (.q (.eqi (.t rfl) .k) rfl (.mv rfl rfl (.isb 73 true rfl (by rfl) (.gyes rfl rfl (.mv rfl rfl (.gyes rfl rfl (.q (.eqi (.t rfl) .k) rfl ?_))))))); refine W.q (.and (.t rfl) ⟨_, _, rfl, rfl, by ((simp; done))⟩) rfl ?_; refine W.mv rfl rfl (.isb 77 true rfl (by rfl) (.gyes rfl rfl (.mv rfl rfl (.gyes rfl rfl (.q (.eqi (.t rfl) .k) rfl ?_))))); refine W.q (.and (.t rfl) ⟨_, _, rfl, rfl, by ((simp; done))⟩) rfl ?_; refine W.mv rfl rfl (.isb 81 true rfl (by rfl) (.gyes rfl rfl (.mv rfl rfl (.gyes rfl rfl (.q (.eqi (.t rfl) .k) rfl ?_))))); refine W.q (.and (.t rfl) ⟨_, _, rfl, rfl, by ((simp; done))⟩) rfl ?_; refine W.mv rfl rfl ?_; refine W.isb 85 true rfl (by rw [hone]; rfl) ?_; refine W.gyes rfl rfl (.mv rfl rfl (.gyes rfl rfl (.mv rfl rfl (.gyes rfl rfl (.q (.lei (.t rfl) (.t rfl)) rfl ?_))))); refine W.q (.and (.t rfl) ⟨_, _, rfl, rfl, by ((simp; done))⟩) rfl ?_; refine W.mv rfl rfl ?_; refine W.isb 90 true rfl (by simp; omega) ?_; refine W.gyes rfl rfl (.mv rfl rfl (.gyes rfl rfl (.mv rfl rfl (.gyes rfl rfl (.q (.add (.t rfl) .k (fun _ => by omega)) rfl (.gyes rfl rfl (.q (.lei (.t rfl) (.t rfl)) rfl ?_))))))); refine W.q (.and (.t rfl) ⟨_, _, rfl, rfl, by ((simp; done))⟩) rfl ?_; refine W.asg rfl rfl (.n (.h ?_)); refine W.ret ?_; refine W.retn (M' := M0) (D := []) (rs := [.tmp 8]) (avs := [_]) Tryz.results4 ⟨rfl, trivial⟩ rfl (by ((rw [List.append_nil]; done))) ?_
 exact ⟨congrArg AV.bool (by simp; omega), rfl⟩
end LFitFewer
end Go.Proofs.YtphlkdbglpcikaaGreatDoor
