/-
  The law FitTree, walked.
-/
import Derived.Test.YtphlkdbglpcikaaGreatDoorG14
set_option linter.unusedVariables false
set_option linter.unusedSimpArgs false
set_option maxRecDepth 100000
namespace Go.Proofs.YtphlkdbglpcikaaGreatDoor
open Go.Vl
open Y
namespace LFitTree
theorem c_FitTree (l : List Int) (kids : List Int) (hl : l.length ≤ 1048576) (hkd : kids.length ≤ 1048576) (M0 : List ME) (hI : ∀ n : Int, -1 ≤ n → n < 100 → FnC Tryz.prog 107 [.int n] M0 (fun r M => r = .str (itoa n) ∧ M = M0)) : FnC Tryz.prog 10 [.sl 1 (l.map AV.int), .sl 1 (kids.map AV.int)] M0 (fun r M => r = .bool true ∧ M = M0) :=  by
 refine FnC.mk Tryz.func10 (by kernel_rfl) rfl Tryz.ntmps10 rfl (fun w0 F => ?_)
 have hp0 := WTypes.pk_lt l 0 4 (by decide)
 have hp1 := WTypes.pk_lt l 1 3 (by decide)
 have hp2 := WTypes.pk_lt l 2 2 (by decide)
 have hp3 := WTypes.pk_lt l 3 3 (by decide)
 have hp4 := WTypes.pk_lt l 4 3 (by decide)
 have hp5 := WTypes.pk_lt l 5 2 (by decide)
 have hTy := WTypes.c_Types l (by omega)
 rw [Sch.tys_tyk] at hTy
 have hck := Sch.tree_all hp0 hp1 hp2 hp3 hp4 hp5
 have hb := Sch.mk_lt hp0 hp1 hp2 hp3 hp4 hp5
 have hck2 := Sch.fit_all hp0 hp1 hp2 hp3 hp4 hp5
 generalize Sch.mk0 (Sch.pk l 0 4) = m0 at *
 generalize Sch.mk1 (Sch.pk l 1 3) = m1 at *
 generalize Sch.mk2 (Sch.pk l 2 2) = m2 at *
 generalize Sch.mk3 (Sch.pk l 3 3) = m3 at *
 generalize Sch.mk4 (Sch.pk l 4 3) = m4 at *
 generalize Sch.mk5 (Sch.pk l 5 2) = m5 at *
 obtain ⟨fin, hfin, hpos, htr⟩ := Sch.chkTree_out hck
 have hg := Sch.good_tyk m0 m1 m2 m3 m4 m5 hb
 have hnm6 := Sch.name7 m0 m1 m2 m3 m4 m5
 have htl : (Sch.tyk m0 m1 m2 m3 m4 m5).length = 7 := rfl
 have hall := Sch.any_of hpos
 have hfl : fin.length = 7 := by
  have := Sch.mso_len 10 _ _ hfin
  rwa [List.length_replicate] at this
 obtain ⟨fin2, hfk⟩ := Sch.chkFit_out hck2
 obtain rfl : fin = fin2 := Option.some.inj (hfin.symm.trans hfk.sizes)
 have hixn := Fit.idx_name m0 m1 m2 m3 m4 m5
 generalize Sch.tyk m0 m1 m2 m3 m4 m5 = ts at *
 generalize Sch.ask m0 m1 m2 m3 m4 m5 = as_ at *
 have htm : (ts.map tpv).length = 7 := by rw [List.length_map]; exact htl
 have gf := Fit.gf_of hg (by omega) hpos (t := 0) (by omega)
 obtain ⟨o, hpot, hal0, ho0⟩ := Sch.leastB_out gf.sh (hfk.least 0 (by omega))
 obtain ⟨kl, hkl⟩ : ∃ q, ((kids.take 15).map fun z => (z % ((7 : Nat) : Int)).toNat) = q := ⟨_, rfl⟩
 have hkll : kl.length ≤ 15 := by rw [← hkl, List.length_map, List.length_take]; omega
 have hkl7 : ∀ q ∈ kl, q < 7 := fun q hq => by rw [← hkl] at hq; obtain ⟨z, _, rfl⟩ := List.mem_map.1 hq; have := Int.emod_nonneg z (by decide : ((7 : Nat) : Int) ≠ 0); have := Int.emod_lt_of_pos z (by decide : (0 : Int) < ((7 : Nat) : Int)); omega
 have hKi := WKids.c_Kids kids 15 7 (by decide) (by decide) (by decide) (by omega)
 rw [hkl] at hKi
 have hkl7t : ∀ q ∈ kl, q < ts.length := fun q hq => by rw [htl]; exact hkl7 q hq
 have hlmk : (kl.map fun k : Nat => AV.int (k : Int)).length = kl.length := List.length_map ..
 obtain ⟨Dq, hDq⟩ : ∃ D : Nat → Nd, (fun q => (Sch.treeN ts as_ fin 6 q).getD Nd.dflt) = D := ⟨_, rfl⟩
 have hDt : ∀ q, q < 7 → Sch.treeN ts as_ fin 6 q = some (Dq q) ∧ Sch.faultN ts as_ 7 (Dq q) q = some 0 ∧ Sch.idxT ts (Dq q).name = (q : Int) := fun q hq => by
  obtain ⟨d, hd, _, hf, _⟩ := htr.tree q hq
  have e : Dq q = d := by rw [← hDq]; show (Sch.treeN ts as_ fin 6 q).getD Nd.dflt = d; rw [hd]; rfl
  rw [e]
  exact ⟨hd, hf, by rw [Fit.treeN_nm hd]; exact hixn q hq⟩
 have hn0 := hnm6 0 (by decide)
 have hg00 := getD_mapG tpv Sch.dT ts 0 (by omega)
 obtain ⟨nm0, hnm0⟩ : ∃ q, (ts.getD 0 Sch.dT).name = q := ⟨_, rfl⟩
 refine W.s (.r (.q (.assign .k) rfl (.n (.h (.s (.r (.mv rfl rfl ?_))))))); refine W.callp (hTy) ⟨(.t rfl), trivial⟩ rfl ?_; refine W.asg rfl rfl (.n (.h (.s (.r (.mv rfl rfl (.mv rfl rfl (.q (.lensl (.t rfl) Tryz.underlying23) rfl ?_))))))); refine W.is (t := 23) (av' := .int ((7 : Nat) : Int)) rfl (congrArg AV.int (by rw [htm])) ?_; refine W.call (hKi) ⟨(.t rfl), .k, (.t rfl), trivial⟩ (.refl _) rfl ?_
 rintro _ _ ⟨v24, rfl, rfl⟩
 refine W.freezeA (M1 := M0) (M2 := M0) (D := []) (v := v24) (L' := [(24, true, .sl 1 (kl.map fun k : Nat => AV.int (k : Int)))]) (by ((rw [List.append_nil]; exact .refl _))) ⟨⟨_, rfl, .one .hit⟩, trivial⟩ (FrzMs.refl _) ?_; refine W.asg rfl rfl (.n (.h (.s (.r (.mv rfl rfl ?_))))); refine W.app0 .k (.sl (.t rfl) (by intro e he; obtain ⟨t_, _, rfl⟩ := List.mem_map.1 he; rfl)) Tryz.underlying23 ni23 ty28 rfl rfl (by rw [htm]; decide) rfl ?_; refine W.mv rfl rfl ?_; refine W.app0 .k (.sl (.t rfl) (by intro e he; obtain ⟨k_, _, rfl⟩ := List.mem_map.1 he; rfl)) Tryz.underlying22 ni22 ty3 rfl rfl (by rw [List.length_map]; omega) rfl ?_; refine W.call (WFit.c_Fit ts as_ hg fin hfin hall hpos M0 hI 0 (by omega) (hnm6 0 (by omega)) kl (by omega) hkl7t ⟨_, _, hal0.all _⟩) ⟨(.t rfl), .k, (.t rfl), trivial⟩ ((by ((rw [List.append_nil]; done)))) rfl ?_
 rintro _ M' ⟨⟨rows1, ma, w, fr, ho1, hTr1, rfl⟩, hM'⟩
 rw [hM', List.append_nil]
 have hok1 := ho1.ok0 gf.sh ⟨_, _, hal0.all _⟩
 have hacc := hTr1.acc gf.sh gf.sz ho1 (Nat.zero_le _) gf.sh.pos hok1
 have hw7 : ∀ q ∈ w, q < ts.length := hTr1.letters hkl7t (fun i n h => by have := gf.col i n h; omega)
 have hwl : w.length ≤ 30 := Sch.wlenG hg gf (by omega) ho1 hTr1 (by omega)
 have hwm : (w.map fun k : Nat => AV.int (k : Int)).length = w.length := List.length_map ..
 have hfr0 := hTr1.from_ gf.sh ho1 (Nat.zero_le _) gf.sh.pos
 have hfo := hTr1.frok (-1) (by decide)
 have hfm : (fr.map AV.int).length = fr.length := List.length_map ..
 have hul := Fit.used_le fr
 have hbo1 := (ho1.al0 gf.sh hok1).nn gf.sz
 refine W.mv rfl rfl (.q (.extract (.t rfl) rfl) rfl (.q (.extract (.t rfl) rfl) rfl (.q (.extract (.t rfl) rfl) rfl (.asg rfl rfl (.asg rfl rfl (.asg rfl rfl (.n (.h (.s (.r (.mv rfl rfl (.mv rfl rfl ?_)))))))))))); refine W.app0 .k (.sl (.t rfl) (by intro e he; obtain ⟨k_, _, rfl⟩ := List.mem_map.1 he; rfl)) Tryz.underlying22 ni22 ty3 rfl rfl (by rw [List.length_map]; omega) rfl ?_; refine W.call (WFit.c_Cost ts as_ hg fin hfin hall hpos M0 hI 0 (by omega) (hnm6 0 (by omega)) kl (by omega) hkl7t) ⟨(.t rfl), .k, (.t rfl), trivial⟩ ((by ((rw [List.append_nil]; done)))) rfl ?_
 rintro _ M' ⟨⟨rows2, ho2, rfl⟩, hM'⟩
 rw [hM', List.append_nil]
 have hok2 := ho2.ok0 gf.sh ⟨_, _, hal0.all _⟩
 have hle1 := (ho1.le0 gf.sh (ho2.al0 gf.sh hok2)).2
 have hle2 := (ho2.le0 gf.sh (ho1.al0 gf.sh hok1)).2
 have hbo2 := (ho2.al0 gf.sh hok2).nn gf.sz
 have hdd : (Fit.cel rows2 0 0).d + (Fit.used fr : Int) = kl.length := by have := hfr0.2; omega
 refine W.mv rfl rfl (.q (.extract (.t rfl) rfl) rfl (.q (.extract (.t rfl) rfl) rfl (.q (.extract (.t rfl) rfl) rfl (.asg rfl rfl (.asg rfl rfl (.asg rfl rfl (.n (.h (.s (.s (.r (.mv rfl rfl (.q (.nei (.t rfl) .k) rfl (.mv rfl rfl (.isb 44 false rfl (by rfl) (.gyes rfl rfl (.mv rfl rfl (.gyes rfl rfl (.q (.nei (.t rfl) .k) rfl ?_))))))))))))))))))); refine W.q (.or (.t rfl) ⟨_, _, rfl, rfl, by ((simp; done))⟩) rfl ?_; refine W.mv rfl rfl (.isb 48 false rfl (by rfl) (.gyes rfl rfl (.mv rfl rfl (.gyes rfl rfl (.q (.lensl (.t rfl) Tryz.underlying22) rfl ?_))))); refine W.is (t := 50) (av' := .int (w.length : Int)) rfl (congrArg AV.int (by rw [hwm])) ?_; refine W.gyes rfl rfl (.mv rfl rfl (.gyes rfl rfl (.q (.lensl (.t rfl) Tryz.underlying22) rfl ?_))); refine W.is (t := 52) (av' := .int (w.length : Int)) rfl (congrArg AV.int (by rw [hfm, hfr0.1])) ?_; refine W.gyes rfl rfl (.q (.nei (.t rfl) (.t rfl)) rfl ?_); refine W.q (.or (.t rfl) ⟨_, _, rfl, rfl, by ((simp; done))⟩) rfl ?_; refine W.n (.h ?_); refine W.isb 54 false rfl (by simp) ?_; refine W.condF (.t rfl) (.k (.h (.s (.r (.mv rfl rfl ?_))))); refine W.q (.at (E := 28) (.t rfl) .k Tryz.underlying23 ty28 (fun hg => ⟨by omega, hg00⟩) rfl rfl) rfl ?_; refine W.q (.fae (.t rfl) fa28_0 rfl) rfl (.q (.lde1 (.t rfl) ag9) rfl ?_)
 refine W.q (.build ty35 st35 rfl (fun hg => ⟨_, _, _, rfl, (.t rfl), rfl, rfl, rfl, rfl⟩)) rfl ?_; refine W.nils (t := 59) (g := true) (cs' := [.str nm0, .sl 2 [], .str [], .lit (.slice none 0 0)]) rfl ⟨.inl (by rw [hnm0]), .inr ⟨rfl, 2, rfl⟩, .inl rfl, .inl rfl, trivial⟩ ?_; refine W.alloc ty35 rfl rfl ?_; intro b13
 refine W.stb 0 (.t rfl) (.t rfl) rfl ty35 rfl rfl rfl (.n (.h (.s (.r (.q (.assign .k) rfl (.n (.h (.s (.r (.q (.assign .k) rfl (.n (.h (.s (.s (.r (.q (.assign .k) rfl (.n (.h (.b ?_))))))))))))))))))); refine W.own_nil 35 4 ?_; refine W.loop (D := []) (ι := Nat × Int × Nat × Value) (fun z => [(16, true, .int (z.1 : Int)), (14, true, .int z.2.1), (15, true, .int (z.2.2.1 : Int)), (5, true, .sl 3 (ts.map tpv)), (6, true, .sl 1 (kl.map fun k : Nat => AV.int (k : Int))), (7, true, .sl 1 (w.map fun k : Nat => AV.int (k : Int))), (8, true, .sl 1 (fr.map AV.int)), (10, true, .int (Fit.cel rows2 0 0).d), (11, true, .int (Fit.cel rows2 0 0).f), (13, true, .lit (.pointer (some ⟨b13, 0, none⟩)))]) (fun z => .arr z.2.2.2 35 4 ((w.take z.1).map fun q => Nd.avx (Dq q)) :: .box b13 35 [.str nm0, .sl 2 [], .str [], .lit z.2.2.2] :: M0) (fun z => z.1 ≤ w.length ∧ Fit.FrOk kl z.2.1 (w.drop z.1) (fr.drop z.1) ∧ z.2.2.1 = Fit.used (fr.take z.1)) (fun z => w.length - z.1) (0, -1, 0, .slice none 0 0) ⟨rfl, rfl, rfl, rfl, rfl, rfl, rfl, rfl, rfl, rfl, trivial⟩ (by ((rw [List.append_nil]; exact .refl _))) ⟨Nat.zero_le _, by rw [List.drop_zero, List.drop_zero]; exact hfo, rfl⟩ ?_
 rintro ⟨i, la, us, vp⟩ ⟨hi, hfo, hus⟩
 dsimp only at hi hfo hus ⊢
 subst hus
 rcases (show i < w.length ∨ i = w.length from by omega) with hlt | hend
 ·have hgf := getD_map fr i (by omega)
  have hgw : (w.map fun k : Nat => AV.int (k : Int))[i]? = some (AV.int ((w.getD i 0 : Nat) : Int)) := by rw [List.getElem?_map, List.getD_eq_getElem?_getD, List.getElem?_eq_getElem hlt]; rfl
  have hfo1 := hfo.at_ hlt (by omega)
  have hud := Fit.used_drop fr i (by omega)
  have hq7 := hw7 _ (getD_memG 0 w i hlt)
  have hwt := take_getDG 0 w i hlt
  have hult := Fit.used_le (fr.take i)
  rw [List.length_take] at hult
  obtain ⟨hDi, _, _⟩ := hDt (w.getD i 0) (by omega)
  have hF1 := WFill.c_filled ts as_ hg fin hfin hall 6 (w.getD i 0) (Dq (w.getD i 0)) hDi M0 hI
  rw [Nd.av_eq] at hF1
  refine W.s (.s (.r (.mv rfl rfl (.mv rfl rfl (.q (.lensl (.t rfl) Tryz.underlying22) rfl (.q (.lti (.t rfl) (.t rfl)) rfl (.n (.h ?_)))))))); refine W.isb 63 true rfl (by exact decide_eq_true (by omega)) ?_; refine W.condT (.t rfl) (.k (.h (.s (.b (.s (.s (.r (.mv rfl rfl (.mv rfl rfl ?_))))))))); refine W.q (.at (E := 3) (.t rfl) (.t rfl) Tryz.underlying22 ty3 (fun hg => ⟨by omega, hgf⟩) rfl rfl) rfl ?_; refine W.q (.lde1 (.t rfl) ag3) rfl ?_
  refine W.q (.gei (.t rfl) .k) rfl ?_; refine W.n ?_; refine W.h ?_; refine W.cond (.t rfl) (fun hc_t70 => ?_) (fun hc_t70 => ?_)
  ·have h70 : 0 ≤ fr.getD i 0 := of_decide_eq_true hc_t70
   have hz3 := hfo1.1 h70
   rw [if_pos h70] at hud
   have hfo2 := hfo1.2
   rw [if_pos h70] at hfo2
   have hgz : (kl.map fun k : Nat => AV.int (k : Int))[(fr.getD i 0).toNat]? = some (AV.int ((w.getD i 0 : Nat) : Int)) := by rw [List.getElem?_map, ← hz3.2.2, List.getD_eq_getElem?_getD (l := kl), List.getElem?_eq_getElem (show (fr.getD i 0).toNat < kl.length by omega)]; rfl
   refine W.s (.s ?_); refine W.drawnE (ι := Unit) (fun _ _ => _) 29 () (by kernel_rfl) (by kernel_rfl) rfl ?_; refine DE.q (fun e c hk => (.move (.t rfl))) rfl (fun _ _ => rfl) (.inr fun _ _ => rfl) (.q (fun e c hk => (.move (.t rfl))) rfl (fun _ _ => rfl) (.inr fun _ _ => rfl) ?_); refine DE.q (fun e c_ hk_ => Ev.at (E := 3) (.t rfl) (.t rfl) Tryz.underlying22 ty3 (fun _ => ⟨by omega, hgf⟩) rfl rfl) rfl (fun _ _ => rfl) (.inr fun _ _ => rfl) ?_; refine DE.q (fun e c hk => (.lde1 (.t rfl) ag3)) rfl (fun _ _ => rfl) (.inr fun _ _ => rfl) (.q (fun e c hk => (.move (.t rfl))) rfl (fun _ _ => rfl) (.inr fun _ _ => rfl) ?_); refine DE.q (av := fun _ => .bool false) (fun e c_ hk_ => Ev.as_ (.lei (.t rfl) (.t rfl)) (congrArg AV.bool (decide_eq_false (by omega)))) rfl (fun _ _ => rfl) (.inr fun _ _ => rfl) ?_; refine DE.q (fun e c hk => (.move (.t rfl))) rfl (fun _ _ => rfl) (.inr fun _ _ => rfl) (.qy rfl (fun _ => rfl) (fun e c hk => (.move (.t rfl))) rfl (fun _ _ => rfl) (.inr fun _ _ => rfl) (.qy rfl (fun _ => rfl) (fun e c hk => (.move (.t rfl))) rfl (fun _ _ => rfl) (.inr fun _ _ => rfl) ?_)); refine DE.qy rfl (fun _ => rfl) (fun e c_ hk_ => Ev.at (E := 3) (.t rfl) (.t rfl) Tryz.underlying22 ty3 (fun _ => ⟨by omega, hgf⟩) rfl rfl) rfl (fun _ _ => rfl) (.inr fun _ _ => rfl) ?_; refine DE.qy rfl (fun _ => rfl) (fun e c hk => (.lde1 (.t rfl) ag3)) rfl (fun _ _ => rfl) (.inr fun _ _ => rfl) (.qy rfl (fun _ => rfl) (fun e c hk => (.move (.t rfl))) rfl (fun _ _ => rfl) (.inr fun _ _ => rfl) (.qy rfl (fun _ => rfl) (fun e c hk => (.lensl (.t rfl) Tryz.underlying22)) rfl (fun _ _ => rfl) (.inr fun _ _ => rfl) ?_)); refine DE.qy (av := fun _ => .bool false) rfl (fun _ => rfl) (fun e c_ hk_ => Ev.as_ (.gei (.t rfl) (.t rfl)) (congrArg AV.bool (decide_eq_false (by omega)))) rfl (fun _ _ => rfl) (.inr fun _ _ => rfl) ?_; refine DE.q (av := fun _ => .bool false) (fun e c_ hk_ => Ev.as_ (.or (.t rfl) ⟨_, _, rfl, rfl, fun _ _ => rfl⟩) rfl) rfl (fun _ _ => rfl) (.inr fun _ _ => rfl) ?_; refine DE.q (fun e c hk => (.move (.t rfl))) rfl (fun _ _ => rfl) (.inr fun _ _ => rfl) (.qy rfl (fun _ => rfl) (fun e c hk => (.move (.t rfl))) rfl (fun _ _ => rfl) (.inr fun _ _ => rfl) (.qy rfl (fun _ => rfl) (fun e c hk => (.move (.t rfl))) rfl (fun _ _ => rfl) (.inr fun _ _ => rfl) (.qy rfl (fun _ => rfl) (fun e c hk => (.move (.t rfl))) rfl (fun _ _ => rfl) (.inr fun _ _ => rfl) ?_))); refine DE.qy rfl (fun _ => rfl) (fun e c_ hk_ => Ev.at (E := 3) (.t rfl) (.t rfl) Tryz.underlying22 ty3 (fun _ => ⟨by omega, hgf⟩) rfl rfl) rfl (fun _ _ => rfl) (.inr fun _ _ => rfl) ?_; refine DE.qy rfl (fun _ => rfl) (fun e c hk => (.lde1 (.t rfl) ag3)) rfl (fun _ _ => rfl) (.inr fun _ _ => rfl) ?_; refine DE.qy rfl (fun _ => rfl) (fun e c_ hk_ => Ev.at (E := 3) (.t rfl) (.t rfl) Tryz.underlying22 ty3 (fun _ => ⟨by omega, hgz⟩) rfl rfl) rfl (fun _ _ => rfl) (.inr fun _ _ => rfl) ?_; refine DE.qy rfl (fun _ => rfl) (fun e c hk => (.lde1 (.t rfl) ag3)) rfl (fun _ _ => rfl) (.inr fun _ _ => rfl) (.qy rfl (fun _ => rfl) (fun e c hk => (.move (.t rfl))) rfl (fun _ _ => rfl) (.inr fun _ _ => rfl) (.qy rfl (fun _ => rfl) (fun e c hk => (.move (.t rfl))) rfl (fun _ _ => rfl) (.inr fun _ _ => rfl) ?_)); refine DE.qy rfl (fun _ => rfl) (fun e c_ hk_ => Ev.at (E := 3) (.t rfl) (.t rfl) Tryz.underlying22 ty3 (fun _ => ⟨by omega, hgw⟩) rfl rfl) rfl (fun _ _ => rfl) (.inr fun _ _ => rfl) ?_; refine DE.qy rfl (fun _ => rfl) (fun e c hk => (.lde1 (.t rfl) ag3)) rfl (fun _ _ => rfl) (.inr fun _ _ => rfl) ?_
   refine DE.qy (av := fun _ => .bool false) rfl (fun _ => rfl) (fun e c_ hk_ => Ev.as_ (.nei (.t rfl) (.t rfl)) (congrArg AV.bool (by simp))) rfl (fun _ _ => rfl) (.inr fun _ _ => rfl) ?_; refine DE.q (av := fun _ => .bool false) (fun e c_ hk_ => Ev.as_ (.or (.t rfl) ⟨_, _, rfl, rfl, fun _ _ => rfl⟩) rfl) rfl (fun _ _ => rfl) (.inr fun _ _ => rfl) ?_; refine DE.nil (fun c_ e_ he_ => ?_)
   dsimp only
   refine W.h (.condF (.t rfl) (.k (.h (.s (.r (.mv rfl rfl (.mv rfl rfl ?_))))))); refine W.q (.at (E := 3) (.t rfl) (.t rfl) Tryz.underlying22 ty3 (fun hg => ⟨by omega, hgf⟩) rfl rfl) rfl ?_; refine W.q (.lde1 (.t rfl) ag3) rfl (.asg rfl rfl (.n (.h (.r (.mv rfl rfl (.q (.add (.t rfl) .k (fun _ => by omega)) rfl (.asg rfl rfl (.n (.h (.s (.s (.r (.mv rfl rfl (.mv rfl rfl ?_)))))))))))))); refine W.q (.at (E := 3) (.t rfl) (.t rfl) Tryz.underlying22 ty3 (fun hg => ⟨by omega, hgw⟩) rfl rfl) rfl ?_; refine W.q (.lde1 (.t rfl) ag3) rfl (.q (.lti (.t rfl) .k) rfl (.mv rfl rfl (.qgF rfl rfl (.move (.t rfl)) rfl (.qgF rfl rfl (.move (.t rfl)) rfl ?_)))); refine W.qgF rfl rfl (.at (E := 3) (.c rfl) (.c rfl) Tryz.underlying22 ty3 (fun hg => ⟨by omega, hgw⟩) rfl rfl) rfl ?_; refine W.qgF rfl rfl (.lde1 (.c rfl) ag3) rfl (.qgF rfl rfl (.move (.t rfl)) rfl (.qgF rfl rfl (.lensl (.c rfl) Tryz.underlying23) rfl (.qgF rfl rfl (.gei (.c rfl) (.c rfl)) rfl ?_))); refine W.q (.or (.t rfl) ⟨_, _, rfl, rfl, by ((simp; done))⟩) rfl ?_; refine W.n (.h ?_); refine W.isb 119 false rfl (by rw [Bool.or_eq_false_iff]; exact ⟨decide_eq_false (by omega), decide_eq_false (by omega)⟩) ?_; refine W.condF (.t rfl) (.k (.h (.s (.r (.mv rfl rfl (.mv rfl rfl (.mv rfl rfl ?_))))))); refine W.q (.at (E := 3) (.t rfl) (.t rfl) Tryz.underlying22 ty3 (fun hg => ⟨by omega, hgw⟩) rfl rfl) rfl ?_; refine W.q (.lde1 (.t rfl) ag3) rfl ?_; refine W.call (hF1) ⟨(.t rfl), (.t rfl), trivial⟩ ((List.perm_append_comm (l₁ := [_, _]))) rfl ?_
   rintro _ M' ⟨rfl, hM'⟩
   rw [hM']
   refine W.perm (List.perm_append_comm (l₂ := [_, _])) ?_; refine W.q (.move (.t rfl)) rfl ?_; refine W.q (.extract (.t rfl) rfl) rfl ?_; refine W.q (.extract (.t rfl) rfl) rfl ?_; refine W.alloc ty35 rfl rfl ?_; intro b17
   refine W.stb 0 (.t rfl) (.t rfl) rfl ty35 rfl rfl rfl (.asg rfl rfl (.n (.h (.s (.s (.r (.mv rfl rfl (.q (.not (.t rfl)) rfl (.n (.h (.isb 130 false rfl (by rfl) (.condF (.t rfl) (.k (.h (.r (.q (.fab (.t rfl) fa35_3) rfl (.q (.ldb1 2 (.t rfl) rfl ag33 rfl) rfl (.q (.ldbn 0 (.t rfl) rfl ag35 ty35 rfl) rfl ?_)))))))))))))))))); refine W.bs (es := [_]) Tryz.underlying33 ty35 ⟨rfl, (.t rfl), rfl, rfl, trivial⟩ rfl (by decide) rfl rfl ?_; refine W.app 1 (.t rfl) rfl (.sl (.t rfl) (by ((simp [AV.okc, shV]; done)))) Tryz.underlying33 ni33 ty35 rfl rfl (by rw [List.length_map, List.length_take]; simp only [List.length_cons, List.length_nil]; omega) rfl ?_
   intro v135; refine W.arr_inv 1 rfl (fun a35 n35 c35 h35 => ?_)
   subst h35
   refine W.q (.fab (.t rfl) fa35_3) rfl (.stb 2 (.t rfl) (.t rfl) rfl ty33 rfl rfl rfl (.n (.bn (.h (.r (.mv rfl rfl (.q (.add (.t rfl) .k (fun _ => by omega)) rfl ?_)))))))
   refine W.q (.assign (.t rfl)) rfl ?_; refine W.n ?_; refine W.h ?_; refine W.is (t := 15) (av' := .int (Fit.used (fr.take (i + 1)) : Int)) rfl (congrArg AV.int (by rw [hud]; omega)) ?_; refine W.reach (D := [_]) (i + 1, fr.getD i 0, Fit.used (fr.take (i + 1)), .slice a35 n35 c35) ⟨rfl, rfl, rfl, rfl, rfl, rfl, rfl, rfl, rfl, rfl, trivial⟩ (by dsimp only; rw [hwt, List.map_append]; exact List.perm_append_comm (l₁ := [_])) ⟨⟨hlt, hfo2, rfl⟩, by show w.length - (i + 1) < w.length - i; omega⟩
  ·have h70 : ¬ 0 ≤ fr.getD i 0 := of_decide_eq_false hc_t70
   rw [if_neg h70] at hud
   have hfo2 := hfo1.2
   rw [if_neg h70] at hfo2
   refine W.k (.h (.s (.s (.r (.mv rfl rfl (.mv rfl rfl ?_)))))); refine W.q (.at (E := 3) (.t rfl) (.t rfl) Tryz.underlying22 ty3 (fun hg => ⟨by omega, hgw⟩) rfl rfl) rfl ?_; refine W.q (.lde1 (.t rfl) ag3) rfl (.q (.lti (.t rfl) .k) rfl (.mv rfl rfl (.qgF rfl rfl (.move (.t rfl)) rfl (.qgF rfl rfl (.move (.t rfl)) rfl ?_)))); refine W.qgF rfl rfl (.at (E := 3) (.c rfl) (.c rfl) Tryz.underlying22 ty3 (fun hg => ⟨by omega, hgw⟩) rfl rfl) rfl ?_; refine W.qgF rfl rfl (.lde1 (.c rfl) ag3) rfl (.qgF rfl rfl (.move (.t rfl)) rfl (.qgF rfl rfl (.lensl (.c rfl) Tryz.underlying23) rfl (.qgF rfl rfl (.gei (.c rfl) (.c rfl)) rfl ?_))); refine W.q (.or (.t rfl) ⟨_, _, rfl, rfl, by ((simp; done))⟩) rfl ?_; refine W.n (.h ?_); refine W.isb 119 false rfl (by rw [Bool.or_eq_false_iff]; exact ⟨decide_eq_false (by omega), decide_eq_false (by omega)⟩) ?_; refine W.condF (.t rfl) (.k (.h (.s (.r (.mv rfl rfl (.mv rfl rfl (.mv rfl rfl ?_))))))); refine W.q (.at (E := 3) (.t rfl) (.t rfl) Tryz.underlying22 ty3 (fun hg => ⟨by omega, hgw⟩) rfl rfl) rfl ?_; refine W.q (.lde1 (.t rfl) ag3) rfl ?_; refine W.call (hF1) ⟨(.t rfl), (.t rfl), trivial⟩ ((List.perm_append_comm (l₁ := [_, _]))) rfl ?_
   rintro _ M' ⟨rfl, hM'⟩
   rw [hM']
   refine W.perm (List.perm_append_comm (l₂ := [_, _])) ?_; refine W.q (.move (.t rfl)) rfl ?_; refine W.q (.extract (.t rfl) rfl) rfl ?_; refine W.q (.extract (.t rfl) rfl) rfl ?_; refine W.alloc ty35 rfl rfl ?_; intro b17
   refine W.stb 0 (.t rfl) (.t rfl) rfl ty35 rfl rfl rfl (.asg rfl rfl (.n (.h (.s (.s (.r (.mv rfl rfl (.q (.not (.t rfl)) rfl (.n (.h (.isb 130 false rfl (by rfl) (.condF (.t rfl) (.k (.h (.r (.q (.fab (.t rfl) fa35_3) rfl (.q (.ldb1 2 (.t rfl) rfl ag33 rfl) rfl (.q (.ldbn 0 (.t rfl) rfl ag35 ty35 rfl) rfl ?_)))))))))))))))))); refine W.bs (es := [_]) Tryz.underlying33 ty35 ⟨rfl, (.t rfl), rfl, rfl, trivial⟩ rfl (by decide) rfl rfl ?_; refine W.app 1 (.t rfl) rfl (.sl (.t rfl) (by ((simp [AV.okc, shV]; done)))) Tryz.underlying33 ni33 ty35 rfl rfl (by rw [List.length_map, List.length_take]; simp only [List.length_cons, List.length_nil]; omega) rfl ?_
   intro v135; refine W.arr_inv 1 rfl (fun a35 n35 c35 h35 => ?_)
   subst h35
   refine W.q (.fab (.t rfl) fa35_3) rfl (.stb 2 (.t rfl) (.t rfl) rfl ty33 rfl rfl rfl (.n (.bn (.h (.r (.mv rfl rfl (.q (.add (.t rfl) .k (fun _ => by omega)) rfl ?_)))))))
   refine W.q (.assign (.t rfl)) rfl ?_; refine W.n ?_; refine W.h ?_; refine W.is (t := 15) (av' := .int (Fit.used (fr.take (i + 1)) : Int)) rfl (congrArg AV.int (by rw [hud])) ?_; refine W.reach (D := [_]) (i + 1, la, Fit.used (fr.take (i + 1)), .slice a35 n35 c35) ⟨rfl, rfl, rfl, rfl, rfl, rfl, rfl, rfl, rfl, rfl, trivial⟩ (by dsimp only; rw [hwt, List.map_append]; exact List.perm_append_comm (l₁ := [_])) ⟨⟨hlt, hfo2, rfl⟩, by show w.length - (i + 1) < w.length - i; omega⟩
 ·rw [List.take_of_length_le (show w.length ≤ i by omega), List.take_of_length_le (show fr.length ≤ i by omega)]
  have hlmk2 : (kl.map fun k : Nat => AV.int (k : Int)).length = kl.length := hlmk
  have hval : Sch.treeFault ts as_ 8 (.mk nm0 [] [] (w.map Dq)) = some 0 := by rw [← hnm0]; exact Fit.fit_valid (by omega) hn0 hacc (by omega) fun q hq => (hDt q (by have := hw7 q hq; omega)).2
  have hpe : (w.map fun q => Nd.avx (Dq q)) = (w.map Dq).map Nd.av := by rw [List.map_map]; exact List.map_congr_left fun q _ => (Nd.av_eq (Dq q)).symm
  rw [hpe]
  refine W.freezeA (M1 := .box b13 35 [.str nm0, .sl 2 [], .str [], .lit vp] :: M0) (M2 := .box b13 35 (Nd.avx (.mk nm0 [] [] (w.map Dq))).cells :: M0) (D := []) (v := vp) (L' := []) (by ((rw [List.append_nil]; exact .refl _))) trivial ⟨.box ⟨.refl _, .refl _, .refl _, .hit, trivial⟩, FrzMs.refl _⟩ ?_; refine W.s (.s (.r (.mv rfl rfl (.mv rfl rfl (.q (.lensl (.t rfl) Tryz.underlying22) rfl (.q (.lti (.t rfl) (.t rfl)) rfl (.n (.h ?_)))))))); refine W.isb 63 false rfl (by exact decide_eq_false (by omega)) ?_; refine W.condF (.t rfl) (.ex (.he (.he (.bh (.h (.s (.r (.mv rfl rfl (.q (.ldbn 0 (.t rfl) rfl ag35 ty35 rfl) rfl ?_))))))))); refine W.call (WValid.c_Valid ts as_ hg fin hfin hall 8 (.mk nm0 [] [] (w.map Dq)) 0 hval M0 hI) ⟨(.t rfl), (.t rfl), trivial⟩ ((List.perm_append_comm (l₁ := [_]))) rfl ?_
  rintro _ M' ⟨rfl, hM'⟩
  rw [hM']
  refine W.perm (List.perm_append_comm (l₂ := [_])) ?_; refine W.q (.eqi (.t rfl) .k) rfl (.mv rfl rfl (.isb 141 true rfl (by rfl) (.gyes rfl rfl (.mv rfl rfl (.gyes rfl rfl (.mv rfl rfl (.gyes rfl rfl (.q (.lensl (.t rfl) Tryz.underlying22) rfl (.gyes rfl rfl (.mv rfl rfl (.gyes rfl rfl (.q (.sub (.t rfl) (.t rfl) (fun _ => by omega)) rfl (.gyes rfl rfl (.q (.eqi (.t rfl) (.t rfl)) rfl ?_)))))))))))))); refine W.q (.and (.t rfl) ⟨_, _, rfl, rfl, by ((simp; done))⟩) rfl ?_; refine W.mv rfl rfl ?_; refine W.isb 149 true rfl (by rw [hlmk2]; simp; omega) ?_; refine W.gyes rfl rfl (.mv rfl rfl (.gyes rfl rfl (.q (.gei (.t rfl) .k) rfl ?_))); refine W.q (.and (.t rfl) ⟨_, _, rfl, rfl, by ((simp; done))⟩) rfl ?_; refine W.asg rfl rfl (.n (.h ?_)); refine W.ret ?_; refine W.retn (M' := M0) (D := [_]) (rs := [.tmp 4]) (avs := [_]) Tryz.results10 ⟨rfl, trivial⟩ rfl (List.perm_append_comm (l₁ := [_])) ?_
  exact ⟨congrArg AV.bool (by simp; omega), rfl⟩
end LFitTree
end Go.Proofs.YtphlkdbglpcikaaGreatDoor
