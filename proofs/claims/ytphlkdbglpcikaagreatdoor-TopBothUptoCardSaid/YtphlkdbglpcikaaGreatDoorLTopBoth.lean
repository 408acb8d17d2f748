/-
  The law TopBoth, walked.
-/
import Derived.Test.YtphlkdbglpcikaaGreatDoorG13
set_option linter.unusedVariables false
set_option linter.unusedSimpArgs false
set_option maxRecDepth 100000
namespace Go.Proofs.YtphlkdbglpcikaaGreatDoor
open Go.Vl
open Y
namespace LTopBoth
set_option maxHeartbeats 4000000 in
theorem c_TopBoth (l : List Int) (a b_ : Int) (hl : l.length ≤ 1048576) (M0 : List ME) (hI : ∀ n : Int, -1 ≤ n → n < 100 → FnC Tryz.prog 107 [.int n] M0 (fun r M => r = .str (itoa n) ∧ M = M0)) : FnC Tryz.prog 11 [.sl 1 (l.map AV.int), .int a, .int b_] M0 (fun r M => r = .bool true ∧ M = M0) :=  by
 refine FnC.mk Tryz.func11 (by kernel_rfl) rfl Tryz.ntmps11 rfl (fun w0 F => ?_)
 have hp0 := WTypes.pk_lt l 0 4 (by decide)
 have hp1 := WTypes.pk_lt l 1 3 (by decide)
 have hp2 := WTypes.pk_lt l 2 2 (by decide)
 have hp3 := WTypes.pk_lt l 3 3 (by decide)
 have hp4 := WTypes.pk_lt l 4 3 (by decide)
 have hp5 := WTypes.pk_lt l 5 2 (by decide)
 have hTy := WTypes.c_Types l (by omega)
 rw [Sch.tys_tyk] at hTy
 have hck := Sch.fit_all hp0 hp1 hp2 hp3 hp4 hp5
 have hb := Sch.mk_lt hp0 hp1 hp2 hp3 hp4 hp5
 generalize Sch.mk0 (Sch.pk l 0 4) = m0 at *
 generalize Sch.mk1 (Sch.pk l 1 3) = m1 at *
 generalize Sch.mk2 (Sch.pk l 2 2) = m2 at *
 generalize Sch.mk3 (Sch.pk l 3 3) = m3 at *
 generalize Sch.mk4 (Sch.pk l 4 3) = m4 at *
 generalize Sch.mk5 (Sch.pk l 5 2) = m5 at *
 obtain ⟨fin, hfk⟩ := Sch.chkFit_out hck
 have hg := Sch.good_tyk m0 m1 m2 m3 m4 m5 hb
 have hnm6 := Sch.name7 m0 m1 m2 m3 m4 m5
 have htl : (Sch.tyk m0 m1 m2 m3 m4 m5).length = 7 := rfl
 have hfin := hfk.sizes
 have hpos := hfk.pos
 have hall := Sch.any_of hpos
 have hfl : fin.length = 7 := by
  have := Sch.mso_len 10 _ _ hfin
  rwa [List.length_replicate] at this
 have hka0 := Int.emod_nonneg a (by decide : (6 : Int) ≠ 0)
 have hka1 := Int.emod_lt_of_pos a (by decide : (0 : Int) < 6)
 obtain ⟨ka, hka⟩ : ∃ k : Nat, a % 6 = (k : Int) := ⟨(a % 6).toNat, by omega⟩
 have hPkka := Base.c_Picked a 6 (by decide) (by decide)
 rw [hka] at hPkka
 have hkb0 := Int.emod_nonneg b_ (by decide : (6 : Int) ≠ 0)
 have hkb1 := Int.emod_lt_of_pos b_ (by decide : (0 : Int) < 6)
 obtain ⟨kb, hkb⟩ : ∃ k : Nat, b_ % 6 = (k : Int) := ⟨(b_ % 6).toNat, by omega⟩
 have hPkkb := Base.c_Picked b_ 6 (by decide) (by decide)
 rw [hkb] at hPkkb
 generalize Sch.tyk m0 m1 m2 m3 m4 m5 = ts at *
 generalize Sch.ask m0 m1 m2 m3 m4 m5 = as_ at *
 have htm : (ts.map tpv).length = 7 := by rw [List.length_map]; exact htl
 obtain ⟨q1, hq1, hco1, hau1, _⟩ := hg.mach ka (by omega)
 have kw1 := Sch.known q1 hq1
 have hsm1 := Fit.small q1 hq1
 have hP1 : FnP Tryz.prog 23 [.str (ts.getD ka Sch.dT).content] (.tup [(It.al (Sch.itk q1) []).avx, .int 0]) := by have := WParse3.c_Parse (Sch.itk q1) [] kw1.oks trivial (by have := kw1.len; rw [show It.atl [] = [] from rfl, List.append_nil]; exact this); rwa [show It.atl [] = [] from rfl, List.append_nil, show It.stx (Sch.itk q1) = (ts.getD ka Sch.dT).content from hco1.symm] at this
 have hM1 := WMakeA.c_MakeA (Sch.itk q1) [] kw1.oks trivial (by have := kw1.len; rw [show It.atl [] = [] from rfl, List.append_nil]; exact this) (by have := kw1.lv; simp only [It.anl]; omega) (Sch.auk q1) kw1.ord kw1.acc kw1.n32 M0 hI
 generalize It.al (Sch.itk q1) [] = x1 at hP1 hM1
 have gf1 := Fit.gf_of hg (by omega) hpos (t := ka) (by omega)
 obtain ⟨o1, hpot1, hal1, ho_1⟩ := Sch.leastB_out gf1.sh (hfk.least ka (by omega))
 have hord1 := kw1.ord
 rw [← hau1] at hM1 hord1 hsm1
 have hsh1 := gf1.sh
 have hgt1 := getD_mapG tpv Sch.dT ts ka (by omega)
 obtain ⟨q2, hq2, hco2, hau2, _⟩ := hg.mach kb (by omega)
 have kw2 := Sch.known q2 hq2
 have hsm2 := Fit.small q2 hq2
 have hP2 : FnP Tryz.prog 23 [.str (ts.getD kb Sch.dT).content] (.tup [(It.al (Sch.itk q2) []).avx, .int 0]) := by have := WParse3.c_Parse (Sch.itk q2) [] kw2.oks trivial (by have := kw2.len; rw [show It.atl [] = [] from rfl, List.append_nil]; exact this); rwa [show It.atl [] = [] from rfl, List.append_nil, show It.stx (Sch.itk q2) = (ts.getD kb Sch.dT).content from hco2.symm] at this
 have hM2 := WMakeA.c_MakeA (Sch.itk q2) [] kw2.oks trivial (by have := kw2.len; rw [show It.atl [] = [] from rfl, List.append_nil]; exact this) (by have := kw2.lv; simp only [It.anl]; omega) (Sch.auk q2) kw2.ord kw2.acc kw2.n32 M0 hI
 generalize It.al (Sch.itk q2) [] = x2 at hP2 hM2
 have gf2 := Fit.gf_of hg (by omega) hpos (t := kb) (by omega)
 obtain ⟨o2, hpot2, hal2, ho_2⟩ := Sch.leastB_out gf2.sh (hfk.least kb (by omega))
 have hord2 := kw2.ord
 rw [← hau2] at hM2 hord2 hsm2
 have hsh2 := gf2.sh
 have hgt2 := getD_mapG tpv Sch.dT ts kb (by omega)
 have hlA : ((as_.getD ka Sch.dA).next.length + 1) * ((as_.getD kb Sch.dA).next.length + 1) ≤ 25 := Nat.le_trans (Nat.mul_le_mul (Nat.succ_le_succ hsm1) (Nat.succ_le_succ hsm2)) (by decide)
 refine W.s (.r (.q (.assign .k) rfl (.n (.h (.s (.r (.mv rfl rfl ?_))))))); refine W.callp (hTy) ⟨(.t rfl), trivial⟩ rfl ?_; refine W.asg rfl rfl (.n (.h (.s (.r (.mv rfl rfl ?_))))); refine W.callp (hPkka) ⟨(.t rfl), .k, trivial⟩ rfl ?_; refine W.asg rfl rfl (.n (.h (.s (.r (.mv rfl rfl ?_))))); refine W.callp (hPkkb) ⟨(.t rfl), .k, trivial⟩ rfl ?_; refine W.asg rfl rfl (.n (.h (.s (.r (.mv rfl rfl (.mv rfl rfl ?_)))))); refine W.q (.at (E := 28) (.t rfl) (.t rfl) Tryz.underlying23 ty28 (fun hg => ⟨by omega, hgt1⟩) rfl rfl) rfl ?_; refine W.q (.fae (.t rfl) fa28_1 rfl) rfl (.q (.lde1 (.t rfl) ag9) rfl ?_)
 refine W.callp (hP1) ⟨(.t rfl), trivial⟩ rfl ?_; refine W.q (.move (.t rfl)) rfl ?_; refine W.q (.extract (.t rfl) rfl) rfl ?_; refine W.q (.extract (.t rfl) rfl) rfl ?_; refine W.alloc ty56 rfl rfl ?_; intro b10
 refine W.stb 0 (.t rfl) (.t rfl) rfl ty56 rfl rfl rfl (.asg rfl rfl (.n (.h (.s (.r (.mv rfl rfl (.mv rfl rfl ?_))))))); refine W.q (.at (E := 28) (.t rfl) (.t rfl) Tryz.underlying23 ty28 (fun hg => ⟨by omega, hgt2⟩) rfl rfl) rfl ?_; refine W.q (.fae (.t rfl) fa28_1 rfl) rfl (.q (.lde1 (.t rfl) ag9) rfl ?_)
 refine W.callp (hP2) ⟨(.t rfl), trivial⟩ rfl ?_; refine W.q (.move (.t rfl)) rfl ?_; refine W.q (.extract (.t rfl) rfl) rfl ?_; refine W.q (.extract (.t rfl) rfl) rfl ?_; refine W.alloc ty56 rfl rfl ?_; intro b12
 refine W.stb 0 (.t rfl) (.t rfl) rfl ty56 rfl rfl rfl (.asg rfl rfl (.n (.h (.s (.r (.q (.ldbn 1 (.t rfl) rfl ag56 ty56 rfl) rfl ?_)))))); refine W.call (hM1) ⟨(.t rfl), trivial⟩ ((List.perm_append_comm (l₁ := [_, _]))) rfl ?_
 rintro _ M' ⟨rfl, hM'⟩
 rw [hM']
 refine W.perm (List.perm_append_comm (l₂ := [_, _])) ?_; refine W.q (.move (.t rfl)) rfl ?_; refine W.q (.extract (.t rfl) rfl) rfl ?_; refine W.q (.extract (.t rfl) rfl) rfl ?_; refine W.alloc ty62 rfl rfl ?_; intro b14
 refine W.stb 0 (.t rfl) (.t rfl) rfl ty62 rfl rfl rfl (.asg rfl rfl (.n (.h (.s (.r (.q (.ldbn 1 (.t rfl) rfl ag56 ty56 rfl) rfl ?_)))))); refine W.call (hM2) ⟨(.t rfl), trivial⟩ ((List.perm_append_comm (l₁ := [_, _, _]))) rfl ?_
 rintro _ M' ⟨rfl, hM'⟩
 rw [hM']
 refine W.perm (List.perm_append_comm (l₂ := [_, _, _])) ?_; refine W.q (.move (.t rfl)) rfl ?_; refine W.q (.extract (.t rfl) rfl) rfl ?_; refine W.q (.extract (.t rfl) rfl) rfl ?_; refine W.alloc ty62 rfl rfl ?_; intro b16
 refine W.stb 0 (.t rfl) (.t rfl) rfl ty62 rfl rfl rfl (.asg rfl rfl (.n (.h (.s (.r (.q (.ldbn 1 (.t rfl) rfl ag62 ty62 rfl) rfl (.q (.ldbn 0 (.t rfl) rfl ag62 ty62 rfl) rfl ?_))))))); refine W.call (WBoth.c_Both (as_.getD ka Sch.dA) (as_.getD kb Sch.dA) hsh1 hsh2 (by omega) (by omega) (by omega) M0 hI (fun d hd hu => Nat.le_trans (Au.Ord.both_size hsh1 hsh2 hd hu) (by omega))) ⟨(.t rfl), (.t rfl), trivial⟩ ((List.perm_append_comm (l₁ := [_, _, _, _]))) rfl ?_
 rintro _ M' ⟨dd, hdd, hdu, rfl, hM'⟩
 rw [hM']
 refine W.perm (List.perm_append_comm (l₂ := [_, _, _, _])) ?_
 have hdl := Nat.le_trans (Au.Ord.both_size hsh1 hsh2 hdd hdu) hlA
 refine W.q (.move (.t rfl)) rfl ?_; refine W.q (.extract (.t rfl) rfl) rfl ?_; refine W.q (.extract (.t rfl) rfl) rfl ?_; refine W.alloc ty62 rfl rfl ?_; intro b18
 refine W.stb 0 (.t rfl) (.t rfl) rfl ty62 rfl rfl rfl (.asg rfl rfl (.n (.h (.s (.s (.r (.mv rfl rfl (.q (.nei (.t rfl) .k) rfl (.mv rfl rfl (.isb 75 false rfl (by rfl) (.gyes rfl rfl (.mv rfl rfl (.gyes rfl rfl (.q (.nei (.t rfl) .k) rfl ?_)))))))))))))); refine W.q (.or (.t rfl) ⟨_, _, rfl, rfl, by ((simp; done))⟩) rfl ?_; refine W.mv rfl rfl (.isb 79 false rfl (by rfl) (.gyes rfl rfl (.mv rfl rfl (.gyes rfl rfl (.q (.nei (.t rfl) .k) rfl ?_))))); refine W.q (.or (.t rfl) ⟨_, _, rfl, rfl, by ((simp; done))⟩) rfl ?_; refine W.mv rfl rfl (.isb 83 false rfl (by rfl) (.gyes rfl rfl (.mv rfl rfl (.gyes rfl rfl (.q (.nei (.t rfl) .k) rfl ?_))))); refine W.q (.or (.t rfl) ⟨_, _, rfl, rfl, by ((simp; done))⟩) rfl ?_; refine W.mv rfl rfl (.isb 87 false rfl (by rfl) (.gyes rfl rfl (.mv rfl rfl (.gyes rfl rfl (.q (.nei (.t rfl) .k) rfl ?_))))); refine W.q (.or (.t rfl) ⟨_, _, rfl, rfl, by ((simp; done))⟩) rfl ?_; refine W.n (.h (.isb 90 false rfl (by rfl) (.condF (.t rfl) (.k (.h (.s (.r (.q (.ldbn 0 (.t rfl) rfl ag62 ty62 rfl) rfl ?_)))))))); refine W.call (WLeast.c_Least dd hdd.shape (by omega)) ⟨(.t rfl), trivial⟩ (.refl _) rfl ?_
 rintro r_ _ ⟨rfl, hor⟩
 obtain ⟨w, e, hwe, rfl⟩ : ∃ (w : List Int) (e : Int), ((e = 0 ∧ dd.acc 0 w ∧ w.length < 40) ∨ (e = 7 ∧ ∀ u, ¬ dd.acc 0 u)) ∧ r_ = .tup [.sl 1 (w.map AV.int), .int e] := by
  rcases hor with ⟨w, h1, _, h2, h3⟩ | ⟨h1, h2⟩
  ·exact ⟨w, 0, .inl ⟨rfl, h1, h2⟩, h3⟩
  ·exact ⟨[], 7, .inr ⟨rfl, h1⟩, h2⟩
 refine W.q (.move (.t rfl)) rfl ?_; refine W.q (.extract (.t rfl) rfl) rfl ?_; refine W.q (.extract (.t rfl) rfl) rfl ?_; refine W.q (.assign (.t rfl)) rfl ?_; refine W.q (.assign (.t rfl)) rfl ?_; refine W.n ?_; refine W.h ?_; refine W.s ?_; refine W.s ?_; refine W.r ?_; refine W.q (.move (.t rfl)) rfl ?_; refine W.q (.eqi (.t rfl) .k) rfl ?_; refine W.n ?_; refine W.h ?_; refine W.cond (.t rfl) (fun hc_t97 => ?_) (fun hc_t97 => ?_)
 ·have he7 : e = 7 := by simpa using hc_t97
  have hno : ∀ u, ¬ dd.acc 0 u := by rcases hwe with ⟨h, _⟩ | ⟨_, h⟩; omega; exact h
  refine W.s (.r (.q (.ldbn 2 (.t rfl) rfl ag62 ty62 rfl) rfl (.q (.ldbn 1 (.t rfl) rfl ag62 ty62 rfl) rfl ?_))); refine W.call (WASame.c_Same (as_.getD ka Sch.dA) (as_.getD kb Sch.dA) hsh1 hsh2 (by omega) (by omega)) ⟨(.t rfl), (.t rfl), trivial⟩ (.refl _) rfl ?_
  rintro _ _ ⟨rfl, e0, he0, rfl⟩
  have he1 : e0 = false := by
   cases h : e0
   ·rfl
   ·exfalso
    obtain ⟨y, hy⟩ := hal1.word
    have h1 := Fit.of_acc hsh1 hsh1.pos hy
    exact hno _ ((hdu _).2 ⟨h1, (he0.1 h _).1 h1⟩)
  rw [he1]
  refine W.mv rfl rfl (.q (.extract (.t rfl) rfl) rfl (.q (.extract (.t rfl) rfl) rfl (.asg rfl rfl (.asg rfl rfl (.n (.h (.s (.r (.mv rfl rfl (.q (.eqi (.t rfl) .k) rfl (.mv rfl rfl (.isb 106 true rfl (by rfl) (.gyes rfl rfl (.mv rfl rfl (.gyes rfl rfl (.q (.not (.t rfl)) rfl ?_)))))))))))))))); refine W.q (.and (.t rfl) ⟨_, _, rfl, rfl, by ((simp; done))⟩) rfl ?_; refine W.asg rfl rfl (.n (.h ?_)); refine W.ret ?_; refine W.hr ?_; refine W.retn (M' := M0) (D := [_, _, _, _, _]) (rs := [.tmp 6]) (avs := [_]) Tryz.results11 ⟨rfl, trivial⟩ rfl (List.perm_append_comm (l₁ := [_, _, _, _, _])) ?_
  exact ⟨congrArg AV.bool (by simp), rfl⟩
 ·have he7 : ¬ e = 7 := by simpa using hc_t97
  obtain ⟨he0, hwa, hwl⟩ : e = 0 ∧ dd.acc 0 w ∧ w.length < 40 := by rcases hwe with h | ⟨h, _⟩; exact h; exact absurd h he7
  have hw2 := (hdu w).1 hwa
  have hwn : ∀ c ∈ w, 0 ≤ c := fun c hc => (Au.acc_over hwa c hc).1
  obtain ⟨ws, hws⟩ : ∃ q, w.map Int.toNat = q := ⟨_, rfl⟩
  have hac1 := Fit.acc_of hsh1 hsh1.pos hw2.1
  have hac2 := Fit.acc_of hsh2 hsh2.pos hw2.2
  have hwm := Fit.nat_map hwn
  rw [hws] at hac1 hac2 hwm
  have hwsl : ws.length < 40 := by rw [← hws, List.length_map]; exact hwl
  have hw7 : ∀ q ∈ ws, q < ts.length := hac1.letters (fun i n h => by have := gf1.col i n h; omega)
  refine W.is (t := 20) (av' := .sl 1 (ws.map fun k : Nat => AV.int (k : Int))) rfl (congrArg (AV.sl 1) hwm) ?_; refine W.k (.h (.s (.r (.mv rfl rfl (.mv rfl rfl (.mv rfl rfl ?_)))))); refine W.app0 .k (.sl (.t rfl) (by intro e he; obtain ⟨k_, _, rfl⟩ := List.mem_map.1 he; rfl)) Tryz.underlying22 ni22 ty3 rfl rfl (by rw [List.length_map]; omega) rfl ?_; refine W.call (WFit.c_Cost ts as_ hg fin hfin hall hpos M0 hI ka (by omega) (hnm6 ka (by omega)) ws (by omega) hw7) ⟨(.t rfl), (.t rfl), (.t rfl), trivial⟩ ((List.perm_append_comm (l₁ := [_, _, _, _, _]))) rfl ?_
  rintro _ M' ⟨⟨rows1, hro1, rfl⟩, hM'⟩
  rw [hM']
  refine W.perm (List.perm_append_comm (l₂ := [_, _, _, _, _])) ?_; refine W.mv rfl rfl (.q (.extract (.t rfl) rfl) rfl (.q (.extract (.t rfl) rfl) rfl (.q (.extract (.t rfl) rfl) rfl (.asg rfl rfl (.asg rfl rfl (.asg rfl rfl (.n (.h (.s (.r (.mv rfl rfl (.mv rfl rfl (.mv rfl rfl ?_))))))))))))); refine W.app0 .k (.sl (.t rfl) (by intro e he; obtain ⟨k_, _, rfl⟩ := List.mem_map.1 he; rfl)) Tryz.underlying22 ni22 ty3 rfl rfl (by rw [List.length_map]; omega) rfl ?_; refine W.call (WFit.c_Cost ts as_ hg fin hfin hall hpos M0 hI kb (by omega) (hnm6 kb (by omega)) ws (by omega) hw7) ⟨(.t rfl), (.t rfl), (.t rfl), trivial⟩ ((List.perm_append_comm (l₁ := [_, _, _, _, _]))) rfl ?_
  rintro _ M' ⟨⟨rows2, hro2, rfl⟩, hM'⟩
  rw [hM']
  refine W.perm (List.perm_append_comm (l₂ := [_, _, _, _, _])) ?_; refine W.mv rfl rfl (.q (.extract (.t rfl) rfl) rfl (.q (.extract (.t rfl) rfl) rfl (.q (.extract (.t rfl) rfl) rfl (.asg rfl rfl (.asg rfl rfl (.asg rfl rfl (.n (.h (.s (.r (.q (.build ty28 st28 rfl (fun hg => ⟨_, _, _, rfl, .k, rfl, rfl, rfl, _, _, _, rfl, .k, rfl, rfl, rfl, rfl⟩)) rfl ?_))))))))))); refine W.nils (t := 129) (g := true) (cs' := [.str [97], .str (Sch.txt 13), .sl 1 []]) rfl ⟨.inl rfl, .inl rfl, .inr ⟨rfl, 1, rfl⟩, trivial⟩ ?_; refine W.q (.build ty28 st28 rfl (fun hg => ⟨_, _, _, rfl, .k, rfl, rfl, rfl, rfl⟩)) rfl ?_; refine W.nils (t := 130) (g := true) (cs' := [.str [98], .str (Sch.txt 12), .sl 1 []]) rfl ⟨.inl rfl, .inl rfl, .inr ⟨rfl, 1, rfl⟩, trivial⟩ ?_; refine W.bs (es := [_, _]) Tryz.underlying23 ty28 ⟨rfl, (.t rfl), rfl, rfl, rfl, (.t rfl), rfl, rfl, trivial⟩ rfl (by decide) rfl rfl ?_; refine W.call (WFit.c_Cost Sch.ts2 Sch.as2 Sch.good2 [2, 1] Sch.sizes2 (Sch.any_of Sch.pos2) Sch.pos2 M0 hI 0 (by decide) (by decide) [] (by decide) (fun k h => by cases h)) ⟨(.t rfl), .k, (by (exact .kn)), trivial⟩ ((List.perm_append_comm (l₁ := [_, _, _, _, _]))) rfl ?_
  rintro _ M' ⟨⟨rows3, ho3, rfl⟩, hM'⟩
  rw [hM']
  refine W.perm (List.perm_append_comm (l₂ := [_, _, _, _, _])) ?_; refine W.mv rfl rfl (.q (.extract (.t rfl) rfl) rfl (.q (.extract (.t rfl) rfl) rfl (.q (.extract (.t rfl) rfl) rfl (.asg rfl rfl (.asg rfl rfl (.asg rfl rfl (.n (.h (.s (.r ?_))))))))))
  have hz1 := hro1.zero gf1.sz (Nat.zero_le _) gf1.sh.pos (by rw [List.drop_zero]; exact hac1)
  have hz2 := hro2.zero gf2.sz (Nat.zero_le _) gf2.sh.pos (by rw [List.drop_zero]; exact hac2)
  have hgf2 := Fit.gf_of Sch.good2 rfl Sch.pos2 (t := 0) (by decide)
  obtain ⟨o3, hp3_, ha3, he3⟩ := Sch.leastB_out hgf2.sh Sch.least2
  have hbd := Fit.bound hgf2.sh hgf2.sz hp3_ ha3 ho3 ho3
  have hone : (Fit.cel rows3 0 0).f = 1 := by rw [hbd.2.2.1, he3]; rfl
  refine W.mv rfl rfl (.q (.eqi (.t rfl) .k) rfl (.mv rfl rfl ?_)); refine W.isb 138 true rfl (by rw [he0]; rfl) ?_; refine W.gyes rfl rfl (.mv rfl rfl (.gyes rfl rfl (.q (.eqi (.t rfl) .k) rfl ?_))); refine W.q (.and (.t rfl) ⟨_, _, rfl, rfl, by ((simp; done))⟩) rfl ?_; refine W.mv rfl rfl (.isb 142 true rfl (by rfl) (.gyes rfl rfl (.mv rfl rfl (.gyes rfl rfl (.q (.eqi (.t rfl) .k) rfl ?_))))); refine W.q (.and (.t rfl) ⟨_, _, rfl, rfl, by ((simp; done))⟩) rfl ?_; refine W.mv rfl rfl (.isb 146 true rfl (by rfl) (.gyes rfl rfl (.mv rfl rfl (.gyes rfl rfl (.q (.eqi (.t rfl) .k) rfl ?_))))); refine W.q (.and (.t rfl) ⟨_, _, rfl, rfl, by ((simp; done))⟩) rfl ?_; refine W.mv rfl rfl (.isb 150 true rfl (by rfl) (.gyes rfl rfl (.mv rfl rfl (.gyes rfl rfl (.q (.eqi (.t rfl) .k) rfl ?_))))); refine W.q (.and (.t rfl) ⟨_, _, rfl, rfl, by ((simp; done))⟩) rfl ?_; refine W.mv rfl rfl ?_; refine W.isb 154 true rfl (by rw [hone]; rfl) ?_; refine W.gyes rfl rfl (.mv rfl rfl (.gyes rfl rfl (.mv rfl rfl (.gyes rfl rfl (.q (.add (.t rfl) (.t rfl) (fun _ => by omega)) rfl (.gyes rfl rfl (.mv rfl rfl (.gyes rfl rfl (.q (.add (.t rfl) (.t rfl) (fun _ => by omega)) rfl (.gyes rfl rfl (.mv rfl rfl (.gyes rfl rfl (.q (.add (.t rfl) (.t rfl) (fun _ => by omega)) rfl (.gyes rfl rfl (.q (.eqi (.t rfl) .k) rfl ?_))))))))))))))); refine W.q (.and (.t rfl) ⟨_, _, rfl, rfl, by ((simp; done))⟩) rfl ?_; refine W.mv rfl rfl ?_; refine W.isb 164 true rfl (by rw [hz1.2.1, hz1.2.2, hz2.2.1, hz2.2.2]; rfl) ?_; refine W.gyes rfl rfl (.mv rfl rfl ?_); refine W.is (t := 165) (av' := .sl 1 ((ws.map fun k : Nat => (k : Int)).map AV.int)) rfl (congrArg (AV.sl 1) (by rw [List.map_map]; rfl)) ?_; refine W.gyes rfl rfl (.mv rfl rfl (.gyes rfl rfl ?_)); refine W.app0 .k (.sl (.t rfl) (by intro e he; obtain ⟨k_, _, rfl⟩ := List.mem_map.1 he; rfl)) Tryz.underlying22 ni22 ty3 rfl rfl (by rw [List.length_map]; omega) rfl ?_; refine W.is (t := 167) (av' := .sl 1 ((ws.map fun k : Nat => (k : Int)).map AV.int)) rfl (congrArg (AV.sl 1) (by rw [List.map_map]; rfl)) ?_; refine W.gyes rfl rfl ?_; refine W.callp (WTSame.c_sameInts (ws.map fun k : Nat => (k : Int)) (ws.map fun k : Nat => (k : Int)) (by rw [List.length_map]; omega)) ⟨(.t rfl), (.t rfl), trivial⟩ rfl ?_; refine W.q (.and (.t rfl) ⟨_, _, rfl, rfl, by ((simp; done))⟩) rfl ?_; refine W.asg rfl rfl (.n (.h ?_)); refine W.ret ?_; refine W.retn (M' := M0) (D := [_, _, _, _, _]) (rs := [.tmp 6]) (avs := [_]) Tryz.results11 ⟨rfl, trivial⟩ rfl (List.perm_append_comm (l₁ := [_, _, _, _, _])) ?_
  exact ⟨congrArg AV.bool (by simp), rfl⟩
end LTopBoth
end Go.Proofs.YtphlkdbglpcikaaGreatDoor
