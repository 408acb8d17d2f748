/-
  The law SchemaFill, walked.
-/
import Derived.Test.YtphlkdbglpcikaaGreatDoorG12
set_option linter.unusedVariables false
set_option linter.unusedSimpArgs false
set_option maxRecDepth 100000
namespace Go.Proofs.YtphlkdbglpcikaaGreatDoor
open Go.Vl
open Y
namespace LSchemaFill
theorem c_SchemaFill (l : List Int) (t : Int) (hl : l.length ≤ 1048576) (M0 : List ME) (hI : ∀ n : Int, -1 ≤ n → n < 100 → FnC Tryz.prog 107 [.int n] M0 (fun r M => r = .str (itoa n) ∧ M = M0)) : FnC Tryz.prog 7 [.sl 1 (l.map AV.int), .int t] M0 (fun r M => r = .bool true ∧ M = M0) :=  by
 refine FnC.mk Tryz.func7 (by kernel_rfl) rfl Tryz.ntmps7 rfl (fun w0 F => ?_)
 have hp0 := WTypes.pk_lt l 0 4 (by decide)
 have hp1 := WTypes.pk_lt l 1 3 (by decide)
 have hp2 := WTypes.pk_lt l 2 2 (by decide)
 have hp3 := WTypes.pk_lt l 3 3 (by decide)
 have hp4 := WTypes.pk_lt l 4 3 (by decide)
 have hp5 := WTypes.pk_lt l 5 2 (by decide)
 have hTy := WTypes.c_Types l (by omega)
 rw [Sch.tys_tyk] at hTy
 have hck := Sch.tree_all hp0 hp1 hp2 hp3 hp4 hp5
 have hb := Sch.mk_lt hp0 hp1 hp2 hp3 hp4 hp5
 generalize Sch.mk0 (Sch.pk l 0 4) = m0 at *
 generalize Sch.mk1 (Sch.pk l 1 3) = m1 at *
 generalize Sch.mk2 (Sch.pk l 2 2) = m2 at *
 generalize Sch.mk3 (Sch.pk l 3 3) = m3 at *
 generalize Sch.mk4 (Sch.pk l 4 3) = m4 at *
 generalize Sch.mk5 (Sch.pk l 5 2) = m5 at *
 obtain ⟨fin, hfin, hpos, htr⟩ := Sch.chkTree_out hck
 have hg := Sch.good_tyk m0 m1 m2 m3 m4 m5 hb
 skip
 have htl : (Sch.tyk m0 m1 m2 m3 m4 m5).length = 7 := rfl
 have hall := Sch.any_of hpos
 have hfl : fin.length = 7 := by
  have := Sch.mso_len 10 _ _ hfin
  rwa [List.length_replicate] at this
 have hk0 := Int.emod_nonneg t (by decide : (7 : Int) ≠ 0)
 have hk1 := Int.emod_lt_of_pos t (by decide : (0 : Int) < 7)
 obtain ⟨k, hk⟩ : ∃ k : Nat, t % 7 = (k : Int) := ⟨(t % 7).toNat, by omega⟩
 have hPk := Base.c_Picked t 7 (by decide) (by decide)
 rw [hk] at hPk
 generalize Sch.tyk m0 m1 m2 m3 m4 m5 = ts at *
 generalize Sch.ask m0 m1 m2 m3 m4 m5 = as_ at *
 have htm : (ts.map tpv).length = 7 := by rw [List.length_map]; exact htl
 obtain ⟨d, hd, hcnt, hfd, hacc, hpl⟩ := htr.tree k (by omega)
 obtain ⟨d0, hd0, hv0, _⟩ := htr.top
 have hF1 := WFill.c_filled ts as_ hg fin hfin hall 6 k d hd M0 hI
 have hF0 := WFill.c_filled ts as_ hg fin hfin hall 6 0 d0 hd0 M0 hI
 rw [Nd.av_eq] at hF1 hF0
 have hszd := Sch.treeN_sz 6 k d hd
 have hglk := getD_map fin k (by omega)
 have hfm : (fin.map AV.int).length = 7 := by rw [List.length_map]; exact hfl
 have hpm : (d.parts.map Nd.av).length = d.parts.length := List.length_map ..
 refine W.s (.r (.q (.assign .k) rfl (.n (.h (.s (.r (.mv rfl rfl ?_))))))); refine W.callp (hTy) ⟨(.t rfl), trivial⟩ rfl ?_; refine W.asg rfl rfl (.n (.h (.s (.r (.mv rfl rfl (.mv rfl rfl (.q (.lensl (.t rfl) Tryz.underlying23) rfl ?_))))))); refine W.is (t := 22) (av' := .int ((7 : Nat) : Int)) rfl (congrArg AV.int (by rw [htm])) ?_; refine W.callp (hPk) ⟨(.t rfl), (.t rfl), trivial⟩ rfl ?_; refine W.asg rfl rfl (.n (.h (.s (.r (.mv rfl rfl ?_))))); refine W.app0 .k (.sl (.t rfl) (by intro e he; obtain ⟨t_, _, rfl⟩ := List.mem_map.1 he; rfl)) Tryz.underlying23 ni23 ty28 rfl rfl (by rw [htm]; decide) rfl ?_; refine W.call (WFill.c_Sizes ts as_ hg fin hfin hall M0 hI) ⟨(.t rfl), trivial⟩ ((by ((rw [List.append_nil]; done)))) rfl ?_
 rintro _ M' ⟨rfl, hM'⟩
 rw [hM', List.append_nil]
 refine W.mv rfl rfl (.q (.extract (.t rfl) rfl) rfl (.q (.extract (.t rfl) rfl) rfl (.asg rfl rfl (.asg rfl rfl (.n (.h (.s (.r (.mv rfl rfl (.mv rfl rfl ?_)))))))))); refine W.call (hF1) ⟨(.t rfl), (.t rfl), trivial⟩ ((by ((rw [List.append_nil]; done)))) rfl ?_
 rintro _ M' ⟨rfl, hM'⟩
 rw [hM', List.append_nil]
 refine W.q (.move (.t rfl)) rfl ?_; refine W.q (.extract (.t rfl) rfl) rfl ?_; refine W.q (.extract (.t rfl) rfl) rfl ?_; refine W.alloc ty35 rfl rfl ?_; intro b9
 refine W.stb 0 (.t rfl) (.t rfl) rfl ty35 rfl rfl rfl (.asg rfl rfl (.n (.h (.s (.s (.r (.mv rfl rfl (.q (.nei (.t rfl) .k) rfl (.mv rfl rfl (.isb 38 false rfl (by rfl) (.gyes rfl rfl (.mv rfl rfl (.gyes rfl rfl (.q (.not (.t rfl)) rfl ?_)))))))))))))); refine W.q (.or (.t rfl) ⟨_, _, rfl, rfl, by ((simp; done))⟩) rfl ?_; refine W.mv rfl rfl (.isb 42 false rfl (by rfl) (.gyes rfl rfl (.mv rfl rfl (.gyes rfl rfl (.q (.lensl (.t rfl) Tryz.underlying22) rfl ?_))))); refine W.is (t := 44) (av' := .int 7) rfl (congrArg AV.int (by rw [hfm]; rfl)) ?_; refine W.gyes rfl rfl (.mv rfl rfl (.gyes rfl rfl (.q (.lensl (.t rfl) Tryz.underlying23) rfl ?_))); refine W.is (t := 46) (av' := .int 7) rfl (congrArg AV.int (by rw [htm]; rfl)) ?_; refine W.gyes rfl rfl (.q (.nei (.t rfl) (.t rfl)) rfl ?_); refine W.q (.or (.t rfl) ⟨_, _, rfl, rfl, by ((simp; done))⟩) rfl ?_; refine W.n (.h (.isb 48 false rfl (by rfl) (.condF (.t rfl) (.k (.h (.s (.r (.q (.ldbn 0 (.t rfl) rfl ag35 ty35 rfl) rfl ?_)))))))); refine W.bs (es := [_]) Tryz.underlying33 ty35 ⟨rfl, (.t rfl), rfl, rfl, trivial⟩ rfl (by decide) rfl rfl ?_; refine W.is (t := 51) (av' := .sl 4 ([d].map Nd.av)) rfl (congrArg (AV.sl 4) (by rw [List.map_cons, Nd.av_eq]; rfl)) ?_; refine W.call (WCount.c_Count [d] (by rw [Nd.szs_one]; omega)) ⟨(.t rfl), trivial⟩ (.refl _) rfl ?_
 rintro _ _ ⟨rfl, k27, rfl, hk27, hk28⟩
 rw [hcnt]
 refine W.mv rfl rfl (.q (.extract (.t rfl) rfl) rfl (.q (.extract (.t rfl) rfl) rfl (.asg rfl rfl (.asg rfl rfl (.n (.h (.s (.s (.r (.mv rfl rfl (.mv rfl rfl (.mv rfl rfl ?_)))))))))))); refine W.q (.at (E := 3) (.t rfl) (.t rfl) Tryz.underlying22 ty3 (fun hg => ⟨by omega, hglk⟩) rfl rfl) rfl ?_; refine W.q (.lde1 (.t rfl) ag3) rfl ?_
 refine W.q (.nei (.t rfl) (.t rfl)) rfl ?_; refine W.n ?_; refine W.h ?_; refine W.isb 60 false rfl (by simp) ?_; refine W.condF (.t rfl) ?_; refine W.k ?_; refine W.h ?_; refine W.s ?_; refine W.r ?_; refine W.q (.assign .k) rfl ?_; refine W.n ?_; refine W.h ?_; refine W.s ?_; refine W.s ?_; refine W.r ?_; refine W.q (.assign .k) rfl ?_; refine W.n ?_; refine W.h ?_; refine W.b ?_; refine W.loop (D := []) (ι := Nat) (fun i => [(14, true, .int (i : Int)), (13, true, .int (Sch.accP ts fin d.parts i)), (9, true, .lit (.pointer (some ⟨b9, 0, none⟩))), (5, true, .sl 3 (ts.map tpv)), (7, true, .sl 1 (fin.map AV.int)), (11, true, .int (fin.getD k 0))]) (fun _ => (.box b9 35 (Nd.avx d).cells :: M0)) (fun i => i ≤ d.parts.length) (fun i => d.parts.length - i) 0 ⟨rfl, rfl, rfl, rfl, rfl, rfl, trivial⟩ (by ((rw [List.append_nil]; exact .refl _))) (Nat.zero_le _) ?_; intro i hi
 dsimp only at hi ⊢
 rcases (show i < d.parts.length ∨ i = d.parts.length from by omega) with hlt | hend
 ·have hgp := Nd.at_av d.parts i hlt
  obtain ⟨nm, hnm⟩ : ∃ q, (d.parts.getD i Nd.dflt).name = q := ⟨_, rfl⟩
  have hsP : Sch.accP ts fin d.parts (i + 1) = Sch.accJ ts fin nm 7 (Sch.accP ts fin d.parts i) := by rw [← hnm]; rfl
  refine W.s (.s (.r (.mv rfl rfl (.q (.fab (.t rfl) fa35_3) rfl (.q (.ldb1 0 (.t rfl) rfl ag33 rfl) rfl (.q (.lensl (.t rfl) Tryz.underlying33) rfl ?_))))))
  refine W.q (.lti (.t rfl) (.t rfl)) rfl ?_; refine W.n ?_; refine W.h ?_; refine W.isb 65 true rfl (by exact decide_eq_true (by omega)) ?_; refine W.condT (.t rfl) ?_; refine W.k ?_; refine W.h ?_; refine W.s ?_; refine W.b ?_; refine W.s ?_; refine W.r ?_; refine W.q (.assign .k) rfl ?_; refine W.n ?_; refine W.h ?_; refine W.b ?_; refine W.loop (D := []) (ι := Nat) (fun j => [(15, true, .int (j : Int)), (13, true, .int (Sch.accJ ts fin nm j (Sch.accP ts fin d.parts i))), (14, true, .int (i : Int)), (9, true, .lit (.pointer (some ⟨b9, 0, none⟩))), (5, true, .sl 3 (ts.map tpv)), (7, true, .sl 1 (fin.map AV.int)), (11, true, .int (fin.getD k 0))]) (fun _ => (.box b9 35 (Nd.avx d).cells :: M0)) (fun j => j ≤ 7) (fun j => 7 - j) 0 ⟨rfl, rfl, rfl, rfl, rfl, rfl, rfl, trivial⟩ (by ((rw [List.append_nil]; done))) (Nat.zero_le _) ?_; intro j hj
  dsimp only at hj ⊢
  rcases (show j < 7 ∨ j = 7 from by omega) with hltj | hendj
  ·have hgt := getD_mapG tpv Sch.dT ts j (by omega)
   have hgj := getD_map fin j (by omega)
   refine W.s (.s (.r (.mv rfl rfl (.mv rfl rfl (.q (.lensl (.t rfl) Tryz.underlying23) rfl (.q (.lti (.t rfl) (.t rfl)) rfl (.n (.h ?_)))))))); refine W.isb 71 true rfl (by exact decide_eq_true (by omega)) ?_; refine W.condT (.t rfl) (.k (.h (.s (.b (.s ?_))))); refine W.drawn (by kernel_rfl) (by kernel_rfl) ?_; refine DP.q (.move (.t rfl)) rfl (.q (.move (.t rfl)) rfl ?_); refine DP.q (.at (E := 28) (.t rfl) (.t rfl) Tryz.underlying23 ty28 (fun hg => ⟨by omega, hgt⟩) rfl rfl) rfl ?_; refine DP.q (.fae (.t rfl) fa28_0 rfl) rfl (.q (.lde1 (.t rfl) ag9) rfl (.q (.fab (.t rfl) fa35_3) rfl (.q (.ldb1 0 (.t rfl) rfl ag33 rfl) rfl (.q (.move (.t rfl)) rfl ?_)))); refine DP.q (.at (E := 35) (.t rfl) (.t rfl) Tryz.underlying33 ty35 (fun hg => ⟨by omega, hgp⟩) rfl rfl) rfl ?_; refine DP.q (.fae (.t rfl) fa35_0 rfl) rfl ?_
   first | refine DP.q (.as_ (.lde1 (.t rfl) ag9) (congrArg AV.str hnm)) rfl ?_
   refine DP.q (.eqs (.t rfl) (.t rfl)) rfl ?_; refine DP.nil ?_; refine W.h ?_; refine W.cond (.t rfl) (fun hc_t85 => ?_) (fun hc_t85 => ?_)
   ·have hst : Sch.accJ ts fin nm (j + 1) (Sch.accP ts fin d.parts i) = Sch.wr (Sch.accJ ts fin nm j (Sch.accP ts fin d.parts i) + fin.getD j 0) := if_pos hc_t85
    refine W.r (.mv rfl rfl (.mv rfl rfl (.mv rfl rfl ?_))); refine W.q (.at (E := 3) (.t rfl) (.t rfl) Tryz.underlying22 ty3 (fun hg => ⟨by omega, hgj⟩) rfl rfl) rfl ?_; refine W.q (.lde1 (.t rfl) ag3) rfl (.q (.addw (.t rfl) (.t rfl)) rfl (.asg rfl rfl (.n (.bn (.h (.r (.mv rfl rfl (.q (.add (.t rfl) .k (fun _ => by omega)) rfl ?_))))))))
    refine W.q (.assign (.t rfl)) rfl ?_; refine W.n ?_; refine W.h ?_; refine W.is (t := 13) (av' := .int (Sch.accJ ts fin nm (j + 1) (Sch.accP ts fin d.parts i))) rfl (congrArg AV.int hst.symm) ?_; refine W.reach (D := []) (j + 1) ⟨rfl, rfl, rfl, rfl, rfl, rfl, rfl, trivial⟩ (by ((rw [List.append_nil]; done))) ⟨hltj, by show 7 - (j + 1) < 7 - j; omega⟩
   ·have hst : Sch.accJ ts fin nm (j + 1) (Sch.accP ts fin d.parts i) = Sch.accJ ts fin nm j (Sch.accP ts fin d.parts i) := if_neg (by rw [hc_t85]; simp)
    refine W.k (.bn (.h (.r (.mv rfl rfl (.q (.add (.t rfl) .k (fun _ => by omega)) rfl ?_)))))
    refine W.q (.assign (.t rfl)) rfl ?_; refine W.n ?_; refine W.h ?_; refine W.is (t := 13) (av' := .int (Sch.accJ ts fin nm (j + 1) (Sch.accP ts fin d.parts i))) rfl (congrArg AV.int hst.symm) ?_; refine W.reach (D := []) (j + 1) ⟨rfl, rfl, rfl, rfl, rfl, rfl, rfl, trivial⟩ (by ((rw [List.append_nil]; done))) ⟨hltj, by show 7 - (j + 1) < 7 - j; omega⟩
  ·subst hendj
   refine W.s (.s (.r (.mv rfl rfl (.mv rfl rfl (.q (.lensl (.t rfl) Tryz.underlying23) rfl (.q (.lti (.t rfl) (.t rfl)) rfl (.n (.h ?_)))))))); refine W.isb 71 false rfl (by exact decide_eq_false (by omega)) ?_; refine W.condF (.t rfl) (.ex (.he (.he (.bh (.bn (.h (.r (.mv rfl rfl (.q (.add (.t rfl) .k (fun _ => by omega)) rfl ?_)))))))))
   refine W.q (.assign (.t rfl)) rfl ?_; refine W.n ?_; refine W.h ?_; refine W.is (t := 13) (av' := .int (Sch.accP ts fin d.parts (i + 1))) rfl (congrArg AV.int hsP.symm) ?_; refine W.reach (D := []) (i + 1) ⟨rfl, rfl, rfl, rfl, rfl, rfl, trivial⟩ (by ((rw [List.append_nil]; done))) ⟨hlt, by show d.parts.length - (i + 1) < d.parts.length - i; omega⟩
 ·subst hend
  refine W.s (.s (.r (.mv rfl rfl (.q (.fab (.t rfl) fa35_3) rfl (.q (.ldb1 0 (.t rfl) rfl ag33 rfl) rfl (.q (.lensl (.t rfl) Tryz.underlying33) rfl (.q (.lti (.t rfl) (.t rfl)) rfl (.n (.h ?_))))))))); refine W.isb 65 false rfl (by exact decide_eq_false (by omega)) ?_; refine W.condF (.t rfl) (.ex (.he (.he (.bh (.h (.s (.r (.mv rfl rfl ?_)))))))); refine W.call (hF0) ⟨(.t rfl), .k, trivial⟩ ((List.perm_append_comm (l₁ := [_]))) rfl ?_
  rintro _ M' ⟨rfl, hM'⟩
  rw [hM']
  refine W.perm (List.perm_append_comm (l₂ := [_])) ?_; refine W.q (.move (.t rfl)) rfl ?_; refine W.q (.extract (.t rfl) rfl) rfl ?_; refine W.q (.extract (.t rfl) rfl) rfl ?_; refine W.alloc ty35 rfl rfl ?_; intro b16
  refine W.stb 0 (.t rfl) (.t rfl) rfl ty35 rfl rfl rfl (.asg rfl rfl (.n (.h (.s (.r (.mv rfl rfl (.mv rfl rfl (.isb 98 true rfl (by rfl) (.gyes rfl rfl (.mv rfl rfl (.gyes rfl rfl (.mv rfl rfl (.gyes rfl rfl (.q (.eqi (.t rfl) (.t rfl)) rfl ?_)))))))))))))); refine W.q (.and (.t rfl) ⟨_, _, rfl, rfl, by ((simp; done))⟩) rfl ?_; refine W.mv rfl rfl ?_; refine W.isb 103 true rfl (by rw [hacc]; simp) ?_; refine W.gyes rfl rfl (.mv rfl rfl (.gyes rfl rfl (.q (.ldbn 0 (.t rfl) rfl ag35 ty35 rfl) rfl (.gyes rfl rfl ?_)))); refine W.call (WValid.c_Valid ts as_ hg fin hfin hall 7 d0 0 hv0 M0 hI) ⟨(.t rfl), (.t rfl), trivial⟩ ((List.perm_append_comm (l₁ := [_, _]))) rfl ?_
  rintro _ M' ⟨rfl, hM'⟩
  rw [hM']
  refine W.perm (List.perm_append_comm (l₂ := [_, _])) ?_; refine W.gyes rfl rfl (.q (.eqi (.t rfl) .k) rfl ?_); refine W.q (.and (.t rfl) ⟨_, _, rfl, rfl, by ((simp; done))⟩) rfl ?_; refine W.asg rfl rfl (.n (.h ?_)); refine W.ret ?_; refine W.retn (M' := M0) (D := [_, _]) (rs := [.tmp 4]) (avs := [_]) Tryz.results7 ⟨rfl, trivial⟩ rfl (List.perm_append_comm (l₁ := [_, _])) ?_
  exact ⟨rfl, rfl⟩
end LSchemaFill
end Go.Proofs.YtphlkdbglpcikaaGreatDoor
