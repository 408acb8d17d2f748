/-
  The law SchemaSpoilt, walked.
-/
import Derived.Test.YtphlkdbglpcikaaGreatDoorG12
set_option linter.unusedVariables false
set_option linter.unusedSimpArgs false
set_option maxRecDepth 100000
namespace Go.Proofs.YtphlkdbglpcikaaGreatDoor
open Go.Vl
open Y
namespace LSchemaSpoilt
theorem c_SchemaSpoilt (l : List Int) (how : Int) (hl : l.length ≤ 1048576) (M0 : List ME) (hI : ∀ n : Int, -1 ≤ n → n < 100 → FnC Tryz.prog 107 [.int n] M0 (fun r M => r = .str (itoa n) ∧ M = M0)) : FnC Tryz.prog 6 [.sl 1 (l.map AV.int), .int how] M0 (fun r M => r = .bool true ∧ M = M0) :=  by
 refine FnC.mk Tryz.func6 (by kernel_rfl) rfl Tryz.ntmps6 rfl (fun w0 F => ?_)
 have hp0 := WTypes.pk_lt l 0 4 (by decide)
 have hp1 := WTypes.pk_lt l 1 3 (by decide)
 have hp2 := WTypes.pk_lt l 2 2 (by decide)
 have hp3 := WTypes.pk_lt l 3 3 (by decide)
 have hp4 := WTypes.pk_lt l 4 3 (by decide)
 have hp5 := WTypes.pk_lt l 5 2 (by decide)
 have hTy := WTypes.c_Types l (by omega)
 rw [Sch.tys_tyk] at hTy
 have hck := Sch.tree_all hp0 hp1 hp2 hp3 hp4 hp5
 have hb := Sch.mk_lt hp0 hp1 hp2 hp3 hp4 hp5
 generalize Sch.mk0 (Sch.pk l 0 4) = m0 at *
 generalize Sch.mk1 (Sch.pk l 1 3) = m1 at *
 generalize Sch.mk2 (Sch.pk l 2 2) = m2 at *
 generalize Sch.mk3 (Sch.pk l 3 3) = m3 at *
 generalize Sch.mk4 (Sch.pk l 4 3) = m4 at *
 generalize Sch.mk5 (Sch.pk l 5 2) = m5 at *
 obtain ⟨fin, hfin, hpos, htr⟩ := Sch.chkTree_out hck
 have hg := Sch.good_tyk m0 m1 m2 m3 m4 m5 hb
 skip
 have htl : (Sch.tyk m0 m1 m2 m3 m4 m5).length = 7 := rfl
 have hall := Sch.any_of hpos
 have hfl : fin.length = 7 := by
  have := Sch.mso_len 10 _ _ hfin
  rwa [List.length_replicate] at this
 have hPk := Base.c_Picked how 4 (by decide) (by decide)
 generalize Sch.tyk m0 m1 m2 m3 m4 m5 = ts at *
 generalize Sch.ask m0 m1 m2 m3 m4 m5 = as_ at *
 have htm : (ts.map tpv).length = 7 := by rw [List.length_map]; exact htl
 obtain ⟨d, hd, hv, hs0, hs1, hs2, hs3⟩ := htr.top
 have hF0 := WFill.c_filled ts as_ hg fin hfin hall 6 0 d hd M0 hI
 rw [Nd.av_eq] at hF0
 obtain ⟨_, hd9, _, _, _, hpl⟩ := htr.tree 0 (by decide)
 rw [hd] at hd9
 obtain rfl := Option.some.inj hd9
 have hpm : (d.parts.map Nd.av).length = d.parts.length := List.length_map ..
 refine W.s (.r (.q (.assign .k) rfl (.n (.h (.s (.r (.mv rfl rfl ?_))))))); refine W.callp (hTy) ⟨(.t rfl), trivial⟩ rfl ?_; refine W.asg rfl rfl (.n (.h (.s (.r (.mv rfl rfl ?_))))); refine W.call (hF0) ⟨(.t rfl), .k, trivial⟩ ((by ((rw [List.append_nil]; done)))) rfl ?_
 rintro _ M' ⟨rfl, hM'⟩
 rw [hM', List.append_nil]
 refine W.q (.move (.t rfl)) rfl ?_; refine W.q (.extract (.t rfl) rfl) rfl ?_; refine W.q (.extract (.t rfl) rfl) rfl ?_; refine W.alloc ty35 rfl rfl ?_; intro b6
 refine W.stb 0 (.t rfl) (.t rfl) rfl ty35 rfl rfl rfl (.asg rfl rfl (.n (.h (.s (.s (.r (.mv rfl rfl (.q (.not (.t rfl)) rfl (.mv rfl rfl (.isb 18 false rfl (by rfl) (.gyes rfl rfl (.mv rfl rfl (.gyes rfl rfl (.q (.ldbn 0 (.t rfl) rfl ag35 ty35 rfl) rfl (.gyes rfl rfl ?_))))))))))))))); refine W.call (WValid.c_Valid ts as_ hg fin hfin hall 7 d 0 hv M0 hI) ⟨(.t rfl), (.t rfl), trivial⟩ ((List.perm_append_comm (l₁ := [_]))) rfl ?_
 rintro _ M' ⟨rfl, hM'⟩
 rw [hM']
 refine W.perm (List.perm_append_comm (l₂ := [_])) ?_; refine W.gyes rfl rfl ?_; refine W.q (.nei (.t rfl) .k) rfl ?_; refine W.q (.or (.t rfl) ⟨_, _, rfl, rfl, by ((simp; done))⟩) rfl ?_; refine W.n ?_; refine W.h ?_; refine W.isb 23 false rfl (by rfl) ?_; refine W.condF (.t rfl) ?_; refine W.k ?_; refine W.h ?_; refine W.s ?_; refine W.r ?_; refine W.q (.assign .k) rfl ?_; refine W.n ?_; refine W.h ?_; refine W.s ?_; refine W.s ?_; refine W.r ?_; refine W.q (.move (.t rfl)) rfl ?_; refine W.callp (hPk) ⟨(.t rfl), .k, trivial⟩ rfl ?_; refine W.n ?_; refine W.h ?_; refine W.b ?_; refine W.s ?_; refine W.r ?_; refine W.q (.eqi (.t rfl) .k) rfl ?_; refine W.q (.assign (.t rfl)) rfl ?_; refine W.n ?_; refine W.h ?_; refine W.cond (.t rfl) (fun hc_t27 => ?_) (fun hc_t27 => ?_)
 ·skip
  refine W.r (.q (.fab (.t rfl) fa35_3) rfl (.q (.ldb1 0 (.t rfl) rfl ag33 rfl) rfl ?_)); refine W.appn .k (.sl (.t rfl) (by intro e he; obtain ⟨p_, _, rfl⟩ := List.mem_map.1 he; rw [Nd.av_eq]; rfl)) Tryz.underlying33 ni33 ty35 rfl rfl (by rw [List.length_map]; omega) rfl ?_
  intro v31; refine W.q (.build ty35 st35 rfl (fun hg => ⟨_, _, _, rfl, .k, rfl, rfl, rfl, rfl⟩)) rfl ?_; refine W.nils (t := 32) (g := true) (cs' := [.str Sch.bZzz, .sl 2 [], .str [], .sl 4 []]) rfl ⟨.inl rfl, .inr ⟨rfl, 2, rfl⟩, .inl rfl, .inr ⟨rfl, 4, rfl⟩, trivial⟩ ?_; refine W.bs (es := [_]) Tryz.underlying33 ty35 ⟨rfl, (.t rfl), rfl, rfl, trivial⟩ rfl (by decide) rfl rfl ?_
  refine W.app 0 (.t rfl) rfl (.sl (.t rfl) (by ((simp [AV.okc, shV]; done)))) Tryz.underlying33 ni33 ty35 rfl rfl (by rw [List.length_map]; simp only [List.length_cons, List.length_nil]; omega) rfl ?_
  intro v34; refine W.arr_inv 0 rfl (fun a34 n34 c34 h34 => ?_)
  subst h34
  refine W.q (.fab (.t rfl) fa35_3) rfl (.stb 1 (.t rfl) (.t rfl) rfl ty33 rfl rfl rfl (.n ?_)); refine W.freezeA (M1 := .box b6 35 [.str d.name, .sl 2 (d.attrs.map dav), .str d.text, .lit (.slice a34 n34 c34)] :: M0) (M2 := .box b6 35 (Nd.avx (Sch.spoil0 d)).cells :: M0) (D := []) (v := .slice a34 n34 c34) (L' := []) (by rw [List.append_nil]; exact .refl _) trivial ⟨.box ⟨.refl _, .refl _, .refl _, Sch.zzz_frz d, trivial⟩, FrzMs.refl _⟩ ?_; refine W.bn (.h (.s (.r (.mv rfl rfl (.q (.ldbn 0 (.t rfl) rfl ag35 ty35 rfl) rfl ?_))))); refine W.call (WValid.c_Valid ts as_ hg fin hfin hall 7 (Sch.spoil0 d) 5 hs0 M0 hI) ⟨(.t rfl), (.t rfl), trivial⟩ ((List.perm_append_comm (l₁ := [_]))) rfl ?_
  rintro _ M' ⟨rfl, hM'⟩
  rw [hM']
  refine W.perm (List.perm_append_comm (l₂ := [_])) ?_; refine W.mv rfl rfl (.q (.eqi (.t rfl) (.t rfl)) rfl (.asg rfl rfl (.n (.h ?_)))); refine W.ret ?_; refine W.retn (M' := M0) (D := [_]) (rs := [.tmp 4]) (avs := [_]) Tryz.results6 ⟨rfl, trivial⟩ rfl (List.perm_append_comm (l₁ := [_])) ?_
  exact ⟨rfl, rfl⟩
 ·skip
  refine W.s ?_; refine W.r ?_; refine W.q (.eqi (.t rfl) .k) rfl ?_; refine W.q (.assign (.t rfl)) rfl ?_; refine W.n ?_; refine W.h ?_; refine W.cond (.t rfl) (fun hc_t36 => ?_) (fun hc_t36 => ?_)
  ·skip
   refine W.s (.r (.q (.build ty48 st48 rfl (fun hg => ⟨_, _, _, rfl, .k, rfl, rfl, rfl, rfl⟩)) rfl ?_)); refine W.bs (es := [_]) Tryz.underlying32 ty48 ⟨rfl, (.t rfl), rfl, rfl, trivial⟩ rfl (by decide) rfl rfl ?_; refine W.q (.fab (.t rfl) fa35_1) rfl (.stb 0 (.t rfl) (.t rfl) rfl ty32 rfl rfl rfl (.n ?_)); refine W.perm (M' := .box b6 35 (Nd.avx (Sch.spoil1 d)).cells :: M0) (List.Perm.of_eq rfl) ?_; refine W.h (.r (.q (.assign .k) rfl (.n (.bn (.h (.s (.r (.mv rfl rfl (.q (.ldbn 0 (.t rfl) rfl ag35 ty35 rfl) rfl ?_))))))))); refine W.call (WValid.c_Valid ts as_ hg fin hfin hall 7 (Sch.spoil1 d) 4 hs1 M0 hI) ⟨(.t rfl), (.t rfl), trivial⟩ ((List.perm_append_comm (l₁ := [_]))) rfl ?_
   rintro _ M' ⟨rfl, hM'⟩
   rw [hM']
   refine W.perm (List.perm_append_comm (l₂ := [_])) ?_; refine W.mv rfl rfl (.q (.eqi (.t rfl) (.t rfl)) rfl (.asg rfl rfl (.n (.h ?_)))); refine W.ret ?_; refine W.retn (M' := M0) (D := [_]) (rs := [.tmp 4]) (avs := [_]) Tryz.results6 ⟨rfl, trivial⟩ rfl (List.perm_append_comm (l₁ := [_])) ?_
   exact ⟨rfl, rfl⟩
  ·skip
   refine W.s ?_; refine W.r ?_; refine W.q (.eqi (.t rfl) .k) rfl ?_; refine W.q (.assign (.t rfl)) rfl ?_; refine W.n ?_; refine W.h ?_; refine W.cond (.t rfl) (fun hc_t41 => ?_) (fun hc_t41 => ?_)
   ·skip
    refine W.s (.r (.q (.fab (.t rfl) fa35_2) rfl (.stb 0 (.t rfl) .k rfl ty9 rfl rfl rfl (.n ?_)))); refine W.perm (M' := .box b6 35 (Nd.avx (Sch.spoil2 d)).cells :: M0) (List.Perm.of_eq rfl) ?_; refine W.h (.r (.q (.assign .k) rfl (.n (.bn (.h (.s (.r (.mv rfl rfl (.q (.ldbn 0 (.t rfl) rfl ag35 ty35 rfl) rfl ?_))))))))); refine W.call (WValid.c_Valid ts as_ hg fin hfin hall 7 (Sch.spoil2 d) 4 hs2 M0 hI) ⟨(.t rfl), (.t rfl), trivial⟩ ((List.perm_append_comm (l₁ := [_]))) rfl ?_
    rintro _ M' ⟨rfl, hM'⟩
    rw [hM']
    refine W.perm (List.perm_append_comm (l₂ := [_])) ?_; refine W.mv rfl rfl (.q (.eqi (.t rfl) (.t rfl)) rfl (.asg rfl rfl (.n (.h ?_)))); refine W.ret ?_; refine W.retn (M' := M0) (D := [_]) (rs := [.tmp 4]) (avs := [_]) Tryz.results6 ⟨rfl, trivial⟩ rfl (List.perm_append_comm (l₁ := [_])) ?_
    exact ⟨rfl, rfl⟩
   ·skip
    refine W.r (.q (.fab (.t rfl) fa35_0) rfl (.stb 0 (.t rfl) .k rfl ty9 rfl rfl rfl (.n ?_))); refine W.perm (M' := .box b6 35 (Nd.avx (Sch.spoil3 d)).cells :: M0) (List.Perm.of_eq rfl) ?_; refine W.bn (.h (.s (.r (.mv rfl rfl (.q (.ldbn 0 (.t rfl) rfl ag35 ty35 rfl) rfl ?_))))); refine W.call (WValid.c_Valid ts as_ hg fin hfin hall 7 (Sch.spoil3 d) 5 hs3 M0 hI) ⟨(.t rfl), (.t rfl), trivial⟩ ((List.perm_append_comm (l₁ := [_]))) rfl ?_
    rintro _ M' ⟨rfl, hM'⟩
    rw [hM']
    refine W.perm (List.perm_append_comm (l₂ := [_])) ?_; refine W.mv rfl rfl (.q (.eqi (.t rfl) (.t rfl)) rfl (.asg rfl rfl (.n (.h ?_)))); refine W.ret ?_; refine W.retn (M' := M0) (D := [_]) (rs := [.tmp 4]) (avs := [_]) Tryz.results6 ⟨rfl, trivial⟩ rfl (List.perm_append_comm (l₁ := [_])) ?_
    exact ⟨rfl, rfl⟩
end LSchemaSpoilt
end Go.Proofs.YtphlkdbglpcikaaGreatDoor
