/-
  Merged: WText WParse3 WConts WMay Law8 WMakeA WMach WSLib WName.
-/
import Derived.Test.YtphlkdbglpcikaaGreatDoorG10
set_option linter.unusedVariables false
set_option linter.unusedSimpArgs false
set_option maxRecDepth 100000

section
namespace Go.Proofs.YtphlkdbglpcikaaGreatDoor
open Go.Vl
open Y
namespace WText
theorem c_Join (l : List (List UInt8)) (sep : List UInt8) (hl : l.length ≤ 16777216) (hj : (Ex.joinW sep l).length ≤ 1099511627776) : FnP Tryz.prog 101 [.sl 1 (l.map AV.str), .str sep] (.str (Ex.joinW sep l)) := by
 rw [Ex.joinW_lib] at hj ⊢
 exact joinP (CallOk.of Tryz.func101 (by kernel_rfl) rfl) (fun a c sep w => Tryz.strings_Join_none a c sep w) (fun bk o c xs sep w h1 h2 h3 h4 h5 => Tryz.strings_Join bk o c xs sep w h1 h2 h3 h4 h5) l sep (by omega) (by omega)
theorem c_text_step (x : Ex) (h1 : Ex.ok1 x) (hz : x.sz ≤ 16777216) (hw : Ex.wz x ≤ 1073741824) (ih : ∀ d ∈ x.parts, FnP Tryz.prog 68 [Ex.avx d] (.str (Ex.txt d))) : FnP Tryz.prog 68 [Ex.avx x] (.str (Ex.txt x)) :=  by
 refine FnC.mk Tryz.func68 (by kernel_rfl) rfl Tryz.ntmps68 rfl (fun w0 F => ?_)
 have hpl : (x.parts.map Ex.av).length = x.parts.length := List.length_map ..
 have hse := Ex.sz_eq x
 have hsl := Ex.szs_len x.parts
 obtain ⟨k0, k1, k2, k3, k4, k5, k6, k7⟩ := Ex.ok1_facts h1
 have hwe : Ex.wz x = Ex.sumL (x.parts.map (Ex.ptx1 x.kind)) + x.parts.length + 2 := rfl
 have htl := Ex.ptx_len x
 refine W.s ?_; refine W.r ?_; refine W.box (.t rfl) rfl rfl ?_; intro b1; refine W.q (.assign .k) rfl ?_; refine W.n ?_; refine W.h ?_; refine W.s ?_; refine W.r ?_; refine W.q (.assign .k) rfl ?_; refine W.n ?_; refine W.h ?_; refine W.s ?_; refine W.s ?_; refine W.r ?_
 refine W.q (.fab (.t rfl) fa56_2) rfl (.q (.ldb1 0 (.t rfl) rfl ag54 rfl) rfl (.q (.lensl (.t rfl) Tryz.underlying54) rfl (.q (.move .k) rfl (.n (.h (.b ?_)))))); refine W.own_nil 9 1 ?_; refine W.loop (D := []) (ι := Nat × Value) (fun z => [(11, true, .int (z.1 : Int)), (10, true, .int ((x.parts.map Ex.av).length : Int)), (9, true, .sl 3 (x.parts.map Ex.av)), (1, true, .lit (.pointer (some ⟨b1, 0, none⟩))), (3, true, .lit z.2)]) (fun z => [.arr z.2 9 1 (((x.parts.take z.1).map (Ex.ptx1 x.kind)).map AV.str), .box b1 56 x.avx.cells]) (fun z => z.1 ≤ x.parts.length) (fun z => x.parts.length - z.1) (0, .slice none 0 0) ⟨rfl, rfl, rfl, rfl, rfl, trivial⟩ (.refl _) (Nat.zero_le _) ?_
 rintro ⟨i, v⟩ hi
 dsimp only at hi ⊢
 rcases (show i < x.parts.length ∨ i = x.parts.length from by omega) with hlt | hend
 ·have hga := Ex.at_av x.parts i hlt
  have hdm := getD_memG Ex.dflt x.parts i hlt
  have hsn : (x.parts.take (i + 1)).map (Ex.ptx1 x.kind) = (x.parts.take i).map (Ex.ptx1 x.kind) ++ [Ex.ptx1 x.kind (x.parts.getD i Ex.dflt)] := by rw [take_getDG Ex.dflt x.parts i hlt, List.map_append]; rfl
  generalize hd : x.parts.getD i Ex.dflt = d at hga hdm hsn
  have hdl := htl d hdm
  refine W.s (.r (.q (.lti (.t rfl) (.t rfl)) rfl (.n (.h (.s ?_))))); refine W.isb 12 true rfl (by exact decide_eq_true (by omega)) ?_; refine W.condT (.t rfl) (.k (.h (.s (.b (.s (.r ?_)))))); refine W.q (.at (E := 56) (.t rfl) (.t rfl) Tryz.underlying54 ty56 (fun _ => ⟨by omega, hga⟩) rfl rfl) rfl ?_; refine W.q (.lden (.t rfl) ag56 ty56 rfl rfl) rfl ?_
  refine W.alloc ty56 rfl rfl ?_; intro b5
  refine W.stb 0 (.t rfl) (.t rfl) rfl ty56 rfl rfl rfl (.n (.h (.s (.r (.q (.ldbn 0 (.t rfl) rfl ag56 ty56 rfl) rfl ?_))))); refine W.callp (ih d hdm) ⟨(.t rfl), trivial⟩ rfl ?_; refine W.asg rfl rfl (.n (.h (.s (.s (.r (.q (.fab (.t rfl) fa56_0) rfl (.q (.ldb1 0 (.t rfl) rfl ag3 rfl) rfl (.q (.eqi (.t rfl) .k) rfl (.mv rfl rfl (.qgT rfl rfl (.fab (.t rfl) fa56_0) rfl (.qgT rfl rfl (.ldb1 2 (.c rfl) rfl ag3 rfl) rfl (.qgT rfl rfl (.nei (.c rfl) .k) rfl ?_)))))))))))); refine W.q (.and (.t rfl) ⟨_, _, rfl, rfl, by ((simp; done))⟩) rfl ?_; refine W.mv rfl rfl (.qgF rfl rfl (.fab (.t rfl) fa56_0) rfl (.qgF rfl rfl (.ldb1 0 (.c rfl) rfl ag3 rfl) rfl (.qgF rfl rfl (.eqi (.c rfl) .k) rfl (.qgF rfl rfl (.move (.c rfl)) rfl (.qgT' rfl rfl (.fab (.t rfl) fa56_0) rfl (.qgT' rfl rfl (.ldb1 2 (.c rfl) rfl ag3 rfl) rfl ?_))))))
  refine W.qgT' rfl rfl (.gei (.c rfl) .k) rfl ?_; refine W.qgF rfl rfl (.and (.c rfl) ⟨_, _, rfl, rfl, by ((simp <;> omega; done))⟩) rfl ?_; refine W.q (.or (.t rfl) ⟨_, _, rfl, rfl, by ((intro hg_ hp_; simp [hp_]; done))⟩) rfl ?_; refine W.n ?_; refine W.h ?_; refine W.cond (.t rfl) (fun hc_t34 => ?_) (fun hc_t34 => ?_)
  ·have hpar : Ex.par x.kind d := by simp at hc_t34; unfold Ex.par; omega
   have hp1 : Ex.ptx1 x.kind d = 40 :: (Ex.txt d ++ [41]) := if_pos hpar
   refine W.r (.mv rfl rfl ?_); refine W.q (.cat .k (.t rfl) (fun _ => by ((simp [-List.length_flatMap]; omega)))) rfl ?_; refine W.q (.cat (.t rfl) .k (fun _ => by ((simp [-List.length_flatMap]; omega)))) rfl ?_; refine W.asg rfl rfl (.n (.h (.r (.mv rfl rfl (.mv rfl rfl ?_))))); refine W.bs (es := [_]) Tryz.underlying26 ty9 ⟨rfl, (.t rfl), rfl, rfl, trivial⟩ rfl (by decide) rfl rfl ?_; refine W.app 1 (.t rfl) rfl (.sl (.t rfl) (by simp [AV.okc, shV])) Tryz.underlying26 ni26 ty9 rfl rfl (by rw [List.length_map, List.length_map, List.length_take]; simp only [List.length_cons, List.length_nil]; omega) rfl ?_
   intro v41; refine W.q (.assign (.t rfl)) rfl ?_; refine W.n ?_; refine W.bn ?_; refine W.h ?_; refine W.r ?_
   refine W.q (.add (.t rfl) .k (fun _ => by omega)) rfl ?_
   refine W.q (.move (.t rfl)) rfl ?_; refine W.n ?_; refine W.h ?_; refine W.reach (D := [_]) (i + 1, v41) ⟨rfl, rfl, rfl, rfl, rfl, trivial⟩ (by rw [hsn, hp1, List.map_append]; exact List.perm_append_comm (l₁ := [_])) ⟨by show i + 1 ≤ _; omega, by show _ - (i + 1) < _; omega⟩
  ·have hpar : ¬ Ex.par x.kind d := by unfold Ex.par; intro h; have h2 := Bool.eq_false_iff.1 hc_t34; simp at h2; omega
   have hp1 : Ex.ptx1 x.kind d = Ex.txt d := if_neg hpar
   refine W.k (.h (.r (.mv rfl rfl (.mv rfl rfl ?_)))); refine W.bs (es := [_]) Tryz.underlying26 ty9 ⟨rfl, (.t rfl), rfl, rfl, trivial⟩ rfl (by decide) rfl rfl ?_; refine W.app 1 (.t rfl) rfl (.sl (.t rfl) (by simp [AV.okc, shV])) Tryz.underlying26 ni26 ty9 rfl rfl (by rw [List.length_map, List.length_map, List.length_take]; simp only [List.length_cons, List.length_nil]; omega) rfl ?_
   intro v41; refine W.q (.assign (.t rfl)) rfl ?_; refine W.n ?_; refine W.bn ?_; refine W.h ?_; refine W.r ?_
   refine W.q (.add (.t rfl) .k (fun _ => by omega)) rfl ?_
   refine W.q (.move (.t rfl)) rfl ?_; refine W.n ?_; refine W.h ?_; refine W.reach (D := [_]) (i + 1, v41) ⟨rfl, rfl, rfl, rfl, rfl, trivial⟩ (by rw [hsn, hp1, List.map_append]; exact List.perm_append_comm (l₁ := [_])) ⟨by show i + 1 ≤ _; omega, by show _ - (i + 1) < _; omega⟩
 ·rw [List.take_of_length_le (show x.parts.length ≤ i from by omega)]
  refine W.s (.r (.q (.lti (.t rfl) (.t rfl)) rfl (.n (.h (.s ?_))))); refine W.isb 12 false rfl (by exact decide_eq_false (by omega)) ?_; refine W.condF (.t rfl) (.ex (.he (.he (.bh (.h (.s (.s (.r (.q (.fab (.t rfl) fa56_0) rfl (.q (.ldb1 1 (.t rfl) rfl ag3 rfl) rfl ?_))))))))))
  refine W.n ?_; refine W.h ?_; refine W.b ?_; refine W.s ?_; refine W.r ?_; refine W.q (.eqi (.t rfl) .k) rfl ?_; refine W.q (.assign (.t rfl)) rfl ?_; refine W.n ?_; refine W.h ?_; refine W.cond (.t rfl) (fun hc_t45 => ?_) (fun hc_t45 => ?_)
  ·have e45 : x.kind = 1 := eq_of_beq hc_t45
   refine W.s (.r (.q (.fab (.t rfl) fa56_1) rfl (.q (.ldb1 1 (.t rfl) rfl ag3 rfl) rfl (.q (.fab (.t rfl) fa56_1) rfl (.q (.ldb1 1 (.t rfl) rfl ag3 rfl) rfl (.q (.add (.t rfl) .k (fun _ => by omega)) rfl ?_)))))); refine W.q (.subs (lo := some (.tmp 48)) (hi := some (.tmp 51)) .k Tryz.underlying9 (.t rfl) (.t rfl) (fun _ => by obtain ⟨h0, h8⟩ := k1; exact ⟨h0, by omega, by show x.type + 1 ≤ 8; omega⟩)) rfl ?_; refine W.is (t := 52) (av' := .str [97 + UInt8.ofNat x.type.toNat]) rfl (congrArg AV.str (Ex.letter8 x.type k1.1 k1.2)) ?_; refine W.asg rfl rfl (.n (.h ?_)); refine W.ret ?_; refine W.br (.hr ?_); refine W.retn (M' := []) (D := _) (rs := [.tmp 2]) (avs := [_]) Tryz.results68 ⟨rfl, trivial⟩ rfl (.refl _) ?_
   refine ⟨?_, rfl⟩
   rw [Ex.txt_eq]
   ((rw [if_pos e45]; rfl))
  ·have e45 : x.kind ≠ 1 := beq_eq_false_iff_ne.1 hc_t45
   refine W.s ?_; refine W.r ?_; refine W.q (.eqi (.t rfl) .k) rfl ?_; refine W.q (.assign (.t rfl)) rfl ?_; refine W.n ?_; refine W.h ?_; refine W.cond (.t rfl) (fun hc_t53 => ?_) (fun hc_t53 => ?_)
   ·have e53 : x.kind = 2 := eq_of_beq hc_t53
    refine W.s (.r (.mv rfl rfl ?_)); refine W.freezeA (M1 := [_]) (M2 := [_]) (D := []) (v := v) (L' := [(55, true, .sl 1 ((x.parts.map (Ex.ptx1 x.kind)).map AV.str))]) (.refl _) ⟨⟨_, rfl, .one .hit⟩, trivial⟩ (FrzMs.refl _) ?_; refine W.callp (c_Join (x.parts.map (Ex.ptx1 x.kind)) [] (by rw [List.length_map]; omega) (by have := Ex.join0_le x; omega)) ⟨(.t rfl), .k, trivial⟩ rfl ?_; refine W.asg rfl rfl (.n (.h ?_)); refine W.ret ?_; refine W.br (.hr ?_); refine W.retn (M' := []) (D := _) (rs := [.tmp 2]) (avs := [_]) Tryz.results68 ⟨rfl, trivial⟩ rfl (.refl _) ?_
    refine ⟨?_, rfl⟩
    rw [Ex.txt_eq]
    ((rw [if_neg e45, if_pos e53]; rfl))
   ·have e53 : x.kind ≠ 2 := beq_eq_false_iff_ne.1 hc_t53
    refine W.s ?_; refine W.r ?_; refine W.q (.eqi (.t rfl) .k) rfl ?_; refine W.q (.assign (.t rfl)) rfl ?_; refine W.n ?_; refine W.h ?_; refine W.cond (.t rfl) (fun hc_t57 => ?_) (fun hc_t57 => ?_)
    ·have e57 : x.kind = 3 := eq_of_beq hc_t57
     refine W.s (.r (.mv rfl rfl ?_)); refine W.freezeA (M1 := [_]) (M2 := [_]) (D := []) (v := v) (L' := [(59, true, .sl 1 ((x.parts.map (Ex.ptx1 x.kind)).map AV.str))]) (.refl _) ⟨⟨_, rfl, .one .hit⟩, trivial⟩ (FrzMs.refl _) ?_; refine W.callp (c_Join (x.parts.map (Ex.ptx1 x.kind)) [124] (by rw [List.length_map]; omega) (by have := Ex.join1_le x; omega)) ⟨(.t rfl), .k, trivial⟩ rfl ?_; refine W.asg rfl rfl (.n (.h ?_)); refine W.ret ?_; refine W.br (.hr ?_); refine W.retn (M' := []) (D := _) (rs := [.tmp 2]) (avs := [_]) Tryz.results68 ⟨rfl, trivial⟩ rfl (.refl _) ?_
     refine ⟨?_, rfl⟩
     rw [Ex.txt_eq]
     ((rw [if_neg e45, if_neg e53, if_pos e57]; rfl))
    ·have e57 : x.kind ≠ 3 := beq_eq_false_iff_ne.1 hc_t57
     have e4 : 4 ≤ x.kind := by omega
     obtain ⟨q, hq⟩ : ∃ q, x.parts = [q] := List.length_eq_one_iff.1 (k6 e4)
     refine W.k (.bn (.h (.s (.r (.q (.fab (.t rfl) fa56_0) rfl (.q (.ldb1 1 (.t rfl) rfl ag3 rfl) rfl (.q (.sub (.t rfl) .k (fun _ => by omega)) rfl (.asg rfl rfl (.n ?_)))))))))
     obtain ⟨j, hj, hj3⟩ : ∃ j : Nat, x.kind - 4 = (j : Int) ∧ j < 3 := ⟨(x.kind - 4).toNat, by omega, by omega⟩
     refine W.is (t := 7) (av' := .int (j : Int)) rfl (congrArg AV.int hj) ?_; refine W.freezeA (M1 := [_]) (M2 := [_]) (D := []) (v := v) (L' := [(3, true, .sl 1 ((x.parts.map (Ex.ptx1 x.kind)).map AV.str))]) (.refl _) ⟨⟨_, rfl, .one .hit⟩, trivial⟩ (FrzMs.refl _) ?_
     have hg0 : ((x.parts.map (Ex.ptx1 x.kind)).map AV.str)[0]? = some (.str (Ex.ptx1 x.kind q)) := by rw [hq]; rfl
     have hql : (Ex.ptx1 x.kind q).length ≤ Ex.wz x := by rw [hwe, hq]; simp [Ex.sumL]; omega
     refine W.h (.s ?_); refine W.drawn (by kernel_rfl) (by kernel_rfl) ?_; refine DP.q (.move (.t rfl)) rfl ?_; refine DP.q (.at (E := 9) (.t rfl) .k Tryz.underlying26 ty9 (fun _ => ⟨by decide, hg0⟩) rfl rfl) rfl ?_; refine DP.q (.lde1 (.t rfl) ag9) rfl (.q (.move (.t rfl)) rfl (.q (.move (.t rfl)) rfl (.q (.add (.t rfl) .k (fun _ => by omega)) rfl ?_))); refine DP.q (.subs (lo := some (.tmp 67)) (hi := some (.tmp 69)) .k Tryz.underlying9 (.t rfl) (.t rfl) (fun _ => ⟨by omega, by omega, by show (j : Int) + 1 ≤ 3; omega⟩)) rfl ?_; refine DP.q (.cat (.t rfl) (.t rfl) (fun _ => by ((simp [-List.length_flatMap]; omega)))) rfl ?_; refine DP.q (.assign (.t rfl)) rfl (.nil (.h ?_)); refine W.ret ?_; refine W.retn (M' := []) (D := _) (rs := [.tmp 2]) (avs := [_]) Tryz.results68 ⟨rfl, trivial⟩ rfl (.refl _) ?_
     refine ⟨?_, rfl⟩
     rw [Ex.txt_eq]
     ((rw [if_neg e45, if_neg e53, if_neg e57, hq, Ex.sign3 x.kind j hj hj3]; rfl))
theorem c_text : ∀ x : Ex, Ex.ok x → x.sz ≤ 16777216 → (Ex.txt x).length ≤ 1048576 → FnP Tryz.prog 68 [Ex.avx x] (.str (Ex.txt x)) := by
 refine Ex.rec' fun x ih hx hz hl => ?_
 obtain ⟨h1, h2⟩ := (Ex.ok_iff x).1 hx
 have hw := Ex.wz_le x h1
 have hs := Ex.sz_eq x
 have hn := Ex.szs_len x.parts
 exact c_text_step x h1 hz (by omega) fun d hd => ih d hd (h2 d hd) (by have := Ex.part_sz hd; omega) (by have := Ex.part_txt x h1 d hd; omega)
end WText
end Go.Proofs.YtphlkdbglpcikaaGreatDoor
end
section
namespace Go.Proofs.YtphlkdbglpcikaaGreatDoor
open Go.Vl
open Y
namespace WParse3
theorem c_Check (x : Ex) (hx : Ex.ok x) (hz : x.sz ≤ 16777216) (hl : (Ex.txt x).length ≤ 40) : FnP Tryz.prog 37 [x.avx] (.int 0) :=  by
 refine FnC.mk Tryz.func37 (by kernel_rfl) rfl Tryz.ntmps37 rfl (fun w0 F => ?_)
 refine W.s ?_; refine W.r ?_; refine W.box (.t rfl) rfl rfl ?_; intro b1; refine W.q (.assign .k) rfl ?_; refine W.n ?_; refine W.h ?_; refine W.s ?_; refine W.s ?_; refine W.r ?_
 first | refine W.q (.lden (.t rfl) ag56 ty56 rfl rfl) rfl ?_ | refine W.q (.ldbn 0 (.t rfl) rfl ag56 ty56 rfl) rfl ?_ | refine W.q (.ldbn 1 (.t rfl) rfl ag56 ty56 rfl) rfl ?_ | refine W.q (.ldbn 2 (.t rfl) rfl ag56 ty56 rfl) rfl ?_ | refine W.q (.ldbn 3 (.t rfl) rfl ag56 ty56 rfl) rfl ?_
 refine W.callp (WFault.c_fault x hx hz) ⟨(.t rfl), trivial⟩ rfl ?_; refine W.asg rfl rfl (.n (.h (.s (.r (.mv rfl rfl (.q (.nei (.t rfl) .k) rfl (.n (.h (.isb 7 false rfl (by rfl) (.condF (.t rfl) (.k (.h (.s (.s (.r ?_)))))))))))))))
 first | refine W.q (.lden (.t rfl) ag56 ty56 rfl rfl) rfl ?_ | refine W.q (.ldbn 0 (.t rfl) rfl ag56 ty56 rfl) rfl ?_ | refine W.q (.ldbn 1 (.t rfl) rfl ag56 ty56 rfl) rfl ?_ | refine W.q (.ldbn 2 (.t rfl) rfl ag56 ty56 rfl) rfl ?_ | refine W.q (.ldbn 3 (.t rfl) rfl ag56 ty56 rfl) rfl ?_
 refine W.callp (WText.c_text x hx hz (by omega)) ⟨(.t rfl), trivial⟩ rfl ?_; refine W.q (.lens (.t rfl) Tryz.underlying9) rfl (.q (.gti (.t rfl) .k) rfl (.n (.h ?_))); refine W.isb 12 false rfl (by exact decide_eq_false (by omega)) ?_; refine W.condF (.t rfl) (.k (.h (.s (.r (.q (.assign .k) rfl (.n (.h ?_))))))); refine W.ret ?_; refine W.retn (M' := []) (D := _) (rs := [.tmp 2]) (avs := [_]) Tryz.results37 ⟨rfl, trivial⟩ rfl (.refl _) ?_
 exact ⟨rfl, rfl⟩
theorem c_Parse (s : List It) (a : List (List It)) (hs : It.oks s) (ha : It.oka a) (hl : (It.stx s ++ It.atl a).length ≤ 40) : FnP Tryz.prog 23 [.str (It.stx s ++ It.atl a)] (.tup [(It.al s a).avx, .int 0]) :=  by
 refine FnC.mk Tryz.func23 (by kernel_rfl) rfl Tryz.ntmps23 rfl (fun w0 F => ?_)
 have hok := It.al_ok s a hs ha
 have hlen := It.al_len s a hs ha
 have hsz := It.al_sz s a
 refine W.s ?_; refine W.r ?_; refine W.alloc ty56 rfl rfl ?_; intro b2; refine W.q (.assign .k) rfl ?_; refine W.n ?_; refine W.h ?_; refine W.s ?_; refine W.s ?_; refine W.r ?_; refine W.q (.move (.t rfl)) rfl ?_; refine W.q (.lens (.t rfl) Tryz.underlying9) rfl ?_; refine W.q (.gti (.t rfl) .k) rfl ?_; refine W.n ?_; refine W.h ?_; refine W.isb 9 false rfl (by exact decide_eq_false (by omega)) ?_; refine W.condF (.t rfl) ?_; refine W.k ?_; refine W.h ?_; refine W.s ?_; refine W.r ?_; refine W.q (.move (.t rfl)) rfl ?_; refine W.q (.build ty94 st94 rfl (fun hg => ⟨_, _, _, rfl, (.t rfl), rfl, rfl, rfl, rfl⟩)) rfl ?_; refine W.box (.t rfl) rfl rfl ?_; intro b13; refine W.q (.assign (.t rfl)) rfl ?_; refine W.n ?_; refine W.h ?_; refine W.s ?_; refine W.r ?_
 have cA := WParse2.c_top b13 s a hs ha (by omega)
 rw [List.append_nil] at cA
 refine W.mv rfl rfl ?_; refine W.call (cA) ⟨(.t rfl), trivial⟩ ((List.Perm.refl _)) rfl ?_
 rintro _ _ ⟨rfl, rfl⟩
 refine W.alloc ty56 rfl rfl ?_; intro b5
 first | refine W.stb 0 (.t rfl) (.t rfl) rfl ty56 rfl rfl rfl ?_ | refine W.stb 1 (.t rfl) (.t rfl) rfl ty56 rfl rfl rfl ?_ | refine W.stb 2 (.t rfl) (.t rfl) rfl ty56 rfl rfl rfl ?_ | refine W.stb 3 (.t rfl) (.t rfl) rfl ty56 rfl rfl rfl ?_ | refine W.stb 4 (.t rfl) (.t rfl) rfl ty56 rfl rfl rfl ?_
 refine W.n (.h (.s (.s (.r (.mv rfl rfl (.q (.nilc (.t rfl)) rfl ?_))))))
 first | refine W.q (.fae (.t rfl) fa94_1 rfl) rfl ?_ | refine W.q (.fab (.t rfl) fa94_1) rfl ?_ | refine W.q (.faa (.t rfl) fa94_1) rfl ?_
 first | refine W.q (.lde1 (.t rfl) ag4) rfl ?_ | refine W.q (.ldb1 0 (.t rfl) rfl ag4 rfl) rfl ?_ | refine W.q (.ldb1 1 (.t rfl) rfl ag4 rfl) rfl ?_ | refine W.q (.ldb1 2 (.t rfl) rfl ag4 rfl) rfl ?_ | refine W.q (.ldb1 3 (.t rfl) rfl ag4 rfl) rfl ?_ | refine W.q (.ldb1 4 (.t rfl) rfl ag4 rfl) rfl ?_
 refine W.mv rfl rfl (.qgF rfl rfl (.move (.t rfl)) rfl (.qgF rfl rfl (.nilc (.c rfl)) rfl ?_))
 first | refine W.qgF rfl rfl (.fae (.c rfl) fa94_0 rfl) rfl ?_ | refine W.qgF rfl rfl (.fab (.c rfl) fa94_0) rfl ?_ | refine W.qgF rfl rfl (.faa (.c rfl) fa94_0) rfl ?_
 first | refine W.qgF rfl rfl (.lde1 (.c rfl) ag9) rfl ?_ | refine W.qgF rfl rfl (.ldb1 0 (.c rfl) rfl ag9 rfl) rfl ?_ | refine W.qgF rfl rfl (.ldb1 1 (.c rfl) rfl ag9 rfl) rfl ?_ | refine W.qgF rfl rfl (.ldb1 2 (.c rfl) rfl ag9 rfl) rfl ?_ | refine W.qgF rfl rfl (.ldb1 3 (.c rfl) rfl ag9 rfl) rfl ?_ | refine W.qgF rfl rfl (.ldb1 4 (.c rfl) rfl ag9 rfl) rfl ?_
 refine W.qgF rfl rfl (.nes (.c rfl) .k) rfl ?_; refine W.q (.or (.t rfl) ⟨_, _, rfl, rfl, by first | (simp; done) | (intro hg_ hp_; simp [hp_]; done) | (simp <;> omega; done) | (simp_all; done) | grind⟩) rfl ?_; refine W.n ?_; refine W.h ?_; refine W.isb 26 false rfl (by rfl) ?_; refine W.condF (.t rfl) ?_; refine W.k ?_; refine W.h ?_; refine W.s ?_; refine W.s ?_; refine W.r ?_
 first | refine W.q (.lden (.t rfl) ag56 ty56 rfl rfl) rfl ?_ | refine W.q (.ldbn 0 (.t rfl) rfl ag56 ty56 rfl) rfl ?_ | refine W.q (.ldbn 1 (.t rfl) rfl ag56 ty56 rfl) rfl ?_ | refine W.q (.ldbn 2 (.t rfl) rfl ag56 ty56 rfl) rfl ?_ | refine W.q (.ldbn 3 (.t rfl) rfl ag56 ty56 rfl) rfl ?_ | refine W.q (.ldbn 4 (.t rfl) rfl ag56 ty56 rfl) rfl ?_
 refine W.callp (c_Check (It.al s a) hok (by omega) (by omega)) ⟨(.t rfl), trivial⟩ rfl ?_; refine W.asg rfl rfl (.n (.h (.s (.r (.mv rfl rfl (.q (.nei (.t rfl) .k) rfl (.n (.h (.isb 31 false rfl (by rfl) (.condF (.t rfl) (.k (.h (.s (.r ?_))))))))))))))
 first | refine W.q (.lden (.t rfl) ag56 ty56 rfl rfl) rfl ?_ | refine W.q (.ldbn 0 (.t rfl) rfl ag56 ty56 rfl) rfl ?_ | refine W.q (.ldbn 1 (.t rfl) rfl ag56 ty56 rfl) rfl ?_ | refine W.q (.ldbn 2 (.t rfl) rfl ag56 ty56 rfl) rfl ?_ | refine W.q (.ldbn 3 (.t rfl) rfl ag56 ty56 rfl) rfl ?_ | refine W.q (.ldbn 4 (.t rfl) rfl ag56 ty56 rfl) rfl ?_
 first | refine W.stb 0 (.t rfl) (.t rfl) rfl ty56 rfl rfl rfl ?_ | refine W.stb 1 (.t rfl) (.t rfl) rfl ty56 rfl rfl rfl ?_ | refine W.stb 2 (.t rfl) (.t rfl) rfl ty56 rfl rfl rfl ?_ | refine W.stb 3 (.t rfl) (.t rfl) rfl ty56 rfl rfl rfl ?_ | refine W.stb 4 (.t rfl) (.t rfl) rfl ty56 rfl rfl rfl ?_
 refine W.q (.assign .k) rfl (.n (.h ?_)); refine W.ret ?_; refine W.retn (M' := []) (D := _) (rs := [.cell 2 56, .tmp 3]) (avs := [_, _]) Tryz.results23 ⟨⟨_, _, _, rfl, by first | exact List.mem_cons_self | exact List.mem_cons_of_mem _ List.mem_cons_self | exact List.mem_cons_of_mem _ (List.mem_cons_of_mem _ List.mem_cons_self) | exact List.mem_cons_of_mem _ (List.mem_cons_of_mem _ (List.mem_cons_of_mem _ List.mem_cons_self)) | exact List.mem_cons_of_mem _ (List.mem_cons_of_mem _ (List.mem_cons_of_mem _ (List.mem_cons_of_mem _ List.mem_cons_self))), rfl, by funext w; exact ag56.run w, by funext w; exact ty56.size w⟩, rfl, trivial⟩ rfl (.refl _) ?_
 exact ⟨rfl, rfl⟩
end WParse3
end Go.Proofs.YtphlkdbglpcikaaGreatDoor
end
section
namespace Go.Proofs.YtphlkdbglpcikaaGreatDoor
open Go.Vl
open Y
namespace WConts
theorem c_IndexFuncI (l : List Int) (g : Nat) (caps : List Value) (M0 : List ME) (p : Int → Bool) (hg : ∀ d ∈ l, FnC Tryz.prog g ([AV.int d] ++ caps.map .lit) M0 (fun r M => r = .bool (p d) ∧ M = M0)) (hn : l.length ≤ 1099511627776) : FnC Tryz.prog 91 [.sl 1 (l.map AV.int), .lit (.func (.func g) #[] caps.toArray)] M0 (fun r M => r = .int (idxI p l) ∧ M = M0) :=  by
 refine FnC.mk Tryz.func91 (by kernel_rfl) rfl Tryz.ntmps91 rfl (fun w0 F => ?_)
 have hnl : (l.map AV.int).length = l.length := List.length_map ..
 refine W.s (.r (.q (.assign .k) rfl (.n (.h (.s (.s (.r (.mv rfl rfl (.q (.lensl (.t rfl) Tryz.underlying22) rfl (.q (.move .k) rfl (.n (.h (.b ?_))))))))))))); refine W.loop (D := []) (ι := Nat) (fun i => [(8, true, .int (i : Int)), (7, true, .int ((l.map AV.int).length : Int)), (0, true, .sl 1 (l.map AV.int)), (1, true, .lit (.func (.func g) #[] caps.toArray))]) (fun _ => M0) (fun i => i ≤ l.length ∧ ∀ d ∈ l.take i, p d = false) (fun i => l.length - i) 0 ⟨rfl, rfl, rfl, rfl, trivial⟩ (List.Perm.of_eq (List.append_nil _).symm) ⟨Nat.zero_le _, by simp⟩ ?_
 rintro i ⟨hi1, hi2⟩
 dsimp only at hi1 hi2 ⊢
 rcases (show i < l.length ∨ i = l.length from by omega) with hlt | hend
 ·have hga := getD_mapG AV.int 0 l i hlt
  refine W.s (.r (.q (.lti (.t rfl) (.t rfl)) rfl (.n (.h (.s ?_))))); refine W.isb 9 true rfl (by simp; omega) ?_; refine W.condT (.t rfl) (.k (.h (.s (.b (.s (.r (.mv rfl rfl (.asg rfl rfl (.n (.h (.s (.r (.mv rfl rfl (.mv rfl rfl (.mv rfl rfl ?_))))))))))))))); refine W.q (.at (E := 3) (.t rfl) (.t rfl) Tryz.underlying22 ty3 (fun _ => ⟨by omega, hga⟩) rfl rfl) rfl ?_; refine W.q (.lde1 (.t rfl) ag3) rfl ?_; refine W.callv (caps := caps) (avs := [_]) (hg (l.getD i 0) (getD_memG 0 l i hlt)) (.t rfl) ⟨(.t rfl), trivial⟩ rfl ((List.Perm.of_eq (List.append_nil _).symm)) rfl ?_
  rintro _ M' ⟨rfl, hM⟩
  rw [hM, List.append_nil]
  refine W.n ?_; refine W.h ?_; refine W.cond (.t rfl) (fun hc_t16 => ?_) (fun hc_t16 => ?_)
  ·have hq := idxI_hit p 0 l i hlt hi2 hc_t16
   refine W.s (.r (.mv rfl rfl (.asg rfl rfl (.n (.h ?_))))); refine W.ret ?_; refine W.br (.hr (.hr (.br (.hr ?_)))); refine W.retn (M' := M0) (D := []) (rs := [.tmp 4]) (avs := [_]) Tryz.results91 ⟨rfl, trivial⟩ rfl (List.Perm.of_eq (List.append_nil _).symm) ?_
   exact ⟨congrArg AV.int (by rw [hq]), rfl⟩
  ·have hq : p (l.getD i 0) = false := hc_t16
   refine W.k (.bn (.h (.r (.q (.add (.t rfl) .k (fun _ => by omega)) rfl ?_))))
   refine W.q (.move (.t rfl)) rfl ?_; refine W.n ?_; refine W.h ?_; refine W.reach (D := []) (i + 1) ⟨rfl, rfl, rfl, rfl, trivial⟩ (List.Perm.of_eq (List.append_nil _).symm) ⟨⟨by omega, ?_⟩, by omega⟩
   rw [take_getDG 0 l i hlt]
   intro d hd
   cases List.mem_append.1 hd with
   | inl h => exact hi2 d h
   | inr h => rw [List.mem_singleton.1 h]; exact hq
 ·rw [List.take_of_length_le (by omega)] at hi2
  have hq := idxI_miss p l hi2
  refine W.s (.r (.q (.lti (.t rfl) (.t rfl)) rfl (.n (.h (.s ?_))))); refine W.isb 9 false rfl (by simp; omega) ?_; refine W.condF (.t rfl) (.ex (.he (.he (.bh (.h (.s (.r (.q (.assign .k) rfl (.n (.h ?_)))))))))); refine W.ret ?_; refine W.retn (M' := M0) (D := []) (rs := [.tmp 4]) (avs := [_]) Tryz.results91 ⟨rfl, trivial⟩ rfl (List.Perm.of_eq (List.append_nil _).symm) ?_
  exact ⟨congrArg AV.int (by rw [hq]), rfl⟩
theorem c_ContainsFuncI (l : List Int) (g : Nat) (caps : List Value) (M0 : List ME) (p : Int → Bool) (hg : ∀ d ∈ l, FnC Tryz.prog g ([AV.int d] ++ caps.map .lit) M0 (fun r M => r = .bool (p d) ∧ M = M0)) (hn : l.length ≤ 1099511627776) : FnC Tryz.prog 54 [.sl 1 (l.map AV.int), .lit (.func (.func g) #[] caps.toArray)] M0 (fun r M => r = .bool (l.any p) ∧ M = M0) :=  by
 refine FnC.mk Tryz.func54 (by kernel_rfl) rfl Tryz.ntmps54 rfl (fun w0 F => ?_)
 refine W.s (.r (.q (.assign .k) rfl (.n (.h (.s (.r (.mv rfl rfl (.mv rfl rfl ?_)))))))); refine W.call (c_IndexFuncI l g caps M0 p hg hn) ⟨(.t rfl), (.t rfl), trivial⟩ ((List.Perm.of_eq (List.append_nil _).symm)) rfl ?_
 rintro _ M' ⟨rfl, hM⟩
 rw [hM, List.append_nil]
 refine W.q (.gei (.t rfl) .k) rfl (.asg rfl rfl (.n (.h ?_))); refine W.ret ?_; refine W.retn (M' := M0) (D := []) (rs := [.tmp 4]) (avs := [_]) Tryz.results54 ⟨rfl, trivial⟩ rfl (List.Perm.of_eq (List.append_nil _).symm) ?_
 exact ⟨congrArg AV.bool (idxI_any p l), rfl⟩
theorem c_IndexFuncR (l : List (List Int)) (g : Nat) (caps : List Value) (M0 : List ME) (p : (List Int) → Bool) (hg : ∀ d ∈ l, FnC Tryz.prog g ([pav d] ++ caps.map .lit) M0 (fun r M => r = .bool (p d) ∧ M = M0)) (hn : l.length ≤ 1099511627776) : FnC Tryz.prog 112 [.sl 1 (l.map pav), .lit (.func (.func g) #[] caps.toArray)] M0 (fun r M => r = .int (idxI p l) ∧ M = M0) :=  by
 refine FnC.mk Tryz.func112 (by kernel_rfl) rfl Tryz.ntmps112 rfl (fun w0 F => ?_)
 have hnl : (l.map pav).length = l.length := List.length_map ..
 refine W.s (.r (.q (.assign .k) rfl (.n (.h (.s (.s (.r (.mv rfl rfl (.q (.lensl (.t rfl) Tryz.underlying59) rfl (.q (.move .k) rfl (.n (.h (.b ?_))))))))))))); refine W.loop (D := []) (ι := Nat) (fun i => [(8, true, .int (i : Int)), (7, true, .int ((l.map pav).length : Int)), (0, true, .sl 1 (l.map pav)), (1, true, .lit (.func (.func g) #[] caps.toArray))]) (fun _ => M0) (fun i => i ≤ l.length ∧ ∀ d ∈ l.take i, p d = false) (fun i => l.length - i) 0 ⟨rfl, rfl, rfl, rfl, trivial⟩ (List.Perm.of_eq (List.append_nil _).symm) ⟨Nat.zero_le _, by simp⟩ ?_
 rintro i ⟨hi1, hi2⟩
 dsimp only at hi1 hi2 ⊢
 rcases (show i < l.length ∨ i = l.length from by omega) with hlt | hend
 ·have hga := getD_mapG pav [] l i hlt
  refine W.s (.r (.q (.lti (.t rfl) (.t rfl)) rfl (.n (.h (.s ?_))))); refine W.isb 9 true rfl (by simp; omega) ?_; refine W.condT (.t rfl) (.k (.h (.s (.b (.s (.r (.mv rfl rfl (.asg rfl rfl (.n (.h (.s (.r (.mv rfl rfl (.mv rfl rfl (.mv rfl rfl ?_))))))))))))))); refine W.q (.at (E := 22) (.t rfl) (.t rfl) Tryz.underlying59 ty22 (fun _ => ⟨by omega, hga⟩) rfl rfl) rfl ?_; refine W.q (.lde1 (.t rfl) ag22) rfl ?_; refine W.callv (caps := caps) (avs := [_]) (hg (l.getD i []) (getD_memG [] l i hlt)) (.t rfl) ⟨(.t rfl), trivial⟩ rfl ((List.Perm.of_eq (List.append_nil _).symm)) rfl ?_
  rintro _ M' ⟨rfl, hM⟩
  rw [hM, List.append_nil]
  refine W.n ?_; refine W.h ?_; refine W.cond (.t rfl) (fun hc_t16 => ?_) (fun hc_t16 => ?_)
  ·have hq := idxI_hit p [] l i hlt hi2 hc_t16
   refine W.s (.r (.mv rfl rfl (.asg rfl rfl (.n (.h ?_))))); refine W.ret ?_; refine W.br (.hr (.hr (.br (.hr ?_)))); refine W.retn (M' := M0) (D := []) (rs := [.tmp 4]) (avs := [_]) Tryz.results112 ⟨rfl, trivial⟩ rfl (List.Perm.of_eq (List.append_nil _).symm) ?_
   exact ⟨congrArg AV.int (by rw [hq]), rfl⟩
  ·have hq : p (l.getD i []) = false := hc_t16
   refine W.k (.bn (.h (.r (.q (.add (.t rfl) .k (fun _ => by omega)) rfl ?_))))
   refine W.q (.move (.t rfl)) rfl ?_; refine W.n ?_; refine W.h ?_; refine W.reach (D := []) (i + 1) ⟨rfl, rfl, rfl, rfl, trivial⟩ (List.Perm.of_eq (List.append_nil _).symm) ⟨⟨by omega, ?_⟩, by omega⟩
   rw [take_getDG [] l i hlt]
   intro d hd
   cases List.mem_append.1 hd with
   | inl h => exact hi2 d h
   | inr h => rw [List.mem_singleton.1 h]; exact hq
 ·rw [List.take_of_length_le (by omega)] at hi2
  have hq := idxI_miss p l hi2
  refine W.s (.r (.q (.lti (.t rfl) (.t rfl)) rfl (.n (.h (.s ?_))))); refine W.isb 9 false rfl (by simp; omega) ?_; refine W.condF (.t rfl) (.ex (.he (.he (.bh (.h (.s (.r (.q (.assign .k) rfl (.n (.h ?_)))))))))); refine W.ret ?_; refine W.retn (M' := M0) (D := []) (rs := [.tmp 4]) (avs := [_]) Tryz.results112 ⟨rfl, trivial⟩ rfl (List.Perm.of_eq (List.append_nil _).symm) ?_
  exact ⟨congrArg AV.int (by rw [hq]), rfl⟩
theorem c_ContainsFuncR (l : List (List Int)) (g : Nat) (caps : List Value) (M0 : List ME) (p : (List Int) → Bool) (hg : ∀ d ∈ l, FnC Tryz.prog g ([pav d] ++ caps.map .lit) M0 (fun r M => r = .bool (p d) ∧ M = M0)) (hn : l.length ≤ 1099511627776) : FnC Tryz.prog 79 [.sl 1 (l.map pav), .lit (.func (.func g) #[] caps.toArray)] M0 (fun r M => r = .bool (l.any p) ∧ M = M0) :=  by
 refine FnC.mk Tryz.func79 (by kernel_rfl) rfl Tryz.ntmps79 rfl (fun w0 F => ?_)
 refine W.s (.r (.q (.assign .k) rfl (.n (.h (.s (.r (.mv rfl rfl (.mv rfl rfl ?_)))))))); refine W.call (c_IndexFuncR l g caps M0 p hg hn) ⟨(.t rfl), (.t rfl), trivial⟩ ((List.Perm.of_eq (List.append_nil _).symm)) rfl ?_
 rintro _ M' ⟨rfl, hM⟩
 rw [hM, List.append_nil]
 refine W.q (.gei (.t rfl) .k) rfl (.asg rfl rfl (.n (.h ?_))); refine W.ret ?_; refine W.retn (M' := M0) (D := []) (rs := [.tmp 4]) (avs := [_]) Tryz.results79 ⟨rfl, trivial⟩ rfl (List.Perm.of_eq (List.append_nil _).symm) ?_
 exact ⟨congrArg AV.bool (idxI_any p l), rfl⟩
end WConts
end Go.Proofs.YtphlkdbglpcikaaGreatDoor
end
section
namespace Go.Proofs.YtphlkdbglpcikaaGreatDoor
open Go.Vl
open Y
namespace WMay
theorem c_May1 (x n : Int) (b3 : Nat) : FnC Tryz.prog 78 [.int x, .lit (.pointer (some ⟨b3, 0, none⟩))] [.box b3 3 [.int n]] (fun r M => r = .bool (decide (x < -1) || decide (n ≤ x)) ∧ M = [.box b3 3 [.int n]]) :=  by
 refine FnC.mk Tryz.func78 (by kernel_rfl) rfl Tryz.ntmps78 rfl (fun w0 F => ?_)
 refine W.s (.r (.q (.assign .k) rfl (.n (.h (.s (.r (.mv rfl rfl (.q (.lti (.t rfl) .k) rfl (.mv rfl rfl (.qgF rfl rfl (.move (.t rfl)) rfl ?_))))))))))
 first | refine W.qgF rfl rfl (.lde1 (.t rfl) ag3) rfl ?_ | refine W.qgF rfl rfl (.ldb1 0 (.t rfl) rfl ag3 rfl) rfl ?_ | refine W.qgF rfl rfl (.ldb1 1 (.t rfl) rfl ag3 rfl) rfl ?_ | refine W.qgF rfl rfl (.ldb1 2 (.t rfl) rfl ag3 rfl) rfl ?_ | refine W.qgF rfl rfl (.ldb1 3 (.t rfl) rfl ag3 rfl) rfl ?_
 refine W.qgF rfl rfl (.gei (.c rfl) (.c rfl)) rfl ?_; refine W.q (.or (.t rfl) ⟨_, _, rfl, rfl, by first | (simp; done) | (intro hg_ hp_; simp [hp_]; done) | (simp <;> omega; done) | (simp_all; done) | grind⟩) rfl ?_; refine W.q (.assign (.t rfl)) rfl ?_; refine W.n ?_; refine W.h ?_; refine W.ret ?_; refine W.retn (M' := [.box b3 3 [.int n]]) (D := []) (rs := [.tmp 3]) (avs := [_]) Tryz.results78 ⟨rfl, trivial⟩ rfl (.refl _) ?_
 exact ⟨rfl, rfl⟩
theorem c_May2 (p : List Int) (n : Int) (b3 b4 : Nat) (hp : p.length ≤ 8) : FnC Tryz.prog 80 [.sl 1 (p.map AV.int), .lit (.pointer (some ⟨b4, 0, none⟩))] [.box b4 122 [.lit (.func (.func 78) #[] #[.pointer (some ⟨b3, 0, none⟩)])], .box b3 3 [.int n]] (fun r M => r = .bool ((p.length != 8) || p.any fun x => decide (x < -1) || decide (n ≤ x)) ∧ M = [.box b4 122 [.lit (.func (.func 78) #[] #[.pointer (some ⟨b3, 0, none⟩)])], .box b3 3 [.int n]]) :=  by
 refine FnC.mk Tryz.func80 (by kernel_rfl) rfl Tryz.ntmps80 rfl (fun w0 F => ?_)
 refine W.s (.r (.q (.assign .k) rfl (.n (.h (.s (.r (.mv rfl rfl ?_)))))))
 first | refine W.q (.lensl (.t rfl) Tryz.underlying22) rfl ?_ | refine W.q (.lenar (i := 0) (.t rfl) rfl Tryz.underlying22) rfl ?_ | refine W.q (.lenar (i := 1) (.t rfl) rfl Tryz.underlying22) rfl ?_ | refine W.q (.lenar (i := 2) (.t rfl) rfl Tryz.underlying22) rfl ?_ | refine W.q (.lenar (i := 3) (.t rfl) rfl Tryz.underlying22) rfl ?_
 refine W.q (.nei (.t rfl) .k) rfl (.mv rfl rfl (.qgF rfl rfl (.move (.t rfl)) rfl ?_))
 first | refine W.qgF rfl rfl (.lde1 (.t rfl) ag122) rfl ?_ | refine W.qgF rfl rfl (.ldb1 0 (.t rfl) rfl ag122 rfl) rfl ?_ | refine W.qgF rfl rfl (.ldb1 1 (.t rfl) rfl ag122 rfl) rfl ?_ | refine W.qgF rfl rfl (.ldb1 2 (.t rfl) rfl ag122 rfl) rfl ?_ | refine W.qgF rfl rfl (.ldb1 3 (.t rfl) rfl ag122 rfl) rfl ?_
 refine W.callgF (Min := _) (caps := []) (avs := [_, _]) rfl rfl (fun hg => WConts.c_ContainsFuncI p 78 [.pointer (some ⟨b3, 0, none⟩)] [.box b3 3 [.int n]] (fun x => decide (x < -1) || decide (n ≤ x)) (fun d _ => c_May1 d n b3) (by omega)) (fun hg => .f) (fun hg => ⟨(.i rfl (fun _ => hg)), (.i rfl (fun _ => hg)), trivial⟩) rfl (List.Perm.swap _ _ []) rfl ?_; refine W.q (.or (.t rfl) ⟨_, _, rfl, rfl, by first | (simp; done) | (intro hg_ hp_; simp [hp_]; done) | (simp <;> omega; done) | (simp_all; done) | grind⟩) rfl ?_; refine W.q (.assign (.t rfl)) rfl ?_; refine W.n ?_; refine W.h ?_; refine W.ret ?_; refine W.retn (M' := [.box b4 122 [.lit (.func (.func 78) #[] #[.pointer (some ⟨b3, 0, none⟩)])], .box b3 3 [.int n]]) (D := []) (rs := [.tmp 3]) (avs := [_]) Tryz.results80 ⟨rfl, trivial⟩ rfl (.refl _) ?_
 refine ⟨congrArg AV.bool ?_, rfl⟩
 rw [List.length_map]
 congr 1
 rw [Bool.eq_iff_iff, bne_iff_ne, bne_iff_ne]
 omega
theorem c_May (a : Au) (hs : a.Shape) (hn : a.next.length ≤ 40) : FnP Tryz.prog 40 [.agg [.sl 1 (a.next.map pav), .sl 1 (a.final.map AV.bool)]] (.bool true) :=  by
 refine FnC.mk Tryz.func40 (by kernel_rfl) rfl Tryz.ntmps40 rfl (fun w0 F => ?_)
 have hl1 : (a.next.map pav).length = a.next.length := List.length_map ..
 have hl2 : (a.final.map AV.bool).length = a.final.length := List.length_map ..
 have hfin := hs.fin
 have hpos := hs.pos
 refine W.s ?_; refine W.r ?_; refine W.box (.t rfl) rfl rfl ?_; intro b1; refine W.q (.assign .k) rfl ?_; refine W.n ?_; refine W.h ?_; refine W.s ?_; refine W.r ?_
 first | refine W.q (.fae (.t rfl) fa62_0 rfl) rfl ?_ | refine W.q (.fab (.t rfl) fa62_0) rfl ?_ | refine W.q (.faa (.t rfl) fa62_0) rfl ?_
 first | refine W.q (.lde1 (.t rfl) ag59) rfl ?_ | refine W.q (.ldb1 0 (.t rfl) rfl ag59 rfl) rfl ?_ | refine W.q (.ldb1 1 (.t rfl) rfl ag59 rfl) rfl ?_ | refine W.q (.ldb1 2 (.t rfl) rfl ag59 rfl) rfl ?_ | refine W.q (.ldb1 3 (.t rfl) rfl ag59 rfl) rfl ?_
 first | refine W.q (.lensl (.t rfl) Tryz.underlying59) rfl ?_ | refine W.q (.lenar (i := 0) (.t rfl) rfl Tryz.underlying59) rfl ?_ | refine W.q (.lenar (i := 1) (.t rfl) rfl Tryz.underlying59) rfl ?_ | refine W.q (.lenar (i := 2) (.t rfl) rfl Tryz.underlying59) rfl ?_ | refine W.q (.lenar (i := 3) (.t rfl) rfl Tryz.underlying59) rfl ?_
 refine W.alloc ty3 rfl rfl ?_; intro b3
 first | refine W.stb 0 (.t rfl) (.t rfl) rfl ty3 rfl rfl rfl ?_ | refine W.stb 1 (.t rfl) (.t rfl) rfl ty3 rfl rfl rfl ?_ | refine W.stb 2 (.t rfl) (.t rfl) rfl ty3 rfl rfl rfl ?_ | refine W.stb 3 (.t rfl) (.t rfl) rfl ty3 rfl rfl rfl ?_
 refine W.n (.h (.s (.s (.r ?_))))
 first | refine W.q (.lde1 (.t rfl) ag3) rfl ?_ | refine W.q (.ldb1 0 (.t rfl) rfl ag3 rfl) rfl ?_ | refine W.q (.ldb1 1 (.t rfl) rfl ag3 rfl) rfl ?_ | refine W.q (.ldb1 2 (.t rfl) rfl ag3 rfl) rfl ?_ | refine W.q (.ldb1 3 (.t rfl) rfl ag3 rfl) rfl ?_
 refine W.q (.lti (.t rfl) .k) rfl (.mv rfl rfl ?_)
 first | refine W.qgF rfl rfl (.lde1 (.t rfl) ag3) rfl ?_ | refine W.qgF rfl rfl (.ldb1 0 (.t rfl) rfl ag3 rfl) rfl ?_ | refine W.qgF rfl rfl (.ldb1 1 (.t rfl) rfl ag3 rfl) rfl ?_ | refine W.qgF rfl rfl (.ldb1 2 (.t rfl) rfl ag3 rfl) rfl ?_ | refine W.qgF rfl rfl (.ldb1 3 (.t rfl) rfl ag3 rfl) rfl ?_
 refine W.qgF rfl rfl (.gti (.c rfl) .k) rfl ?_; refine W.q (.or (.t rfl) ⟨_, _, rfl, rfl, by first | (simp; done) | (intro hg_ hp_; simp [hp_]; done) | (simp <;> omega; done) | (simp_all; done) | grind⟩) rfl ?_; refine W.q (.move (.t rfl)) rfl ?_
 first | refine W.qgF rfl rfl (.fae (.t rfl) fa62_1 rfl) rfl ?_ | refine W.qgF rfl rfl (.fab (.t rfl) fa62_1) rfl ?_ | refine W.qgF rfl rfl (.faa (.t rfl) fa62_1) rfl ?_
 first | refine W.qgF rfl rfl (.lde1 (.c rfl) ag60) rfl ?_ | refine W.qgF rfl rfl (.ldb1 0 (.c rfl) rfl ag60 rfl) rfl ?_ | refine W.qgF rfl rfl (.ldb1 1 (.c rfl) rfl ag60 rfl) rfl ?_ | refine W.qgF rfl rfl (.ldb1 2 (.c rfl) rfl ag60 rfl) rfl ?_ | refine W.qgF rfl rfl (.ldb1 3 (.c rfl) rfl ag60 rfl) rfl ?_
 first | refine W.qgF rfl rfl (.lensl (.c rfl) Tryz.underlying60) rfl ?_ | refine W.qgF rfl rfl (.lenar (i := 0) (.c rfl) rfl Tryz.underlying60) rfl ?_ | refine W.qgF rfl rfl (.lenar (i := 1) (.c rfl) rfl Tryz.underlying60) rfl ?_ | refine W.qgF rfl rfl (.lenar (i := 2) (.c rfl) rfl Tryz.underlying60) rfl ?_ | refine W.qgF rfl rfl (.lenar (i := 3) (.c rfl) rfl Tryz.underlying60) rfl ?_
 first | refine W.qgF rfl rfl (.lde1 (.t rfl) ag3) rfl ?_ | refine W.qgF rfl rfl (.ldb1 0 (.t rfl) rfl ag3 rfl) rfl ?_ | refine W.qgF rfl rfl (.ldb1 1 (.t rfl) rfl ag3 rfl) rfl ?_ | refine W.qgF rfl rfl (.ldb1 2 (.t rfl) rfl ag3 rfl) rfl ?_ | refine W.qgF rfl rfl (.ldb1 3 (.t rfl) rfl ag3 rfl) rfl ?_
 refine W.qgF rfl rfl (.nei (.c rfl) (.c rfl)) rfl ?_; refine W.q (.or (.t rfl) ⟨_, _, rfl, rfl, by first | (simp; done) | (intro hg_ hp_; simp [hp_]; done) | (simp <;> omega; done) | (simp_all; done) | grind⟩) rfl ?_; refine W.n ?_; refine W.h ?_; refine W.isb 20 false rfl (by simp; omega) ?_; refine W.condF (.t rfl) ?_; refine W.k ?_; refine W.h ?_; refine W.s ?_; refine W.r ?_; refine W.q (.mkfn (caps := [.tmp 3]) (vs := [_]) ⟨(.t rfl), trivial⟩) rfl ?_; refine W.alloc ty122 rfl rfl ?_; intro b4
 first | refine W.stb 0 (.t rfl) (.t rfl) rfl ty122 rfl rfl rfl ?_ | refine W.stb 1 (.t rfl) (.t rfl) rfl ty122 rfl rfl rfl ?_ | refine W.stb 2 (.t rfl) (.t rfl) rfl ty122 rfl rfl rfl ?_ | refine W.stb 3 (.t rfl) (.t rfl) rfl ty122 rfl rfl rfl ?_
 refine W.n (.h (.s (.r ?_)))
 first | refine W.q (.fae (.t rfl) fa62_0 rfl) rfl ?_ | refine W.q (.fab (.t rfl) fa62_0) rfl ?_ | refine W.q (.faa (.t rfl) fa62_0) rfl ?_
 first | refine W.q (.lde1 (.t rfl) ag59) rfl ?_ | refine W.q (.ldb1 0 (.t rfl) rfl ag59 rfl) rfl ?_ | refine W.q (.ldb1 1 (.t rfl) rfl ag59 rfl) rfl ?_ | refine W.q (.ldb1 2 (.t rfl) rfl ag59 rfl) rfl ?_ | refine W.q (.ldb1 3 (.t rfl) rfl ag59 rfl) rfl ?_
 refine W.q (.mkfn (caps := [.tmp 4]) (vs := [_]) ⟨(.t rfl), trivial⟩) rfl ?_; refine W.call (WConts.c_ContainsFuncR a.next 80 [.pointer (some ⟨b4, 0, none⟩)] [.box b4 122 [.lit (.func (.func 78) #[] #[.pointer (some ⟨b3, 0, none⟩)])], .box b3 3 [.int ((a.next.map pav).length : Int)]] (fun p => (p.length != 8) || p.any fun x => decide (x < -1) || decide (((a.next.map pav).length : Int) ≤ x)) (fun d hd => c_May2 d _ b3 b4 (Nat.le_of_eq (hs.mem_row d hd))) (by omega)) ⟨(.t rfl), (.t rfl), trivial⟩ (.refl _) rfl ?_
 rintro _ _ ⟨rfl, rfl⟩
 refine W.q (.not (.t rfl)) rfl (.asg rfl rfl (.n (.h ?_))); refine W.ret ?_; refine W.retn (M' := []) (D := _) (rs := [.tmp 2]) (avs := [_]) Tryz.results40 ⟨rfl, trivial⟩ rfl (.refl _) ?_
 exact ⟨congrArg AV.bool (by rw [hl1, hs.any_ok]; rfl), rfl⟩
end WMay
end Go.Proofs.YtphlkdbglpcikaaGreatDoor
end
section
namespace Go.Vl
namespace Au
def eqb (a b : Au) : Bool := decide (a.next = b.next) && decide (a.final = b.final)
end Au
namespace Lg
end Lg
namespace It
end It
end Go.Vl
end
section
namespace Go.Proofs.YtphlkdbglpcikaaGreatDoor
open Go.Vl
open Y
namespace WMakeA
theorem c_MakeA (s : List It) (a : List (List It)) (hs : It.oks s) (ha : It.oka a) (hl : (It.stx s ++ It.atl a).length ≤ 40) (hlv : It.snl s + It.anl a ≤ 6) (A : Au) (hA : A.Ord) (hAl : ∀ u, A.acc 0 u ↔ (Lg.alt (It.slg s) (It.alg a)) u) (hAn : A.next.length ≤ 32) (M0 : List ME) (hI : ∀ n : Int, -1 ≤ n → n < 100 → FnC Tryz.prog 107 [.int n] M0 (fun r M => r = .str (itoa n) ∧ M = M0)) : FnC Tryz.prog 24 [(It.al s a).avx] M0 (fun r M => r = .tup [.agg [.sl 1 (A.next.map pav), .sl 1 (A.final.map AV.bool)], .int 0] ∧ M = M0) :=  by
 refine FnC.mk Tryz.func24 (by kernel_rfl) rfl Tryz.ntmps24 rfl (fun w0 F => ?_)
 have hsz : ∀ d : Au, d.Ord → (∀ u, d.acc 0 u ↔ (Lg.alt (It.slg s) (It.alg a)) u) → d = A := fun d hd he => Au.Ord.unique hd hA fun u => (he u).trans (hAl u).symm
 have hok := It.al_ok s a hs ha
 have hlen := It.al_len s a hs ha
 have hxz := It.al_sz s a
 have hlva := It.lv_al s a
 have hlg := It.lg_al s a
 generalize It.al s a = x at *
 refine W.s ?_; refine W.r ?_; refine W.box (.t rfl) rfl rfl ?_; intro b1; refine W.alloc ty62 rfl rfl ?_; intro b2; refine W.q (.assign .k) rfl ?_; refine W.n ?_; refine W.h ?_; refine W.s ?_; refine W.s ?_; refine W.r ?_
 first | refine W.q (.lden (.t rfl) ag56 ty56 rfl rfl) rfl ?_ | refine W.q (.ldbn 0 (.t rfl) rfl ag56 ty56 rfl) rfl ?_ | refine W.q (.ldbn 1 (.t rfl) rfl ag56 ty56 rfl) rfl ?_ | refine W.q (.ldbn 2 (.t rfl) rfl ag56 ty56 rfl) rfl ?_ | refine W.q (.ldbn 3 (.t rfl) rfl ag56 ty56 rfl) rfl ?_ | refine W.q (.ldbn 4 (.t rfl) rfl ag56 ty56 rfl) rfl ?_ | refine W.q (.ldbn 5 (.t rfl) rfl ag56 ty56 rfl) rfl ?_
 refine W.callp (WParse3.c_Check x hok (by omega) (by omega)) ⟨(.t rfl), trivial⟩ rfl ?_; refine W.asg rfl rfl (.n (.h (.s (.r (.mv rfl rfl (.q (.nei (.t rfl) .k) rfl (.n (.h (.isb 8 false rfl (by rfl) (.condF (.t rfl) (.k (.h (.s (.r ?_))))))))))))))
 first | refine W.q (.lden (.t rfl) ag56 ty56 rfl rfl) rfl ?_ | refine W.q (.ldbn 0 (.t rfl) rfl ag56 ty56 rfl) rfl ?_ | refine W.q (.ldbn 1 (.t rfl) rfl ag56 ty56 rfl) rfl ?_ | refine W.q (.ldbn 2 (.t rfl) rfl ag56 ty56 rfl) rfl ?_ | refine W.q (.ldbn 3 (.t rfl) rfl ag56 ty56 rfl) rfl ?_ | refine W.q (.ldbn 4 (.t rfl) rfl ag56 ty56 rfl) rfl ?_ | refine W.q (.ldbn 5 (.t rfl) rfl ag56 ty56 rfl) rfl ?_
 refine W.call (WSets.c_sets x hok (by omega) (by omega)) ⟨(.t rfl), trivial⟩ (.refl _) rfl ?_
 rintro _ _ ⟨rfl, w, hwS, hwl, hwu, rfl⟩
 refine W.call (WOrder.c_order w hwS (by omega) M0 hI (fun d hd he => by rw [hsz d hd fun u => (he u).trans ((hwu u).trans (by rw [hlg]))]; omega)) ⟨(.t rfl), trivial⟩ ((List.perm_append_comm (l₁ := [_, _]))) rfl ?_
 rintro _ M' ⟨d, hd, hdu, rfl, hM'⟩
 rw [hM']
 refine W.perm (List.perm_append_comm (l₂ := [_, _])) ?_; refine W.q (.extract (.t rfl) rfl) rfl (.q (.extract (.t rfl) rfl) rfl ?_)
 first | refine W.stb 0 (.t rfl) (.t rfl) rfl ty62 rfl rfl rfl ?_ | refine W.stb 1 (.t rfl) (.t rfl) rfl ty62 rfl rfl rfl ?_ | refine W.stb 2 (.t rfl) (.t rfl) rfl ty62 rfl rfl rfl ?_ | refine W.stb 3 (.t rfl) (.t rfl) rfl ty62 rfl rfl rfl ?_ | refine W.stb 4 (.t rfl) (.t rfl) rfl ty62 rfl rfl rfl ?_ | refine W.stb 5 (.t rfl) (.t rfl) rfl ty62 rfl rfl rfl ?_
 refine W.asg rfl rfl (.n (.h ?_)); refine W.ret ?_; refine W.retn (M' := M0) (D := _) (rs := [.cell 2 62, .tmp 3]) (avs := [_, _]) Tryz.results24 ⟨⟨_, _, _, rfl, by repeat (first | exact List.mem_cons_self | apply List.mem_cons_of_mem), rfl, by funext w; exact ag62.run w, by funext w; exact ty62.size w⟩, rfl, trivial⟩ rfl (List.perm_append_comm (l₁ := [_, _])) ?_
 have hdu2 := fun u => (hdu u).trans ((hwu u).trans (by rw [hlg]))
 obtain rfl := hsz d hd hdu2
 exact ⟨rfl, rfl⟩
end WMakeA
end Go.Proofs.YtphlkdbglpcikaaGreatDoor
end
section
namespace Go.Proofs.YtphlkdbglpcikaaGreatDoor
open Go.Vl
open Y
namespace WMach
theorem c_m1 (x : Int) : FnP Tryz.prog 89 [.int x] (.bool (decide (0 ≤ x))) :=  by
 refine FnC.mk Tryz.func89 (by kernel_rfl) rfl Tryz.ntmps89 rfl (fun w0 F => ?_)
 refine W.s (.r (.q (.assign .k) rfl (.n (.h (.s (.r (.mv rfl rfl (.q (.gei (.t rfl) .k) rfl (.asg rfl rfl (.n (.h ?_))))))))))); refine W.ret ?_; refine W.retn (M' := []) (rs := [.tmp 2]) (avs := [_]) Tryz.results89 ⟨rfl, trivial⟩ rfl (.refl _) ?_
 exact ⟨rfl, rfl⟩
theorem c_machine (s : List It) (a : List (List It)) (hs : It.oks s) (ha : It.oka a) (t : List UInt8) (e : t = It.stx s ++ It.atl a) (hl : t.length ≤ 40) (hlv : It.snl s + It.anl a ≤ 6) (A : Au) (hA : A.Ord) (hAl : ∀ u, A.acc 0 u ↔ (Lg.alt (It.slg s) (It.alg a)) u) (hAn : A.next.length ≤ 32) (n : Nat) (hn : n ≤ 8) (c : Int) (hc : -1 ≤ c ∧ c < 8) (hf : Sch.fine A n c = true) (M0 : List ME) (hI : ∀ n : Int, -1 ≤ n → n < 100 → FnC Tryz.prog 107 [.int n] M0 (fun r M => r = .str (itoa n) ∧ M = M0)) : FnC Tryz.prog 51 [.str t, .int (n : Int), .int c] M0 (fun r M => r = .tup [.agg [.sl 1 (A.next.map pav), .sl 1 (A.final.map AV.bool)], .int 0] ∧ M = M0) :=  by
 refine FnC.mk Tryz.func51 (by kernel_rfl) rfl Tryz.ntmps51 rfl (fun w0 F => ?_)
 subst e
 have hMk := WMakeA.c_MakeA s a hs ha hl hlv A hA hAl hAn M0 hI
 have hPs := WParse3.c_Parse s a hs ha hl
 generalize It.al s a = x at hMk hPs
 have hsh := hA.shape
 have hnl : (A.next.map pav).length = A.next.length := List.length_map ..
 refine W.s ?_; refine W.r ?_; refine W.alloc ty62 rfl rfl ?_; intro b6; refine W.q (.assign .k) rfl ?_; refine W.n ?_; refine W.h ?_; refine W.s ?_; refine W.r ?_; refine W.q (.move (.t rfl)) rfl ?_; refine W.callp (hPs) ⟨(.t rfl), trivial⟩ rfl ?_; refine W.q (.move (.t rfl)) rfl ?_; refine W.q (.extract (.t rfl) rfl) rfl ?_; refine W.q (.extract (.t rfl) rfl) rfl ?_; refine W.alloc ty56 rfl rfl ?_; intro b8
 refine W.stb 0 (.t rfl) (.t rfl) rfl ty56 rfl rfl rfl (.asg rfl rfl (.n (.h (.s (.s (.r (.mv rfl rfl (.q (.nei (.t rfl) .k) rfl (.n (.h (.isb 21 false rfl (by rfl) (.condF (.t rfl) (.k (.h (.s (.r (.q (.ldbn 0 (.t rfl) rfl ag56 ty56 rfl) rfl ?_))))))))))))))))); refine W.call (hMk) ⟨(.t rfl), trivial⟩ ((List.perm_append_comm (l₁ := [_, _]))) rfl ?_
 rintro _ M' ⟨rfl, hM'⟩
 rw [hM']
 refine W.perm (List.perm_append_comm (l₂ := [_, _])) ?_; refine W.q (.move (.t rfl)) rfl ?_; refine W.q (.extract (.t rfl) rfl) rfl ?_; refine W.q (.extract (.t rfl) rfl) rfl ?_; refine W.alloc ty62 rfl rfl ?_; intro b10
 refine W.stb 0 (.t rfl) (.t rfl) rfl ty62 rfl rfl rfl (.asg rfl rfl (.n (.h (.s (.s (.r (.mv rfl rfl (.q (.nei (.t rfl) .k) rfl (.n (.h (.isb 29 false rfl (by rfl) (.condF (.t rfl) (.k (.h (.s (.s (.r (.q (.fab (.t rfl) fa62_0) rfl (.q (.ldb1 0 (.t rfl) rfl ag59 rfl) rfl (.q (.lensl (.t rfl) Tryz.underlying59) rfl ?_))))))))))))))))))))
 refine W.q (.move .k) rfl ?_; refine W.n ?_; refine W.h ?_; refine W.b ?_; refine W.loop (D := []) (ι := Nat) (fun i => [(34, true, .int (i : Int)), (33, true, .int ((A.next.map pav).length : Int)), (32, true, .sl 1 (A.next.map pav)), (10, true, .lit (.pointer (some ⟨b10, 0, none⟩))), (1, true, .int (n : Int)), (2, true, .int c), (6, true, .lit (.pointer (some ⟨b6, 0, none⟩)))]) (fun i => .box b10 62 [.sl 1 (A.next.map pav), .sl 1 (A.final.map AV.bool)] :: .box b8 56 x.avx.cells :: .box b6 62 [.lit (.slice none 0 0), .lit (.slice none 0 0)] :: M0) (fun i => i ≤ A.next.length) (fun i => A.next.length - i) 0 ⟨rfl, rfl, rfl, rfl, rfl, rfl, rfl, trivial⟩ (by ((rw [List.append_nil]; exact .refl _))) (Nat.zero_le _) ?_; intro i hi
 dsimp only at hi ⊢
 rcases (show i < A.next.length ∨ i = A.next.length from by omega) with hlt | hend
 ·have hgr := getD_mapG pav [] A.next i hlt
  have hrm := getD_memG [] A.next i hlt
  have hr8 := hsh.mem_row _ hrm
  generalize A.next.getD i [] = r at hgr hrm hr8
  refine W.s (.r (.q (.lti (.t rfl) (.t rfl)) rfl (.n (.h (.s ?_))))); refine W.isb 35 true rfl (by exact decide_eq_true (by omega)) ?_; refine W.condT (.t rfl) (.k (.h (.s (.b (.s (.r ?_)))))); refine W.q (.at (E := 22) (.t rfl) (.t rfl) Tryz.underlying59 ty22 (fun _ => ⟨by omega, hgr⟩) rfl rfl) rfl ?_; refine W.q (.lde1 (.t rfl) ag22) rfl (.asg rfl rfl (.n (.h (.s (.r (.mv rfl rfl (.mv rfl rfl ?_))))))); refine W.q (.dropsl (n := n) (.t rfl) Tryz.underlying22 ty3 (.t rfl) (by (omega)) (fun _ => by omega)) rfl ?_; refine W.is (t := 40) (av' := .sl 1 ((r.drop n).map AV.int)) rfl (congrArg (AV.sl 1) (by rw [List.map_drop])) ?_; refine W.call (WConts.c_ContainsFuncI (r.drop n) 89 [] [] (fun x => decide (0 ≤ x)) (fun x _ => c_m1 x) (by rw [List.length_drop]; omega)) ⟨(.t rfl), .f, trivial⟩ (.refl _) rfl ?_
  rintro _ _ ⟨rfl, rfl⟩
  rw [Sch.fine1 hf hrm]
  refine W.n (.h (.condF (.t rfl) (.k (.bn (.h (.r (.q (.add (.t rfl) .k (fun _ => by omega)) rfl ?_)))))))
  refine W.q (.move (.t rfl)) rfl ?_; refine W.n ?_; refine W.h ?_; refine W.reach (D := []) (i + 1) ⟨rfl, rfl, rfl, rfl, rfl, rfl, rfl, trivial⟩ (by ((rw [List.append_nil]; exact .refl _))) ⟨hlt, by show A.next.length - (i + 1) < A.next.length - i; omega⟩
 ·skip
  refine W.s (.r (.q (.lti (.t rfl) (.t rfl)) rfl (.n (.h (.s ?_))))); refine W.isb 35 false rfl (by exact decide_eq_false (by omega)) ?_; refine W.condF (.t rfl) (.ex (.he (.he (.bh (.h (.s (.s (.r (.q (.fab (.t rfl) fa62_0) rfl (.q (.ldb1 0 (.t rfl) rfl ag59 rfl) rfl (.q (.lensl (.t rfl) Tryz.underlying59) rfl (.q (.move .k) rfl (.n (.h (.b ?_))))))))))))))); refine W.loop (D := []) (ι := Nat) (fun i => [(47, true, .int (i : Int)), (46, true, .int ((A.next.map pav).length : Int)), (45, true, .sl 1 (A.next.map pav)), (10, true, .lit (.pointer (some ⟨b10, 0, none⟩))), (2, true, .int c), (6, true, .lit (.pointer (some ⟨b6, 0, none⟩)))]) (fun i => .box b10 62 [.sl 1 (A.next.map pav), .sl 1 (A.final.map AV.bool)] :: .box b8 56 x.avx.cells :: .box b6 62 [.lit (.slice none 0 0), .lit (.slice none 0 0)] :: M0) (fun i => i ≤ A.next.length) (fun i => A.next.length - i) 0 ⟨rfl, rfl, rfl, rfl, rfl, rfl, trivial⟩ (by ((rw [List.append_nil]; done))) (Nat.zero_le _) ?_
  clear hi hend
  intro i hi
  dsimp only at hi ⊢
  rcases (show i < A.next.length ∨ i = A.next.length from by omega) with hlt | hend
  ·have hgr := getD_mapG pav [] A.next i hlt
   have hrm := getD_memG [] A.next i hlt
   have hr8 := hsh.mem_row _ hrm
   have hent := hsh.mem_ent _ hrm
   generalize A.next.getD i [] = r at hgr hrm hr8 hent
   have hgc : 0 ≤ c → (r.map AV.int)[c.toNat]? = some (AV.int (r.getD c.toNat (-1))) := fun h => by
    have h8 : c.toNat < r.length := by omega
    rw [List.getElem?_map, List.getD_eq_getElem?_getD, List.getElem?_eq_getElem h8]; rfl
   have hrc : -1 ≤ r.getD c.toNat (-1) ∧ r.getD c.toNat (-1) < A.next.length := by
    rcases Nat.lt_or_ge c.toNat r.length with h8 | h8
    ·exact hent _ (getD_memG (-1) r c.toNat h8)
    ·rw [List.getD_eq_getElem?_getD, List.getElem?_eq_none h8]; have := hsh.pos; simp; omega
   obtain ⟨rc, hrce⟩ : ∃ z, r.getD c.toNat (-1) = z := ⟨_, rfl⟩
   have hfin := fun h => Sch.fine2 hf h hrm
   rw [hrce] at hgc hrc hfin
   have hgn : 0 ≤ rc → (A.next.map pav)[rc.toNat]? = some (pav (A.next.getD rc.toNat [])) := fun h => getD_mapG pav [] A.next rc.toNat (by omega)
   have hgd : 0 ≤ c ∧ 0 ≤ rc → ((A.next.getD rc.toNat []).map AV.int)[c.toNat]? = some (AV.int ((A.next.getD rc.toNat []).getD c.toNat (-1))) := fun h => by
    have h8 := hsh.mem_row _ (getD_memG [] A.next rc.toNat (by omega))
    have h9 : c.toNat < (A.next.getD rc.toNat []).length := by omega
    generalize A.next.getD rc.toNat [] = q at h9
    rw [List.getElem?_map, List.getD_eq_getElem?_getD, List.getElem?_eq_getElem h9]; rfl
   refine W.s (.r (.q (.lti (.t rfl) (.t rfl)) rfl (.n (.h (.s ?_))))); refine W.isb 48 true rfl (by exact decide_eq_true (by omega)) ?_; refine W.condT (.t rfl) (.k (.h (.s (.b (.s (.r ?_)))))); refine W.q (.at (E := 22) (.t rfl) (.t rfl) Tryz.underlying59 ty22 (fun _ => ⟨by omega, hgr⟩) rfl rfl) rfl ?_; refine W.q (.lde1 (.t rfl) ag22) rfl (.asg rfl rfl (.n (.h (.s ?_)))); refine W.drawn (by kernel_rfl) (by kernel_rfl) ?_; refine DP.q (.move (.t rfl)) rfl (.q (.gei (.t rfl) .k) rfl (.q (.move (.t rfl)) rfl (.qgT rfl rfl (.move (.t rfl)) rfl (.qgT rfl rfl (.move (.t rfl)) rfl ?_)))); refine DP.qgT rfl rfl (.at (E := 3) (.c rfl) (.c rfl) Tryz.underlying22 ty3 (fun hg => ⟨by have := of_decide_eq_true hg; omega, hgc (of_decide_eq_true hg)⟩) rfl rfl) rfl ?_; refine DP.qgT rfl rfl (.lde1 (.c rfl) ag3) rfl (.qgT rfl rfl (.gei (.c rfl) .k) rfl ?_); refine DP.q (.and (.t rfl) ⟨_, _, rfl, rfl, by ((simp; done))⟩) rfl ?_; refine DP.q (.move (.t rfl)) rfl (.qgT rfl rfl (.fab (.t rfl) fa62_0) rfl (.qgT rfl rfl (.ldb1 0 (.c rfl) rfl ag59 rfl) rfl (.qgT rfl rfl (.move (.t rfl)) rfl (.qgT rfl rfl (.move (.t rfl)) rfl ?_)))); refine DP.qgT rfl rfl (.at (E := 3) (.c rfl) (.c rfl) Tryz.underlying22 ty3 (fun hg => ⟨by simp at hg; omega, hgc (by simp at hg; omega)⟩) rfl rfl) rfl ?_; refine DP.qgT rfl rfl (.lde1 (.c rfl) ag3) rfl ?_; refine DP.qgT rfl rfl (.at (E := 22) (.c rfl) (.c rfl) Tryz.underlying59 ty22 (fun hg => ⟨by simp at hg; omega, hgn (by simp at hg; omega)⟩) rfl rfl) rfl ?_; refine DP.qgT rfl rfl (.lde1 (.c rfl) ag22) rfl (.qgT rfl rfl (.move (.t rfl)) rfl ?_); refine DP.qgT rfl rfl (.at (E := 3) (.c rfl) (.c rfl) Tryz.underlying22 ty3 (fun hg => ⟨by simp at hg; omega, hgd (by simp at hg; omega)⟩) rfl rfl) rfl ?_; refine DP.qgT rfl rfl (.lde1 (.c rfl) ag3) rfl ?_
   refine DP.qgT rfl rfl (.gei (.c rfl) .k) rfl ?_; refine DP.q (.and (.t rfl) ⟨_, _, rfl, rfl, by ((simp; done))⟩) rfl ?_; refine DP.nil ?_; refine W.h ?_; refine W.isb 73 false rfl (by refine Bool.eq_false_iff.2 ?_; intro h; simp only [Bool.and_eq_true, decide_eq_true_eq] at h; rcases hfin h.1.1 with h2 | h2 <;> omega) ?_; refine W.condF (.t rfl) ?_; refine W.k ?_; refine W.bn ?_; refine W.h ?_; refine W.r ?_
   refine W.q (.add (.t rfl) .k (fun _ => by omega)) rfl ?_
   refine W.q (.move (.t rfl)) rfl ?_; refine W.n ?_; refine W.h ?_; refine W.reach (D := []) (i + 1) ⟨rfl, rfl, rfl, rfl, rfl, rfl, trivial⟩ (by ((rw [List.append_nil]; done))) ⟨hlt, by show A.next.length - (i + 1) < A.next.length - i; omega⟩
  ·skip
   refine W.s (.r (.q (.lti (.t rfl) (.t rfl)) rfl (.n (.h (.s ?_))))); refine W.isb 48 false rfl (by exact decide_eq_false (by omega)) ?_; refine W.condF (.t rfl) (.ex (.he (.he (.bh (.h (.s (.r (.q (.ldbn 0 (.t rfl) rfl ag62 ty62 rfl) rfl (.stb 2 (.t rfl) (.t rfl) rfl ty62 rfl rfl rfl (.q (.assign .k) rfl (.n (.h ?_)))))))))))); refine W.ret ?_; refine W.retn (M' := M0) (D := _) (rs := [.cell 6 62, .tmp 7]) (avs := [_, _]) Tryz.results51 ⟨⟨_, _, _, rfl, by repeat (first | exact List.mem_cons_self | apply List.mem_cons_of_mem), rfl, by funext w; exact ag62.run w, by funext w; exact ty62.size w⟩, rfl, trivial⟩ rfl (List.perm_append_comm (l₁ := [_, _, _])) ?_
   exact ⟨rfl, rfl⟩
end WMach
end Go.Proofs.YtphlkdbglpcikaaGreatDoor
end
section
namespace Go.Proofs.YtphlkdbglpcikaaGreatDoor
open Go.Vl
open Y
namespace WSLib
theorem c_Index (ns : List (List UInt8)) (v : List UInt8) (hn : ns.length ≤ 1099511627776) : FnC Tryz.prog 115 [.sl 1 (ns.map AV.str), .str v] [] (fun r M => M = [] ∧ ∃ k : Int, r = .int k ∧ decide (0 ≤ k) = ns.any fun s => v == s) :=  by
 refine FnC.mk Tryz.func115 (by kernel_rfl) rfl Tryz.ntmps115 rfl (fun w0 F => ?_)
 have hnl : (ns.map AV.str).length = ns.length := List.length_map ..
 refine W.s (.r (.q (.assign .k) rfl (.n (.h (.s (.s (.r (.mv rfl rfl (.q (.lensl (.t rfl) Tryz.underlying26) rfl (.q (.move .k) rfl (.n (.h (.b ?_))))))))))))); refine W.loop (D := []) (ι := Nat) (fun i => [(8, true, .int (i : Int)), (7, true, .int ((ns.map AV.str).length : Int)), (0, true, .sl 1 (ns.map AV.str)), (1, true, .str v)]) (fun _ => []) (fun i => i ≤ ns.length ∧ ∀ d ∈ ns.take i, (v == d) = false) (fun i => ns.length - i) 0 ⟨rfl, rfl, rfl, rfl, trivial⟩ (.refl _) ⟨Nat.zero_le _, by simp⟩ ?_
 rintro i ⟨hi1, hi2⟩
 dsimp only at hi1 hi2 ⊢
 rcases (show i < ns.length ∨ i = ns.length from by omega) with hlt | hend
 ·have hga := getD_mapG AV.str [] ns i hlt
  refine W.s (.r (.q (.lti (.t rfl) (.t rfl)) rfl (.n (.h (.s ?_))))); refine W.isb 9 true rfl (by simp; omega) ?_; refine W.condT (.t rfl) (.k (.h (.s (.b (.s (.r (.mv rfl rfl (.asg rfl rfl (.n (.h (.s (.r (.mv rfl rfl (.mv rfl rfl (.mv rfl rfl ?_))))))))))))))); refine W.q (.at (E := 9) (.t rfl) (.t rfl) Tryz.underlying26 ty9 (fun _ => ⟨by omega, hga⟩) rfl rfl) rfl ?_; refine W.q (.lde1 (.t rfl) ag9) rfl ?_
  refine W.q (.eqs (.t rfl) (.t rfl)) rfl ?_; refine W.n ?_; refine W.h ?_; refine W.cond (.t rfl) (fun hc_t16 => ?_) (fun hc_t16 => ?_)
  ·have hq : (ns.any fun s => v == s) = true := by rw [List.any_eq_true]; exact ⟨_, getD_memG [] ns i hlt, hc_t16⟩
   refine W.s (.r (.mv rfl rfl (.asg rfl rfl (.n (.h ?_))))); refine W.ret ?_; refine W.br (.hr (.hr (.br (.hr ?_)))); refine W.retn (M' := []) (rs := [.tmp 4]) (avs := [_]) Tryz.results115 ⟨rfl, trivial⟩ rfl (.refl _) ?_
   refine ⟨rfl, _, rfl, ?_⟩
   rw [hq]
   (rfl)
  ·have hq : (v == ns.getD i []) = false := hc_t16
   refine W.k (.bn (.h (.r (.q (.add (.t rfl) .k (fun _ => by omega)) rfl ?_))))
   refine W.q (.move (.t rfl)) rfl ?_; refine W.n ?_; refine W.h ?_; refine W.reach (D := []) (i + 1) ⟨rfl, rfl, rfl, rfl, trivial⟩ (.refl _) ⟨⟨by omega, ?_⟩, by omega⟩
   rw [take_getDG [] ns i hlt]
   intro d hd
   cases List.mem_append.1 hd with
   | inl h => exact hi2 d h
   | inr h => rw [List.mem_singleton.1 h]; exact hq
 ·rw [List.take_of_length_le (by omega)] at hi2
  have hq := any_take_false (fun d => v == d) ns hi2
  refine W.s (.r (.q (.lti (.t rfl) (.t rfl)) rfl (.n (.h (.s ?_))))); refine W.isb 9 false rfl (by simp; omega) ?_; refine W.condF (.t rfl) (.ex (.he (.he (.bh (.h (.s (.r (.q (.assign .k) rfl (.n (.h ?_)))))))))); refine W.ret ?_; refine W.retn (M' := []) (rs := [.tmp 4]) (avs := [_]) Tryz.results115 ⟨rfl, trivial⟩ rfl (.refl _) ?_
  refine ⟨rfl, _, rfl, ?_⟩
  rw [hq]
  (rfl)
theorem c_Contains (ns : List (List UInt8)) (v : List UInt8) (hn : ns.length ≤ 1099511627776) : FnP Tryz.prog 88 [.sl 1 (ns.map AV.str), .str v] (.bool (ns.any fun s => v == s)) :=  by
 refine FnC.mk Tryz.func88 (by kernel_rfl) rfl Tryz.ntmps88 rfl (fun w0 F => ?_)
 refine W.s (.r (.q (.assign .k) rfl (.n (.h (.s (.r (.mv rfl rfl (.mv rfl rfl ?_)))))))); refine W.call (c_Index ns v hn) ⟨(.t rfl), (.t rfl), trivial⟩ (.refl _) rfl ?_
 rintro _ _ ⟨rfl, k, rfl, hk⟩
 refine W.q (.gei (.t rfl) .k) rfl (.asg rfl rfl (.n (.h ?_))); refine W.ret ?_; refine W.retn (M' := []) (rs := [.tmp 4]) (avs := [_]) Tryz.results88 ⟨rfl, trivial⟩ rfl (.refl _) ?_
 exact ⟨congrArg AV.bool hk, rfl⟩
theorem c_IndexFuncS (l : List (List UInt8)) (g : Nat) (caps : List Value) (M0 : List ME) (p : (List UInt8) → Bool) (hg : ∀ d ∈ l, FnC Tryz.prog g ([AV.str d] ++ caps.map .lit) M0 (fun r M => r = .bool (p d) ∧ M = M0)) (hn : l.length ≤ 1099511627776) : FnC Tryz.prog 114 [.sl 1 (l.map AV.str), .lit (.func (.func g) #[] caps.toArray)] M0 (fun r M => r = .int (idxI p l) ∧ M = M0) :=  by
 refine FnC.mk Tryz.func114 (by kernel_rfl) rfl Tryz.ntmps114 rfl (fun w0 F => ?_)
 have hnl : (l.map AV.str).length = l.length := List.length_map ..
 refine W.s (.r (.q (.assign .k) rfl (.n (.h (.s (.s (.r (.mv rfl rfl (.q (.lensl (.t rfl) Tryz.underlying26) rfl (.q (.move .k) rfl (.n (.h (.b ?_))))))))))))); refine W.loop (D := []) (ι := Nat) (fun i => [(8, true, .int (i : Int)), (7, true, .int ((l.map AV.str).length : Int)), (0, true, .sl 1 (l.map AV.str)), (1, true, .lit (.func (.func g) #[] caps.toArray))]) (fun _ => M0) (fun i => i ≤ l.length ∧ ∀ d ∈ l.take i, p d = false) (fun i => l.length - i) 0 ⟨rfl, rfl, rfl, rfl, trivial⟩ (List.Perm.of_eq (List.append_nil _).symm) ⟨Nat.zero_le _, by simp⟩ ?_
 rintro i ⟨hi1, hi2⟩
 dsimp only at hi1 hi2 ⊢
 rcases (show i < l.length ∨ i = l.length from by omega) with hlt | hend
 ·have hga := getD_mapG AV.str [] l i hlt
  refine W.s (.r (.q (.lti (.t rfl) (.t rfl)) rfl (.n (.h (.s ?_))))); refine W.isb 9 true rfl (by simp; omega) ?_; refine W.condT (.t rfl) (.k (.h (.s (.b (.s (.r (.mv rfl rfl (.asg rfl rfl (.n (.h (.s (.r (.mv rfl rfl (.mv rfl rfl (.mv rfl rfl ?_))))))))))))))); refine W.q (.at (E := 9) (.t rfl) (.t rfl) Tryz.underlying26 ty9 (fun _ => ⟨by omega, hga⟩) rfl rfl) rfl ?_; refine W.q (.lde1 (.t rfl) ag9) rfl ?_; refine W.callv (caps := caps) (avs := [_]) (hg (l.getD i []) (getD_memG [] l i hlt)) (.t rfl) ⟨(.t rfl), trivial⟩ rfl ((List.Perm.of_eq (List.append_nil _).symm)) rfl ?_
  rintro _ M' ⟨rfl, hM⟩
  rw [hM, List.append_nil]
  refine W.n ?_; refine W.h ?_; refine W.cond (.t rfl) (fun hc_t16 => ?_) (fun hc_t16 => ?_)
  ·have hq := idxI_hit p [] l i hlt hi2 hc_t16
   refine W.s (.r (.mv rfl rfl (.asg rfl rfl (.n (.h ?_))))); refine W.ret ?_; refine W.br (.hr (.hr (.br (.hr ?_)))); refine W.retn (M' := M0) (D := []) (rs := [.tmp 4]) (avs := [_]) Tryz.results114 ⟨rfl, trivial⟩ rfl (List.Perm.of_eq (List.append_nil _).symm) ?_
   exact ⟨congrArg AV.int (by rw [hq]), rfl⟩
  ·have hq : p (l.getD i []) = false := hc_t16
   refine W.k (.bn (.h (.r (.q (.add (.t rfl) .k (fun _ => by omega)) rfl ?_))))
   refine W.q (.move (.t rfl)) rfl ?_; refine W.n ?_; refine W.h ?_; refine W.reach (D := []) (i + 1) ⟨rfl, rfl, rfl, rfl, trivial⟩ (List.Perm.of_eq (List.append_nil _).symm) ⟨⟨by omega, ?_⟩, by omega⟩
   rw [take_getDG [] l i hlt]
   intro d hd
   cases List.mem_append.1 hd with
   | inl h => exact hi2 d h
   | inr h => rw [List.mem_singleton.1 h]; exact hq
 ·rw [List.take_of_length_le (by omega)] at hi2
  have hq := idxI_miss p l hi2
  refine W.s (.r (.q (.lti (.t rfl) (.t rfl)) rfl (.n (.h (.s ?_))))); refine W.isb 9 false rfl (by simp; omega) ?_; refine W.condF (.t rfl) (.ex (.he (.he (.bh (.h (.s (.r (.q (.assign .k) rfl (.n (.h ?_)))))))))); refine W.ret ?_; refine W.retn (M' := M0) (D := []) (rs := [.tmp 4]) (avs := [_]) Tryz.results114 ⟨rfl, trivial⟩ rfl (List.Perm.of_eq (List.append_nil _).symm) ?_
  exact ⟨congrArg AV.int (by rw [hq]), rfl⟩
theorem c_ContainsFuncS (l : List (List UInt8)) (g : Nat) (caps : List Value) (M0 : List ME) (p : (List UInt8) → Bool) (hg : ∀ d ∈ l, FnC Tryz.prog g ([AV.str d] ++ caps.map .lit) M0 (fun r M => r = .bool (p d) ∧ M = M0)) (hn : l.length ≤ 1099511627776) : FnC Tryz.prog 86 [.sl 1 (l.map AV.str), .lit (.func (.func g) #[] caps.toArray)] M0 (fun r M => r = .bool (l.any p) ∧ M = M0) :=  by
 refine FnC.mk Tryz.func86 (by kernel_rfl) rfl Tryz.ntmps86 rfl (fun w0 F => ?_)
 refine W.s (.r (.q (.assign .k) rfl (.n (.h (.s (.r (.mv rfl rfl (.mv rfl rfl ?_)))))))); refine W.call (c_IndexFuncS l g caps M0 p hg hn) ⟨(.t rfl), (.t rfl), trivial⟩ ((List.Perm.of_eq (List.append_nil _).symm)) rfl ?_
 rintro _ M' ⟨rfl, hM⟩
 rw [hM, List.append_nil]
 refine W.q (.gei (.t rfl) .k) rfl (.asg rfl rfl (.n (.h ?_))); refine W.ret ?_; refine W.retn (M' := M0) (D := []) (rs := [.tmp 4]) (avs := [_]) Tryz.results86 ⟨rfl, trivial⟩ rfl (List.Perm.of_eq (List.append_nil _).symm) ?_
 exact ⟨congrArg AV.bool (idxI_any p l), rfl⟩
theorem c_IndexFuncY (l : List Tp) (g : Nat) (caps : List Value) (M0 : List ME) (p : Tp → Bool) (hg : ∀ d ∈ l, FnC Tryz.prog g ([tpv d] ++ caps.map .lit) M0 (fun r M => r = .bool (p d) ∧ M = M0)) (hn : l.length ≤ 1099511627776) : FnC Tryz.prog 85 [.sl 3 (l.map tpv), .lit (.func (.func g) #[] caps.toArray)] M0 (fun r M => r = .int (idxI p l) ∧ M = M0) :=  by
 refine FnC.mk Tryz.func85 (by kernel_rfl) rfl Tryz.ntmps85 rfl (fun w0 F => ?_)
 have hnl : (l.map tpv).length = l.length := List.length_map ..
 refine W.s (.r (.q (.assign .k) rfl (.n (.h (.s (.s (.r (.mv rfl rfl (.q (.lensl (.t rfl) Tryz.underlying23) rfl (.q (.move .k) rfl (.n (.h (.b ?_))))))))))))); refine W.loop (D := []) (ι := Nat) (fun i => [(8, true, .int (i : Int)), (7, true, .int ((l.map tpv).length : Int)), (0, true, .sl 3 (l.map tpv)), (1, true, .lit (.func (.func g) #[] caps.toArray))]) (fun _ => M0) (fun i => i ≤ l.length ∧ ∀ d ∈ l.take i, p d = false) (fun i => l.length - i) 0 ⟨rfl, rfl, rfl, rfl, trivial⟩ (List.Perm.of_eq (List.append_nil _).symm) ⟨Nat.zero_le _, by simp⟩ ?_
 rintro i ⟨hi1, hi2⟩
 dsimp only at hi1 hi2 ⊢
 rcases (show i < l.length ∨ i = l.length from by omega) with hlt | hend
 ·have hga := getD_mapG tpv ⟨[], [], []⟩ l i hlt
  refine W.s (.r (.q (.lti (.t rfl) (.t rfl)) rfl (.n (.h (.s ?_))))); refine W.isb 9 true rfl (by simp; omega) ?_; refine W.condT (.t rfl) (.k (.h (.s (.b (.s (.r (.mv rfl rfl (.asg rfl rfl (.n (.h (.s (.r (.mv rfl rfl (.mv rfl rfl (.mv rfl rfl ?_))))))))))))))); refine W.q (.at (E := 28) (.t rfl) (.t rfl) Tryz.underlying23 ty28 (fun _ => ⟨by omega, hga⟩) rfl rfl) rfl ?_; refine W.q (.lden (.t rfl) ag28 ty28 rfl rfl) rfl ?_; refine W.callv (caps := caps) (avs := [_]) (hg (l.getD i ⟨[], [], []⟩) (getD_memG ⟨[], [], []⟩ l i hlt)) (.t rfl) ⟨(.t rfl), trivial⟩ rfl ((List.Perm.of_eq (List.append_nil _).symm)) rfl ?_
  rintro _ M' ⟨rfl, hM⟩
  rw [hM, List.append_nil]
  refine W.n ?_; refine W.h ?_; refine W.cond (.t rfl) (fun hc_t16 => ?_) (fun hc_t16 => ?_)
  ·have hq := idxI_hit p ⟨[], [], []⟩ l i hlt hi2 hc_t16
   refine W.s (.r (.mv rfl rfl (.asg rfl rfl (.n (.h ?_))))); refine W.ret ?_; refine W.br (.hr (.hr (.br (.hr ?_)))); refine W.retn (M' := M0) (D := []) (rs := [.tmp 4]) (avs := [_]) Tryz.results85 ⟨rfl, trivial⟩ rfl (List.Perm.of_eq (List.append_nil _).symm) ?_
   exact ⟨congrArg AV.int (by rw [hq]), rfl⟩
  ·have hq : p (l.getD i ⟨[], [], []⟩) = false := hc_t16
   refine W.k (.bn (.h (.r (.q (.add (.t rfl) .k (fun _ => by omega)) rfl ?_))))
   refine W.q (.move (.t rfl)) rfl ?_; refine W.n ?_; refine W.h ?_; refine W.reach (D := []) (i + 1) ⟨rfl, rfl, rfl, rfl, trivial⟩ (List.Perm.of_eq (List.append_nil _).symm) ⟨⟨by omega, ?_⟩, by omega⟩
   rw [take_getDG ⟨[], [], []⟩ l i hlt]
   intro d hd
   cases List.mem_append.1 hd with
   | inl h => exact hi2 d h
   | inr h => rw [List.mem_singleton.1 h]; exact hq
 ·rw [List.take_of_length_le (by omega)] at hi2
  have hq := idxI_miss p l hi2
  refine W.s (.r (.q (.lti (.t rfl) (.t rfl)) rfl (.n (.h (.s ?_))))); refine W.isb 9 false rfl (by simp; omega) ?_; refine W.condF (.t rfl) (.ex (.he (.he (.bh (.h (.s (.r (.q (.assign .k) rfl (.n (.h ?_)))))))))); refine W.ret ?_; refine W.retn (M' := M0) (D := []) (rs := [.tmp 4]) (avs := [_]) Tryz.results85 ⟨rfl, trivial⟩ rfl (List.Perm.of_eq (List.append_nil _).symm) ?_
  exact ⟨congrArg AV.int (by rw [hq]), rfl⟩
theorem c_ContainsFuncY (l : List Tp) (g : Nat) (caps : List Value) (M0 : List ME) (p : Tp → Bool) (hg : ∀ d ∈ l, FnC Tryz.prog g ([tpv d] ++ caps.map .lit) M0 (fun r M => r = .bool (p d) ∧ M = M0)) (hn : l.length ≤ 1099511627776) : FnC Tryz.prog 47 [.sl 3 (l.map tpv), .lit (.func (.func g) #[] caps.toArray)] M0 (fun r M => r = .bool (l.any p) ∧ M = M0) :=  by
 refine FnC.mk Tryz.func47 (by kernel_rfl) rfl Tryz.ntmps47 rfl (fun w0 F => ?_)
 refine W.s (.r (.q (.assign .k) rfl (.n (.h (.s (.r (.mv rfl rfl (.mv rfl rfl ?_)))))))); refine W.call (c_IndexFuncY l g caps M0 p hg hn) ⟨(.t rfl), (.t rfl), trivial⟩ ((List.Perm.of_eq (List.append_nil _).symm)) rfl ?_
 rintro _ M' ⟨rfl, hM⟩
 rw [hM, List.append_nil]
 refine W.q (.gei (.t rfl) .k) rfl (.asg rfl rfl (.n (.h ?_))); refine W.ret ?_; refine W.retn (M' := M0) (D := []) (rs := [.tmp 4]) (avs := [_]) Tryz.results47 ⟨rfl, trivial⟩ rfl (List.Perm.of_eq (List.append_nil _).symm) ?_
 exact ⟨congrArg AV.bool (idxI_any p l), rfl⟩
end WSLib
end Go.Proofs.YtphlkdbglpcikaaGreatDoor
end
section
namespace Go.Proofs.YtphlkdbglpcikaaGreatDoor
open Go.Vl
open Y
namespace WName
theorem c_indexFunc (s : List UInt8) (hs : s.length ≤ 17592186044416) (g : Nat) (caps : List Value) (M0 : List ME) (p : Int → Bool) (hg : ∀ r : Nat, FnC Tryz.prog g ([.lit (.int .i32 (r : Int))] ++ caps.map .lit) M0 (fun r' M => r' = .bool (p r) ∧ M = M0)) (tr : Bool) : FnC Tryz.prog 130 [.str s, .lit (.func (.func g) #[] caps.toArray), .bool tr] M0 (fun r M => M = M0 ∧ ∃ k : Int, r = .int k ∧ decide (0 ≤ k) = (runes s).any fun r => p r == tr) :=  by
 refine FnC.mk Tryz.func130 (by kernel_rfl) rfl Tryz.ntmps130 rfl (fun w0 F => ?_)
 refine W.s ?_; refine W.r ?_; refine W.q (.assign .k) rfl ?_; refine W.n ?_; refine W.h ?_; refine W.s ?_; refine W.s ?_; refine W.r ?_; refine W.q (.move (.t rfl)) rfl ?_; refine W.rng (.t rfl) Tryz.underlying9 rfl ?_; intro b10; refine W.n ?_; refine W.h ?_; refine W.b ?_; refine W.loop (D := []) (ι := Nat) (fun q => [(10, true, .lit (.pointer (some ⟨b10, 0, none⟩))), (1, true, .lit (.func (.func g) #[] caps.toArray)), (2, true, .bool tr)]) (fun q => .obj b10 (.stringIter ⟨s.toArray⟩ q) :: M0) (fun q => q ≤ s.length ∧ ((runes s).any fun r => p r == tr) = ((runes (s.drop q)).any fun r => p r == tr)) (fun q => s.length - q) 0 ⟨rfl, rfl, rfl, trivial⟩ (by rw [List.append_nil]) ⟨Nat.zero_le _, by simp⟩ ?_
 rintro q ⟨hp1, hp2⟩
 dsimp only at hp1 hp2 ⊢
 have hle := dec_le (s.drop q)
 by_cases hp : q < s.length
 ·have hw := dec_width (s.drop q) (by intro e; have := congrArg List.length e; simp at this; omega)
  rw [List.length_drop] at hw
  rw [runes_drop s q hp, List.any_cons] at hp2
  refine W.s (.r ?_)
  first | refine W.nxtT 0 (.t rfl) rfl (by omega) rfl ?_ | refine W.nxtF 0 (.t rfl) rfl (by omega) rfl ?_ | refine W.nxtT 1 (.t rfl) rfl (by omega) rfl ?_ | refine W.nxtF 1 (.t rfl) rfl (by omega) rfl ?_ | refine W.nxtT 2 (.t rfl) rfl (by omega) rfl ?_ | refine W.nxtF 2 (.t rfl) rfl (by omega) rfl ?_ | refine W.nxtT 3 (.t rfl) rfl (by omega) rfl ?_ | refine W.nxtF 3 (.t rfl) rfl (by omega) rfl ?_
  refine W.q (.extract (.t rfl) rfl) rfl (.n (.h (.s (.condT (.t rfl) (.k (.h (.b (.s (.r (.q (.extract (.t rfl) rfl) rfl (.q (.extract (.t rfl) rfl) rfl (.asg rfl rfl (.asg rfl rfl (.n (.h (.s (.r (.mv rfl rfl (.mv rfl rfl ?_))))))))))))))))))); refine W.callv (caps := caps) (avs := [_]) (hg (dec (s.drop q)).1) (.t rfl) ⟨(.t rfl), trivial⟩ rfl (List.perm_append_comm (l₁ := [_])) rfl ?_
  rintro _ M' ⟨rfl, hM⟩
  rw [hM]
  refine W.q (.move (.t rfl)) rfl ?_; refine W.q (.eqb (.t rfl) (.t rfl) Tryz.underlying4) rfl ?_; refine W.n ?_; refine W.h ?_; refine W.cond (.t rfl) (fun hc_t19 => ?_) (fun hc_t19 => ?_)
  ·refine W.s ?_
   refine W.r (.mv rfl rfl (.asg rfl rfl (.n (.h ?_)))); refine W.ret ?_; refine W.br (.hr (.br (.hr ?_))); refine W.retn (M' := M0) (D := [_]) (rs := [.tmp 6]) (avs := [_]) Tryz.results130 ⟨rfl, trivial⟩ rfl (by first | exact .refl _ | exact List.perm_append_comm (l₁ := [_])) ?_
   refine ⟨rfl, _, rfl, ?_⟩
   rw [hp2]
   first | (rw [hc_t19, Bool.true_or]; simp; done) | simp
  ·refine W.k ?_
   refine W.bn ?_; refine W.h ?_; refine W.reach (D := []) (q + (dec (s.drop q)).2) ⟨rfl, rfl, rfl, trivial⟩ (by rw [List.append_nil]; exact List.perm_append_comm (l₂ := [_])) ⟨⟨by omega, ?_⟩, by show _ - _ < _ - _; omega⟩
   rw [hp2, hc_t19, Bool.false_or]
 ·have hsd : s.drop q = [] := List.drop_of_length_le (by omega)
  rw [hsd, runes_nil] at hp2
  refine W.s (.r ?_)
  first | refine W.nxtT 0 (.t rfl) rfl (by omega) rfl ?_ | refine W.nxtF 0 (.t rfl) rfl (by omega) rfl ?_ | refine W.nxtT 1 (.t rfl) rfl (by omega) rfl ?_ | refine W.nxtF 1 (.t rfl) rfl (by omega) rfl ?_ | refine W.nxtT 2 (.t rfl) rfl (by omega) rfl ?_ | refine W.nxtF 2 (.t rfl) rfl (by omega) rfl ?_ | refine W.nxtT 3 (.t rfl) rfl (by omega) rfl ?_ | refine W.nxtF 3 (.t rfl) rfl (by omega) rfl ?_
  refine W.q (.extract (.t rfl) rfl) rfl (.n (.h (.s (.condF (.t rfl) (.ex (.he (.he (.bh (.h (.s (.r (.q (.assign .k) rfl (.n (.h ?_)))))))))))))); refine W.ret ?_; refine W.retn (M' := M0) (D := [_]) (rs := [.tmp 6]) (avs := [_]) Tryz.results130 ⟨rfl, trivial⟩ rfl (by first | exact .refl _ | exact List.perm_append_comm (l₁ := [_])) ?_
  refine ⟨rfl, _, rfl, ?_⟩
  rw [hp2]
  first | (rw [hc_t19, Bool.true_or]; simp; done) | simp
theorem c_IndexFunc (s : List UInt8) (hs : s.length ≤ 17592186044416) (g : Nat) (caps : List Value) (M0 : List ME) (p : Int → Bool) (hg : ∀ r : Nat, FnC Tryz.prog g ([.lit (.int .i32 (r : Int))] ++ caps.map .lit) M0 (fun r' M => r' = .bool (p r) ∧ M = M0)) : FnC Tryz.prog 113 [.str s, .lit (.func (.func g) #[] caps.toArray)] M0 (fun r M => M = M0 ∧ ∃ k : Int, r = .int k ∧ decide (0 ≤ k) = (runes s).any fun r => p r) :=  by
 refine FnC.mk Tryz.func113 (by kernel_rfl) rfl Tryz.ntmps113 rfl (fun w0 F => ?_)
 refine W.s (.r (.q (.assign .k) rfl (.n (.h (.s (.r (.mv rfl rfl (.mv rfl rfl ?_)))))))); refine W.call (c_indexFunc s hs g caps M0 p hg true) ⟨(.t rfl), (.t rfl), .k, trivial⟩ ((List.Perm.of_eq (List.append_nil _).symm)) rfl ?_
 rintro _ M' ⟨hM, k, rfl, hk⟩
 rw [hM, List.append_nil]
 refine W.asg rfl rfl (.n (.h ?_)); refine W.ret ?_; refine W.retn (M' := M0) (D := []) (rs := [.tmp 4]) (avs := [_]) Tryz.results113 ⟨rfl, trivial⟩ rfl (List.Perm.of_eq (List.append_nil _).symm) ?_
 exact ⟨rfl, k, rfl, by rw [hk]; simp⟩
theorem c_ContainsFunc (s : List UInt8) (hs : s.length ≤ 17592186044416) (g : Nat) (caps : List Value) (M0 : List ME) (p : Int → Bool) (hg : ∀ r : Nat, FnC Tryz.prog g ([.lit (.int .i32 (r : Int))] ++ caps.map .lit) M0 (fun r' M => r' = .bool (p r) ∧ M = M0)) : FnC Tryz.prog 83 [.str s, .lit (.func (.func g) #[] caps.toArray)] M0 (fun r M => r = .bool ((runes s).any fun r => p r) ∧ M = M0) :=  by
 refine FnC.mk Tryz.func83 (by kernel_rfl) rfl Tryz.ntmps83 rfl (fun w0 F => ?_)
 refine W.s (.r (.q (.assign .k) rfl (.n (.h (.s (.r (.mv rfl rfl (.mv rfl rfl ?_)))))))); refine W.call (c_IndexFunc s hs g caps M0 p hg) ⟨(.t rfl), (.t rfl), trivial⟩ ((List.Perm.of_eq (List.append_nil _).symm)) rfl ?_
 rintro _ M' ⟨hM, k, rfl, hk⟩
 rw [hM, List.append_nil]
 refine W.q (.gei (.t rfl) .k) rfl (.asg rfl rfl (.n (.h ?_))); refine W.ret ?_; refine W.retn (M' := M0) (D := []) (rs := [.tmp 4]) (avs := [_]) Tryz.results83 ⟨rfl, trivial⟩ rfl (List.Perm.of_eq (List.append_nil _).symm) ?_
 exact ⟨congrArg AV.bool hk, rfl⟩
theorem c_Name1 (r : Int) : FnP Tryz.prog 84 [.lit (.int .i32 r)] (.bool (!(nameCh r))) :=  by
 refine FnC.mk Tryz.func84 (by kernel_rfl) rfl Tryz.ntmps84 rfl (fun w0 F => ?_)
 refine W.s ?_; refine W.r ?_; refine W.q (.assign .k) rfl ?_; refine W.n ?_; refine W.h ?_; refine W.s ?_; refine W.r ?_; refine W.q (.move (.t rfl)) rfl ?_; refine W.q (.gei (.t rfl) .k) rfl ?_; refine W.q (.move (.t rfl)) rfl ?_; refine W.qgT rfl rfl (.move (.t rfl)) rfl ?_; refine W.qgT rfl rfl (.lei (.c rfl) .k) rfl ?_; refine W.q (.and (.t rfl) ⟨_, _, rfl, rfl, by first | (simp; done) | (intro hg_ hp_; simp [hp_]; done) | (simp <;> omega; done) | (simp_all; done) | grind⟩) rfl ?_; refine W.q (.move (.t rfl)) rfl ?_; refine W.qgF rfl rfl (.move (.t rfl)) rfl ?_; refine W.qgF rfl rfl (.gei (.c rfl) .k) rfl ?_; refine W.qgF rfl rfl (.move (.c rfl)) rfl ?_; refine W.qgT' rfl rfl (.move (.t rfl)) rfl ?_; refine W.qgT' rfl rfl (.lei (.c rfl) .k) rfl ?_; refine W.qgF rfl rfl (.and (.c rfl) ⟨_, _, rfl, rfl, by first | (simp; done) | (intro hg_ hp_; simp [hp_]; done) | (simp <;> omega; done) | (simp_all; done) | grind⟩) rfl ?_; refine W.q (.or (.t rfl) ⟨_, _, rfl, rfl, by first | (simp; done) | (intro hg_ hp_; simp [hp_]; done) | (simp <;> omega; done) | (simp_all; done) | grind⟩) rfl ?_; refine W.q (.move (.t rfl)) rfl ?_; refine W.qgF rfl rfl (.move (.t rfl)) rfl ?_; refine W.qgF rfl rfl (.eqi (.c rfl) .k) rfl ?_; refine W.q (.or (.t rfl) ⟨_, _, rfl, rfl, by first | (simp; done) | (intro hg_ hp_; simp [hp_]; done) | (simp <;> omega; done) | (simp_all; done) | grind⟩) rfl ?_; refine W.q (.not (.t rfl)) rfl ?_; refine W.q (.assign (.t rfl)) rfl ?_; refine W.n ?_; refine W.h ?_; refine W.ret ?_; refine W.retn (M' := []) (rs := [.tmp 2]) (avs := [_]) Tryz.results84 ⟨rfl, trivial⟩ rfl (.refl _) ?_
 exact ⟨congrArg AV.bool rfl, rfl⟩
theorem c_Name (s : List UInt8) (hs : s.length ≤ 17592186044416) : FnP Tryz.prog 46 [.str s] (.bool (nameOk s)) :=  by
 refine FnC.mk Tryz.func46 (by kernel_rfl) rfl Tryz.ntmps46 rfl (fun w0 F => ?_)
 refine W.s ?_; refine W.r ?_; refine W.q (.assign .k) rfl ?_; refine W.n ?_; refine W.h ?_; refine W.s ?_; refine W.s ?_; refine W.r ?_; refine W.q (.move (.t rfl)) rfl ?_; refine W.q (.eqs (.t rfl) .k) rfl ?_; refine W.q (.move (.t rfl)) rfl ?_; refine W.qgF rfl rfl (.move (.t rfl)) rfl ?_; refine W.qgF rfl rfl (.lens (.c rfl) Tryz.underlying9) rfl ?_; refine W.qgF rfl rfl (.gti (.c rfl) .k) rfl ?_; refine W.q (.or (.t rfl) ⟨_, _, rfl, rfl, by first | (simp; done) | (intro hg_ hp_; simp [hp_]; done) | (simp <;> omega; done) | (simp_all; done) | grind⟩) rfl ?_; refine W.q (.move (.t rfl)) rfl ?_; refine W.qgF rfl rfl (.move (.t rfl)) rfl ?_; refine W.qgF rfl rfl (.ats' (.c rfl) .k Tryz.underlying9 (fun hg => by have h0 : s ≠ [] := (by rintro rfl; simp at hg); have := List.length_pos_iff.2 h0; omega)) rfl ?_; refine W.qgF rfl rfl (.lti (.c rfl) .k) rfl ?_; refine W.q (.or (.t rfl) ⟨_, _, rfl, rfl, by first | (simp; done) | (intro hg_ hp_; simp [hp_]; done) | (simp <;> omega; done) | (simp_all; done) | grind⟩) rfl ?_; refine W.q (.move (.t rfl)) rfl ?_; refine W.qgF rfl rfl (.move (.t rfl)) rfl ?_; refine W.qgF rfl rfl (.ats' (.c rfl) .k Tryz.underlying9 (fun hg => by have h0 : s ≠ [] := (by rintro rfl; simp at hg); have := List.length_pos_iff.2 h0; omega)) rfl ?_; refine W.qgF rfl rfl (.gti (.c rfl) .k) rfl ?_; refine W.q (.or (.t rfl) ⟨_, _, rfl, rfl, by first | (simp; done) | (intro hg_ hp_; simp [hp_]; done) | (simp <;> omega; done) | (simp_all; done) | grind⟩) rfl ?_; refine W.n ?_; refine W.h ?_; refine W.cond (.t rfl) (fun hc_t19 => ?_) (fun hc_t19 => ?_)
 ·have hq : nameOk s = false := by have h := hc_t19; rw [show Int.toNat 0 = 0 from rfl] at h; simp only [nameOk, h, Bool.not_true, Bool.false_and]
  refine W.s (.r (.q (.assign .k) rfl (.n (.h ?_)))); refine W.ret ?_; refine W.hr ?_; refine W.retn (M' := []) (rs := [.tmp 2]) (avs := [_]) Tryz.results46 ⟨rfl, trivial⟩ rfl (.refl _) ?_
  first | exact ⟨congrArg AV.bool hq.symm, rfl⟩ | exact ⟨congrArg AV.bool (by have h := hc_t19; rw [show Int.toNat 0 = 0 from rfl] at h; simp only [nameOk, h, Bool.not_false, Bool.true_and]), rfl⟩
 ·refine W.k ?_
  refine W.h (.s (.r (.mv rfl rfl ?_))); refine W.call (c_ContainsFunc s hs 84 [] [] (fun r => !(nameCh r)) (fun r => c_Name1 r)) ⟨(.t rfl), .f, trivial⟩ (.refl _) rfl ?_
  rintro _ _ ⟨rfl, rfl⟩
  refine W.q (.not (.t rfl)) rfl (.asg rfl rfl (.n (.h ?_))); refine W.ret ?_; refine W.retn (M' := []) (rs := [.tmp 2]) (avs := [_]) Tryz.results46 ⟨rfl, trivial⟩ rfl (.refl _) ?_
  first | exact ⟨congrArg AV.bool hq.symm, rfl⟩ | exact ⟨congrArg AV.bool (by have h := hc_t19; rw [show Int.toNat 0 = 0 from rfl] at h; simp only [nameOk, h, Bool.not_false, Bool.true_and]), rfl⟩
end WName
end Go.Proofs.YtphlkdbglpcikaaGreatDoor
end
