/-
  Merged: WSets WClone WLive WClasses WRepeat.
-/
import Derived.Test.YtphlkdbglpcikaaGreatDoorG8
set_option linter.unusedVariables false
set_option linter.unusedSimpArgs false
set_option maxRecDepth 100000

section
namespace Go.Proofs.YtphlkdbglpcikaaGreatDoor
open Go.Vl
open Y
namespace WSets
theorem c_sets (x : Ex) (hx : x.ok) (hlv : x.lv ≤ 6) (hxs : x.sz ≤ 1048576) : FnC Tryz.prog 38 [x.avx] [] (fun r M => M = [] ∧ ∃ w : Au, w.Shape ∧ w.next.length ≤ 64 ∧ (∀ u, w.acc 0 u ↔ x.lg u) ∧ r = .agg [.sl 8 (w.next.map wrow), .sl 1 (w.final.map AV.bool)]) :=  by
 refine FnC.mk Tryz.func38 (by kernel_rfl) rfl Tryz.ntmps38 rfl (fun w0 F => ?_)
 refine W.s ?_; refine W.r ?_; refine W.box (.t rfl) rfl rfl ?_; intro b1; refine W.alloc ty99 rfl rfl ?_; intro b2; refine W.n ?_; refine W.h ?_; refine W.s ?_; refine W.r ?_; refine W.q (.build ty134 st134 rfl (fun hg => rfl)) rfl ?_; refine W.box (.t rfl) rfl rfl ?_; intro b21; refine W.q (.assign (.t rfl)) rfl ?_; refine W.n ?_; refine W.h ?_; refine W.s ?_; refine W.r ?_; refine W.own_nil 22 1 ?_; refine W.own_nil 3 1 ?_; refine W.perm (List.perm_middle (l₁ := [_, _])) ?_; refine W.q (.move (.t rfl)) rfl ?_
 refine W.q (.ldbn 4 (.t rfl) rfl ag56 ty56 rfl) rfl ?_; refine W.call (WAdd.c_add x hx b21 (.slice none 0 0) (.slice none 0 0) [] [] rfl (by simp only [List.length_nil]; omega)) ⟨(.t rfl), (.t rfl), trivial⟩ (.refl _) rfl ?_
 rintro _ _ ⟨vT, vF, tys, R, v1, v2, fi, la, no, hP, hlv2, hty, hRl, rfl, rfl⟩
 refine W.perm (List.Perm.cons _ (List.Perm.cons _ (List.perm_append_comm (l₂ := [_, _])))) ?_
 obtain ⟨hgok, hglg, hrow⟩ := hP.gp hty
 have htl : tys.length ≤ 6 := by simp only [List.length_nil] at hlv2; omega
 obtain ⟨g, hgd⟩ : ∃ g : Gp, g = ⟨tys, folOf R, fi, la, no⟩ := ⟨_, rfl⟩
 have hgt : g.tys = tys := by rw [hgd]
 have hgF : g.F = folOf R := by rw [hgd]
 have hgl : g.la = la := by rw [hgd]
 rw [← hgd] at hgok
 have hlal : la.length ≤ 6 := by have := hP.ll; simp only [List.length_nil] at this; omega
 have hfil : fi.length ≤ 6 := by have := hP.lf; simp only [List.length_nil] at this; omega
 have hlam : ∀ p ∈ la, p < tys.length := fun p hp => by have := hgok.la p (by rw [hgl]; exact hp); rwa [hgt] at this
 have hfim : ∀ p ∈ fi, p < tys.length := fun p hp => by have := hgok.fi p (by rw [hgd]; exact hp); rwa [hgt] at this
 refine W.alloc ty136 rfl rfl ?_; intro b4
 refine W.stb 0 (.t rfl) (.t rfl) rfl ty136 rfl rfl rfl (.n (.h (.s (.r (.mv rfl rfl (.q (.nilc (.t rfl)) rfl (.q (.fab (.t rfl) fa134_0) rfl (.q (.ldb1 5 (.t rfl) rfl ag22 rfl) rfl ?_)))))))); refine W.q (.lenar (i := 6) (.t rfl) rfl Tryz.underlying22) rfl ?_
 refine W.is (t := 29) (av' := .int (tys.length : Int)) rfl (by rw [List.length_map]) ?_; refine W.mk (.t rfl) (.t rfl) Tryz.underlying60 ty4 rfl rfl rfl rfl rfl (by omega) rfl ?_; intro v30; refine W.q (.assign (.t rfl)) rfl ?_; refine W.n ?_; refine W.h ?_; refine W.s ?_; refine W.s ?_; refine W.r ?_
 refine W.q (.fab (.t rfl) fa136_1) rfl (.q (.ldb1 1 (.t rfl) rfl ag22 rfl) rfl ?_); refine W.q (.lenar (i := 3) (.t rfl) rfl Tryz.underlying22) rfl ?_
 refine W.q (.move .k) rfl ?_; refine W.n ?_; refine W.h ?_; refine W.b ?_; refine W.loop (D := []) (ι := Nat) (fun i => [(34, true, .int (i : Int)), (33, true, .int ((la.map natv).length : Int)), (32, true, .lit v2), (3, true, .lit (.pointer (some ⟨b21, 0, none⟩))), (4, true, .lit (.pointer (some ⟨b4, 0, none⟩))), (5, true, .lit v30), (1, true, .lit (.pointer (some ⟨b1, 0, none⟩))), (2, true, .lit (.pointer (some ⟨b2, 0, none⟩)))]) (fun i => .arr v30 4 1 (rowB tys.length (fun p => decide (p ∈ la.take i))) :: .box b4 136 [.lit v1, .lit v2, .bool no] :: .arr v1 3 1 (fi.map natv) :: .arr v2 3 1 (la.map natv) :: .box b2 99 [.lit (.slice none 0 0), .lit (.slice none 0 0)] :: .box b1 56 x.avx.cells :: .box b21 134 [.lit vT, .lit vF, .lit (.slice none 0 0), .lit (.slice none 0 0), .bool false] :: .arr vT 3 1 (tys.map AV.int) :: .arr vF 22 1 (rowsV R) :: rowsM 3 R) (fun i => i ≤ la.length) (fun i => la.length - i) 0 ⟨rfl, rfl, rfl, rfl, rfl, rfl, rfl, rfl, trivial⟩ (by rw [List.append_nil]; (try dsimp only); rw [show rowB tys.length (fun p => decide (p ∈ la.take 0)) = List.replicate tys.length (AV.bool false) from ((rowB_rep _).trans (rowB_congr _ _ _ fun k _ => by simp)).symm]; exact .refl _) (Nat.zero_le _) ?_; intro i hi
 dsimp only at hi ⊢
 have hml : (la.map natv).length = la.length := List.length_map ..
 rcases (show i < la.length ∨ i = la.length from by omega) with hi | hend
 ·have hgp := getD_mapG natv 0 la i hi
  have hpm := hlam _ (getD_memG 0 la i hi)
  have htk := take_getDG 0 la i hi
  obtain ⟨p0, hp00⟩ : ∃ p, p = la.getD i 0 := ⟨_, rfl⟩
  rw [← hp00] at hgp hpm htk
  have hp0 : p0 < tys.length := hpm
  refine W.s (.r (.q (.lti (.t rfl) (.t rfl)) rfl (.n (.h (.s ?_))))); refine W.isb 35 true rfl (by exact decide_eq_true (by omega)) ?_; refine W.condT (.t rfl) (.k (.h (.s (.b (.s (.r ?_)))))); refine W.q (.ata 3 (.t rfl) rfl (.t rfl) Tryz.underlying22 ty3 (fun _ => by rw [List.length_map]; omega)) rfl ?_; refine W.q (.lda1 3 i 0 (.t rfl) rfl hgp (by omega) rfl rfl rfl ag3) rfl (.asg rfl rfl (.n (.h (.r (.mv rfl rfl (.mv rfl rfl ?_)))))); refine W.q (.ata 0 (.t rfl) rfl (.t rfl) Tryz.underlying60 ty4 (fun _ => by rw [rowB_len]; omega)) rfl ?_; refine W.sta 0 p0 0 (e := AV.bool (decide (p0 ∈ la.take i))) (e' := AV.bool true) (.t rfl) .k rfl (rowB_at _ _ p0 hp0) (by omega) ty4 rfl rfl rfl rfl rfl rfl rfl ?_; refine W.n (.bn (.h (.r (.q (.add (.t rfl) .k (fun _ => by omega)) rfl ?_))))
  refine W.q (.move (.t rfl)) rfl ?_; refine W.n ?_; refine W.h ?_; refine W.reach (D := []) (i + 1) ⟨rfl, rfl, rfl, rfl, rfl, rfl, rfl, rfl, trivial⟩ ?_ ⟨hi, by show la.length - (i + 1) < la.length - i; omega⟩
  rw [List.append_nil]
  (try dsimp only)
  rw [show rowB tys.length (fun p => decide (p ∈ la.take (i + 1))) = (rowB tys.length (fun p => decide (p ∈ la.take i))).set p0 (AV.bool true) from by rw [rowB_set]; exact rowB_congr _ _ _ fun k _ => by rw [htk]; by_cases h : k = p0 <;> simp [h]]
  exact .refl _
 ·subst hend
  rw [List.take_length]
  refine W.s ?_; refine W.r ?_; refine W.q (.lti (.t rfl) (.t rfl)) rfl ?_; refine W.n ?_; refine W.h ?_; refine W.s ?_; refine W.isb 35 false rfl (by exact decide_eq_false (by omega)) ?_; refine W.condF (.t rfl) ?_; refine W.ex ?_; refine W.he ?_; refine W.he ?_; refine W.bh ?_; refine W.h ?_; refine W.s ?_; refine W.r ?_; refine W.alloc ty99 rfl rfl ?_; intro b8; refine W.n ?_; refine W.h ?_; refine W.s ?_; refine W.r ?_; refine W.alloc ty59 rfl rfl ?_; intro b9; refine W.n ?_; refine W.h ?_; refine W.s ?_; refine W.r ?_; refine W.mkmap rfl ?_; intro b42; refine W.alloc ty138 rfl rfl ?_; intro b10
  refine W.stb 0 (.t rfl) (.t rfl) rfl ty138 rfl rfl rfl (.n (.h (.s (.r ?_)))); refine W.q (.mkfn (caps := [.tmp 10, .tmp 9, .tmp 8]) (vs := [_, _, _]) ⟨(.t rfl), (.t rfl), (.t rfl), trivial⟩) rfl ?_; refine W.asg rfl rfl (.n (.h (.s (.r ?_)))); refine W.own_nil 4 1 ?_; refine W.own_nil 22 1 ?_; refine W.own_nil 147 8 ?_
  rw [← Gp.ints_av fi]
  refine W.perm ((List.perm_middle (l₁ := [_, _, _, _, _, _, _, _, _])).trans <| List.Perm.cons _ <| (List.perm_middle (l₁ := [_, _, _])).trans <| List.Perm.cons _ <| (List.perm_middle (l₁ := [_, _, _])).trans <| List.Perm.cons _ <| (List.perm_middle (l₁ := [_, _, _])).trans <| List.Perm.cons _ <| (List.perm_middle (l₁ := [_])).trans <| List.Perm.cons _ <| (List.perm_middle (l₁ := [_, _])).trans <| List.Perm.cons _ <| (List.perm_middle (l₁ := [_])).trans <| List.Perm.cons _ <| List.Perm.cons _ <| List.Perm.cons _ <| List.Perm.cons _ <| (List.perm_middle (l₁ := [_])).trans <| List.Perm.cons _ <| (List.perm_middle (l₁ := [_])).trans <| List.Perm.cons _ <| List.Perm.cons _ <| .refl _) ?_; refine W.q (.move (.t rfl)) rfl ?_
  refine W.q (.fab (.t rfl) fa136_0) rfl (.q (.ldb1 9 (.t rfl) rfl ag22 rfl) rfl (.q (.fab (.t rfl) fa136_2) rfl (.q (.ldb1 9 (.t rfl) rfl ag4 rfl) rfl ?_))); refine W.callv (caps := [.pointer (some ⟨b10, 0, none⟩), .pointer (some ⟨b9, 0, none⟩), .pointer (some ⟨b8, 0, none⟩)]) (avs := [_, _]) (WState.c_state v1 (Gp.ints fi) no b10 b42 b9 b8 (.slice none 0 0) (.slice none 0 0) (.slice none 0 0) [] (by unfold Gp.ints; rw [List.length_map]; omega) (fun x hx => by obtain ⟨n, hn, rfl⟩ := (Gp.ints_mem fi x).1 hx; have := hfim n hn; omega) (fun s hs => by cases hs) (by decide)) (.t rfl) ⟨(.t rfl), (.t rfl), trivial⟩ rfl (.refl _) rfl ?_
  rintro _ _ ⟨k0, vS, vFi, SL, rfl, rfl, hor⟩
  obtain ⟨_, rfl, rfl⟩ : (norm (Gp.ints fi), no) ∉ ([] : List Ss) ∧ k0 = ([] : List Ss).length ∧ SL = [] ++ [(norm (Gp.ints fi), no)] := by
   rcases hor with ⟨h, _⟩ | h
   ·cases h
   ·exact h
  refine W.n ?_; refine W.h ?_; refine W.s ?_; refine W.s ?_; refine W.r ?_; refine W.q (.assign .k) rfl ?_; refine W.n ?_; refine W.h ?_; refine W.b ?_; refine W.loop (D := [.arr v2 3 1 (la.map natv)]) (ι := Nat × List Ss × (Nat → Nat → Int) × Value × Value × Value) (fun z => [(12, true, .int (z.1 : Int)), (3, true, .lit (.pointer (some ⟨b21, 0, none⟩))), (2, true, .lit (.pointer (some ⟨b2, 0, none⟩))), (5, true, .lit v30), (8, true, .lit (.pointer (some ⟨b8, 0, none⟩))), (9, true, .lit (.pointer (some ⟨b9, 0, none⟩))), (10, true, .lit (.pointer (some ⟨b10, 0, none⟩))), (11, true, .lit (.func (.func 70) #[] #[.pointer (some ⟨b10, 0, none⟩), .pointer (some ⟨b9, 0, none⟩), .pointer (some ⟨b8, 0, none⟩)]))]) (fun z => .box b10 138 [.lit (.map (some b42))] :: .obj b42 (mObj ((z.2.1.map keyS).map fun s : List UInt8 => Value.string ⟨s.toArray⟩)) :: .box b9 59 [.lit z.2.2.2.1] :: .arr z.2.2.2.1 22 1 (z.2.1.map fun s : Ss => .sl 1 (s.1.map AV.int)) :: .box b8 99 [.lit z.2.2.2.2.1, .lit z.2.2.2.2.2] :: .arr z.2.2.2.2.2 4 1 (z.2.1.map fun s : Ss => .bool s.2) :: .arr z.2.2.2.2.1 147 8 ((List.range z.1).map fun k => r8av (z.2.2.1 k)) :: .arr v30 4 1 (rowB tys.length (fun p => decide (p ∈ la))) :: .box b4 136 [.lit v1, .lit v2, .bool no] :: .box b2 99 [.lit (.slice none 0 0), .lit (.slice none 0 0)] :: .box b1 56 x.avx.cells :: .box b21 134 [.lit vT, .lit vF, .lit (.slice none 0 0), .lit (.slice none 0 0), .bool false] :: .arr vT 3 1 (tys.map AV.int) :: .arr vF 22 1 (rowsV R) :: rowsM 3 R) (fun z => Sts g z.2.1 z.2.2.1 z.1 0 ∧ z.1 ≤ z.2.1.length) (fun z => 65 - z.1) (0, [(norm (Gp.ints fi), no)], (fun _ _ => 0), vS, .slice none 0 0, vFi) ⟨rfl, rfl, rfl, rfl, rfl, rfl, rfl, rfl, trivial⟩ (by dsimp only; refine List.Perm.append_left [_, _, _, _, _, _, _, _, _, _, _] ?_; exact List.perm_append_comm (l₁ := [_])) ⟨by have := Sts.start hgok (fun _ _ => 0); rw [hgd] at this ⊢; exact this, Nat.zero_le _⟩ ?_
  skip
  rintro ⟨i, SL, T, vS, vN, vFi⟩ ⟨hT, hi⟩
  dsimp only at hT hi ⊢
  have h64 : SL.length ≤ 64 := Nat.le_trans hT.len (by rw [hgt]; exact Nat.le_trans (Nat.pow_le_pow_right (by decide) htl) (by decide))
  have hms : (SL.map fun s : Ss => AV.sl 1 (s.1.map AV.int)).length = SL.length := List.length_map ..
  rcases (show i < SL.length ∨ i = SL.length from by omega) with hi | hend
  ·skip
   refine W.s (.s (.r (.mv rfl rfl (.q (.ldb1 2 (.t rfl) rfl ag59 rfl) rfl ?_)))); refine W.q (.lenar (i := 3) (.t rfl) rfl Tryz.underlying59) rfl ?_
   refine W.q (.lti (.t rfl) (.t rfl)) rfl ?_; refine W.n ?_; refine W.h ?_; refine W.isb 53 true rfl (by exact decide_eq_true (by omega)) ?_; refine W.condT (.t rfl) ?_; refine W.k ?_; refine W.h ?_; refine W.s ?_; refine W.b ?_; refine W.s ?_; refine W.r ?_; refine W.alloc ty147 rfl rfl ?_; intro b13; refine W.n ?_; refine W.h ?_; refine W.s ?_; refine W.s ?_; refine W.r ?_; refine W.q (.move .k) rfl ?_; refine W.n ?_; refine W.h ?_; refine W.b ?_; refine W.loop (D := []) (ι := Nat × List Ss × (Nat → Nat → Int) × Value × Value) (fun z => [(56, true, .int (z.1 : Int)), (13, true, .lit (.pointer (some ⟨b13, 0, none⟩))), (12, true, .int (i : Int)), (3, true, .lit (.pointer (some ⟨b21, 0, none⟩))), (2, true, .lit (.pointer (some ⟨b2, 0, none⟩))), (5, true, .lit v30), (8, true, .lit (.pointer (some ⟨b8, 0, none⟩))), (9, true, .lit (.pointer (some ⟨b9, 0, none⟩))), (10, true, .lit (.pointer (some ⟨b10, 0, none⟩))), (11, true, .lit (.func (.func 70) #[] #[.pointer (some ⟨b10, 0, none⟩), .pointer (some ⟨b9, 0, none⟩), .pointer (some ⟨b8, 0, none⟩)]))]) (fun z => .box b13 147 (Au.rowV z.2.2.1 i z.1) :: .box b10 138 [.lit (.map (some b42))] :: .obj b42 (mObj ((z.2.1.map keyS).map fun s : List UInt8 => Value.string ⟨s.toArray⟩)) :: .box b9 59 [.lit z.2.2.2.1] :: .arr z.2.2.2.1 22 1 (z.2.1.map fun s : Ss => .sl 1 (s.1.map AV.int)) :: .box b8 99 [.lit vN, .lit z.2.2.2.2] :: .arr z.2.2.2.2 4 1 (z.2.1.map fun s : Ss => .bool s.2) :: .arr vN 147 8 ((List.range i).map fun k => r8av (z.2.2.1 k)) :: .arr v30 4 1 (rowB tys.length (fun p => decide (p ∈ la))) :: .box b4 136 [.lit v1, .lit v2, .bool no] :: .box b2 99 [.lit (.slice none 0 0), .lit (.slice none 0 0)] :: .box b1 56 x.avx.cells :: .box b21 134 [.lit vT, .lit vF, .lit (.slice none 0 0), .lit (.slice none 0 0), .bool false] :: .arr vT 3 1 (tys.map AV.int) :: .arr vF 22 1 (rowsV R) :: rowsM 3 R) (fun z => Sts g z.2.1 z.2.2.1 i z.1 ∧ i < z.2.1.length ∧ z.1 ≤ 8) (fun z => 8 - z.1) (0, SL, T, vS, vFi) ⟨rfl, rfl, rfl, rfl, rfl, rfl, rfl, rfl, rfl, rfl, trivial⟩ (by rw [List.append_nil]; exact .refl _) ⟨hT, hi, Nat.zero_le _⟩ ?_
   clear hT hms h64 hi
   clear hi
   clear SL T vS vFi
   rintro ⟨d, SL, T, vS, vFi⟩ ⟨hT, hi, hd⟩
   dsimp only at hT hi hd ⊢
   have h64 : SL.length ≤ 64 := Nat.le_trans hT.len (by rw [hgt]; exact Nat.le_trans (Nat.pow_le_pow_right (by decide) htl) (by decide))
   have hms : (SL.map fun s : Ss => AV.sl 1 (s.1.map AV.int)).length = SL.length := List.length_map ..
   rcases (show d < 8 ∨ d = 8 from by omega) with hd8 | hend
   ·have hgs := getD_mapG (fun s : Ss => AV.sl 1 (s.1.map AV.int)) ([], false) SL i hi
    have hssm := getD_memG ([], false) SL i hi
    obtain ⟨ss, hss⟩ : ∃ s, SL.getD i ([], false) = s := ⟨_, rfl⟩
    rw [hss] at hgs hssm
    have hsin := hT.inn ss hssm
    have hsl : ss.1.length ≤ 6 := by have := hT.sle hssm; rw [hgt] at this; omega
    have htlen : ∀ j, (g.tos (g.sel (ss.1.take j) d)).length ≤ 36 := fun j => by have h1 := g.tos_len (m := 6) (fun p => by rw [hgF]; exact Nat.le_trans (hrow p) htl) (g.sel (ss.1.take j) d); have h2 := g.sel_len (ss.1.take j) d; rw [List.length_take] at h2; omega
    have htob : ∀ x ∈ g.tos (g.sel ss.1 d), 0 ≤ x ∧ x < 100 := fun x hx => by have := g.stp_in hgok ss d x ((norm_mem _ x).2 hx); rw [hgt] at this; omega
    refine W.s (.r (.q (.lti (.t rfl) .k) rfl (.n (.h (.s ?_))))); refine W.isb 57 true rfl (by exact decide_eq_true (by omega)) ?_; refine W.condT (.t rfl) (.k (.h (.s (.b (.s (.r (.mv rfl rfl (.asg rfl rfl (.n (.h (.s (.r (.q (.assign .k) rfl (.n (.h (.s (.r (.q (.assign .k) rfl (.q (.assign .k) rfl (.n (.h (.s (.s ?_))))))))))))))))))))))); refine W.r (.q (.ldb1 3 (.t rfl) rfl ag59 rfl) rfl (.mv rfl rfl ?_)); refine W.q (.ata 4 (.t rfl) rfl (.t rfl) Tryz.underlying59 ty22 (fun _ => by rw [List.length_map]; omega)) rfl ?_; refine W.q (.lda1 4 i 0 (.t rfl) rfl hgs (by omega) rfl rfl rfl ag22) rfl (.q (.lensl (.t rfl) Tryz.underlying22) rfl (.q (.move .k) rfl (.n (.h (.b ?_))))); refine W.own_nil 3 1 ?_; refine W.is (t := 16) (av' := .bool (decide (g.sel (ss.1.take 0) d ≠ []))) rfl (rfl) ?_; refine W.is (t := 17) (av' := .bool (g.fins (g.sel (ss.1.take 0) d))) rfl (rfl) ?_; refine W.loop (D := []) (ι := Nat × Value) (fun z => [(64, true, .int (z.1 : Int)), (63, true, .int ((ss.1.map AV.int).length : Int)), (62, true, .sl 1 (ss.1.map AV.int)), (15, true, .lit z.2), (16, true, .bool (decide (g.sel (ss.1.take z.1) d ≠ []))), (17, true, .bool (g.fins (g.sel (ss.1.take z.1) d))), (14, true, .int (d : Int)), (56, true, .int (d : Int)), (13, true, .lit (.pointer (some ⟨b13, 0, none⟩))), (12, true, .int (i : Int)), (3, true, .lit (.pointer (some ⟨b21, 0, none⟩))), (2, true, .lit (.pointer (some ⟨b2, 0, none⟩))), (5, true, .lit v30), (8, true, .lit (.pointer (some ⟨b8, 0, none⟩))), (9, true, .lit (.pointer (some ⟨b9, 0, none⟩))), (10, true, .lit (.pointer (some ⟨b10, 0, none⟩))), (11, true, .lit (.func (.func 70) #[] #[.pointer (some ⟨b10, 0, none⟩), .pointer (some ⟨b9, 0, none⟩), .pointer (some ⟨b8, 0, none⟩)]))]) (fun z => .arr z.2 3 1 ((g.tos (g.sel (ss.1.take z.1) d)).map AV.int) :: .box b13 147 (Au.rowV T i d) :: .box b10 138 [.lit (.map (some b42))] :: .obj b42 (mObj ((SL.map keyS).map fun s : List UInt8 => Value.string ⟨s.toArray⟩)) :: .box b9 59 [.lit vS] :: .arr vS 22 1 (SL.map fun s : Ss => .sl 1 (s.1.map AV.int)) :: .box b8 99 [.lit vN, .lit vFi] :: .arr vFi 4 1 (SL.map fun s : Ss => .bool s.2) :: .arr vN 147 8 ((List.range i).map fun k => r8av (T k)) :: .arr v30 4 1 (rowB tys.length (fun p => decide (p ∈ la))) :: .box b4 136 [.lit v1, .lit v2, .bool no] :: .box b2 99 [.lit (.slice none 0 0), .lit (.slice none 0 0)] :: .box b1 56 x.avx.cells :: .box b21 134 [.lit vT, .lit vF, .lit (.slice none 0 0), .lit (.slice none 0 0), .bool false] :: .arr vT 3 1 (tys.map AV.int) :: .arr vF 22 1 (rowsV R) :: rowsM 3 R) (fun z => z.1 ≤ ss.1.length) (fun z => ss.1.length - z.1) (0, .slice none 0 0) ⟨rfl, rfl, rfl, rfl, rfl, rfl, rfl, rfl, rfl, rfl, rfl, rfl, rfl, rfl, rfl, rfl, rfl, trivial⟩ (by rw [List.append_nil]; exact .refl _) (Nat.zero_le _) ?_
    rintro ⟨j, vto⟩ hj
    dsimp only at hj ⊢
    have hml3 : (ss.1.map AV.int).length = ss.1.length := List.length_map ..
    rcases (show j < ss.1.length ∨ j = ss.1.length from by omega) with hj | hend
    ·have hgk := getD_map ss.1 j hj
     have hsel := g.sel_snoc ss.1 d j hj
     have hkr := hsin _ (getD_memG 0 ss.1 j hj)
     obtain ⟨kk, hkk⟩ : ∃ k, ss.1.getD j 0 = k := ⟨_, rfl⟩
     rw [hkk] at hgk hsel hkr
     rw [hgt] at hkr
     have hgty := getD_map tys kk.toNat (by omega)
     refine W.s (.r (.q (.lti (.t rfl) (.t rfl)) rfl (.n (.h (.s ?_))))); refine W.isb 65 true rfl (by exact decide_eq_true (by omega)) ?_; refine W.condT (.t rfl) (.k (.h (.s (.b (.s (.r ?_)))))); refine W.q (.at (E := 3) (.t rfl) (.t rfl) Tryz.underlying22 ty3 (fun _ => ⟨by omega, hgk⟩) rfl rfl) rfl ?_; refine W.q (.lde1 (.t rfl) ag3) rfl (.asg rfl rfl (.n (.h (.s (.r (.mv rfl rfl (.q (.nilc (.t rfl)) rfl (.q (.fab (.t rfl) fa134_0) rfl (.q (.ldb1 13 (.t rfl) rfl ag22 rfl) rfl ?_)))))))))
     refine W.q (.move (.t rfl)) rfl ?_; refine W.q (.ata 14 (.t rfl) rfl (.t rfl) Tryz.underlying22 ty3 (fun _ => by rw [List.length_map]; omega)) rfl ?_; refine W.q (.lda1 14 kk.toNat 0 (.t rfl) rfl hgty (by omega) rfl rfl rfl ag3) rfl ?_; refine W.q (.move (.t rfl)) rfl ?_; refine W.q (.eqi (.t rfl) (.t rfl)) rfl ?_; refine W.n ?_; refine W.h ?_; refine W.cond (.t rfl) (fun hc_t76 => ?_) (fun hc_t76 => ?_)
     ·have hsel2 : g.sel (ss.1.take (j + 1)) d = g.sel (ss.1.take j) d ++ [kk] := by rw [hsel, if_pos (by rw [hgt]; exact hc_t76)]
      have hkR : kk.toNat < R.length := by omega
      refine W.perm (rowsM_out 3 R kk.toNat hkR [.arr vto 3 1 ((g.tos (g.sel (ss.1.take j) d)).map AV.int), .box b13 147 (Au.rowV T i d), .box b10 138 [.lit (.map (some b42))], .obj b42 (mObj ((SL.map keyS).map fun s : List UInt8 => Value.string ⟨s.toArray⟩)), .box b9 59 [.lit vS], .arr vS 22 1 (SL.map fun s : Ss => .sl 1 (s.1.map AV.int)), .box b8 99 [.lit vN, .lit vFi], .arr vFi 4 1 (SL.map fun s : Ss => .bool s.2), .arr vN 147 8 ((List.range i).map fun k => r8av (T k)), .arr v30 4 1 (rowB tys.length (fun p => decide (p ∈ la))), .box b4 136 [.lit v1, .lit v2, .bool no], .box b2 99 [.lit (.slice none 0 0), .lit (.slice none 0 0)], .box b1 56 x.avx.cells, .box b21 134 [.lit vT, .lit vF, .lit (.slice none 0 0), .lit (.slice none 0 0), .bool false], .arr vT 3 1 (tys.map AV.int), .arr vF 22 1 (rowsV R)]) ?_
      obtain ⟨⟨vr, l⟩, hz⟩ : ∃ z, R.getD kk.toNat (.slice none 0 0, []) = z := ⟨_, rfl⟩
      rw [hz]
      dsimp only
      refine W.arr_inv 0 rfl (fun a9 n9 c9 hv9 => ?_)
      subst hv9
      have hgv := rowsV_get R kk.toNat hkR
      rw [hz] at hgv
      have hFl : (folOf R).getD kk.toNat [] = l := by rw [folOf_get, hz]
      have hll : l.length ≤ 6 := by rw [← hFl]; exact Nat.le_trans (hrow _) htl
      refine W.s (.r (.mv rfl rfl (.mv rfl rfl (.q (.nilc (.t rfl)) rfl (.q (.fab (.t rfl) fa134_1) rfl (.q (.ldb1 14 (.t rfl) rfl ag59 rfl) rfl ?_))))))
      refine W.q (.move (.t rfl)) rfl ?_; refine W.q (.ata 16 (.t rfl) rfl (.t rfl) Tryz.underlying59 ty22 (fun _ => by rw [rowsV_len]; omega)) rfl ?_; refine W.q (.lda1 16 kk.toNat 0 (.t rfl) rfl hgv (by omega) rfl rfl rfl ag22) rfl ?_; refine W.app 1 (.t rfl) rfl (.arr 0 (.t rfl) rfl (okc_natv l)) Tryz.underlying22 ni22 ty3 rfl rfl (by have := htlen j; rw [List.length_map, List.length_map]; omega) rfl ?_; intro v85; refine W.q (.assign (.t rfl)) rfl ?_; refine W.n ?_; refine W.h ?_; refine W.drawnE (ι := Unit) (fun _ _ => _) 9 () (by kernel_rfl) (by kernel_rfl) rfl ?_; refine DE.q (fun e c hk => (.move (.t rfl))) rfl (fun _ _ => rfl) (.inr fun _ _ => rfl) ?_; refine DE.q (fun e c hk => (.move (.t rfl))) rfl (fun _ _ => rfl) (.inr fun _ _ => rfl) ?_; refine DE.qg rfl (fun _ => rfl) (fun e c hk => (.move (.t rfl))) rfl (fun _ _ => rfl) (.inr fun _ _ => rfl) ?_; refine DE.qg rfl (fun _ => rfl) (fun e c hk => (.move (.t rfl))) rfl (fun _ _ => rfl) (.inr fun _ _ => rfl) ?_; refine DE.qg rfl (fun _ => rfl) (fun e c hk => Ev.ata 10 (.c rfl) rfl (.c rfl) Tryz.underlying60 ty4 (fun _ => by rw [rowB_len]; omega)) rfl (fun _ _ => rfl) (.inr fun _ _ => rfl) ?_; refine DE.qg rfl (fun _ => rfl) (fun e c hk => Ev.lda1 10 kk.toNat 0 (.c rfl) rfl (rowB_at _ _ kk.toNat (by omega)) (by omega) rfl rfl rfl ag4) rfl (fun _ _ => rfl) (.inr fun _ _ => rfl) ?_; refine DE.q (fun e c hk => (.or (.t rfl) ⟨_, _, rfl, rfl, by ((simp; done))⟩)) rfl (fun _ _ => rfl) (.inr fun _ _ => rfl) ?_; refine DE.q (fun e c hk => (.assign .k)) rfl (fun _ _ => rfl) (.inr fun _ _ => rfl) ?_; refine DE.q (fun e c hk => (.assign (.t rfl))) rfl (fun _ _ => rfl) (.inr fun _ _ => rfl) ?_; refine DE.nil (fun c_ e_ he_ => ?_)
      dsimp only
      refine W.bn (.h (.r (.q (.add (.t rfl) .k (fun _ => by omega)) rfl ?_)))
      refine W.q (.move (.t rfl)) rfl ?_; refine W.n ?_; refine W.h ?_; refine W.is (t := 16) (av' := .bool (decide (g.sel (ss.1.take (j + 1)) d ≠ []))) rfl (by rw [hsel2]; simp) ?_; refine W.is (t := 17) (av' := .bool (g.fins (g.sel (ss.1.take (j + 1)) d))) rfl (by rw [hsel2, g.fins_snoc, hgl]) ?_; refine W.reach (D := []) (j + 1, v85) ⟨rfl, rfl, rfl, rfl, rfl, rfl, rfl, rfl, rfl, rfl, rfl, rfl, rfl, rfl, rfl, rfl, rfl, trivial⟩ ?_ ⟨hj, by show ss.1.length - (j + 1) < ss.1.length - j; omega⟩
      rw [List.append_nil]
      dsimp only
      rw [hsel2, g.tos_snoc, hgF, hFl, List.map_append, Gp.ints_av]
      have h8 := (rowsM_out 3 R kk.toNat hkR [.arr v85 3 1 ((g.tos (g.sel (ss.1.take j) d)).map AV.int ++ l.map natv), .box b13 147 (Au.rowV T i d), .box b10 138 [.lit (.map (some b42))], .obj b42 (mObj ((SL.map keyS).map fun s : List UInt8 => Value.string ⟨s.toArray⟩)), .box b9 59 [.lit vS], .arr vS 22 1 (SL.map fun s : Ss => .sl 1 (s.1.map AV.int)), .box b8 99 [.lit vN, .lit vFi], .arr vFi 4 1 (SL.map fun s : Ss => .bool s.2), .arr vN 147 8 ((List.range i).map fun k => r8av (T k)), .arr v30 4 1 (rowB tys.length (fun p => decide (p ∈ la))), .box b4 136 [.lit v1, .lit v2, .bool no], .box b2 99 [.lit (.slice none 0 0), .lit (.slice none 0 0)], .box b1 56 x.avx.cells, .box b21 134 [.lit vT, .lit vF, .lit (.slice none 0 0), .lit (.slice none 0 0), .bool false], .arr vT 3 1 (tys.map AV.int), .arr vF 22 1 (rowsV R)]).symm
      rw [hz] at h8
      exact h8
     ·have hsel2 : g.sel (ss.1.take (j + 1)) d = g.sel (ss.1.take j) d := by rw [hsel, if_neg (by rw [hgt]; intro h; exact Bool.eq_false_iff.1 hc_t76 h), List.append_nil]
      refine W.k (.bn (.h (.r (.q (.add (.t rfl) .k (fun _ => by omega)) rfl ?_))))
      refine W.q (.move (.t rfl)) rfl ?_; refine W.n ?_; refine W.h ?_; refine W.is (t := 16) (av' := .bool (decide (g.sel (ss.1.take (j + 1)) d ≠ []))) rfl (by rw [hsel2]) ?_; refine W.is (t := 17) (av' := .bool (g.fins (g.sel (ss.1.take (j + 1)) d))) rfl (by rw [hsel2]) ?_; refine W.reach (D := []) (j + 1, vto) ⟨rfl, rfl, rfl, rfl, rfl, rfl, rfl, rfl, rfl, rfl, rfl, rfl, rfl, rfl, rfl, rfl, rfl, trivial⟩ ?_ ⟨hj, by show ss.1.length - (j + 1) < ss.1.length - j; omega⟩
      rw [List.append_nil]
      dsimp only
      rw [hsel2]
    ·subst hend
     rw [List.take_length]
     refine W.s ?_; refine W.r ?_; refine W.q (.lti (.t rfl) (.t rfl)) rfl ?_; refine W.n ?_; refine W.h ?_; refine W.s ?_; refine W.isb 65 false rfl (by exact decide_eq_false (by omega)) ?_; refine W.condF (.t rfl) ?_; refine W.ex ?_; refine W.he ?_; refine W.he ?_; refine W.bh ?_; refine W.h ?_; refine W.s ?_; refine W.r ?_; refine W.q (.move (.t rfl)) rfl ?_; refine W.q (.boxat (.t rfl) (.t rfl) Tryz.underlying147 ty3 (fun _ => ⟨by omega, by omega⟩)) rfl ?_; refine W.stb 1 (o := d) (.t rfl) .k rfl ty3 rfl rfl (Nat.ble_eq_true_of_le (by show d + 1 ≤ 8; omega)) ?_; refine W.n ?_; refine W.h ?_; refine W.s ?_; refine W.r ?_; refine W.q (.move (.t rfl)) rfl ?_; refine W.n ?_; refine W.h ?_; refine W.cond (.t rfl) (fun hc_t96 => ?_) (fun hc_t96 => ?_)
     ·have hne : g.sel ss.1 d ≠ [] := of_decide_eq_true hc_t96
      refine W.r (.mv rfl rfl (.mv rfl rfl (.mv rfl rfl (.mv rfl rfl ?_)))); refine W.callv (caps := [.pointer (some ⟨b10, 0, none⟩), .pointer (some ⟨b9, 0, none⟩), .pointer (some ⟨b8, 0, none⟩)]) (avs := [_, _]) (WState.c_state vto (g.tos (g.sel ss.1 d)) (g.fins (g.sel ss.1 d)) b10 b42 b9 b8 vS vN vFi SL (by have := htlen ss.1.length; rw [List.take_length] at this; omega) htob (fun s hs => (hT.inn s hs).sml (by rw [hgt]; omega)) (by omega)) (.t rfl) ⟨(.t rfl), (.t rfl), trivial⟩ rfl ((List.Perm.cons _ (List.perm_middle (l₁ := [_, _, _, _, _, _])).symm)) rfl ?_
      rintro _ _ ⟨kq, vS', vFi', SL', rfl, rfl, hor⟩
      refine W.perm (List.perm_middle (l₁ := [_, _, _, _, _, _])) ?_; refine W.q (.boxat (.t rfl) (.t rfl) Tryz.underlying147 ty3 (fun _ => ⟨by omega, by omega⟩)) rfl ?_; refine W.stb 0 (o := d) (.t rfl) (.t rfl) rfl ty3 rfl rfl (Nat.ble_eq_true_of_le (by show d + 1 ≤ (splice (Au.rowV T i d) d [AV.int (-1)]).length; rw [Au.rowV_splice T i d (-1) hd8]; show d + 1 ≤ 8; omega)) ?_; refine W.n (.bn (.h (.r (.q (.add (.t rfl) .k (fun _ => by omega)) rfl (.mv rfl rfl (.n (.h ?_)))))))
      rcases hor with ⟨hpl, rfl⟩ | ⟨hnm, rfl, rfl⟩
      ·have hjl := place_lt hpl
       have hjg := place_some hpl
       have h9 := (hT.setI (kq : Int)).old (Au.setI_at _ _ _ _) hjl (by rw [List.getD_eq_getElem?_getD, hjg, hss]; rfl)
       refine W.reach (D := []) (d + 1, SL', Au.setI T i d (kq : Int), vS', vFi') ⟨rfl, rfl, rfl, rfl, rfl, rfl, rfl, rfl, rfl, rfl, trivial⟩ ?_ ⟨⟨h9, hi, hd8⟩, by show 8 - (d + 1) < 8 - d; omega⟩
       rw [List.append_nil]
       dsimp only
       rw [rows_setI, ← Au.rowV_splice2 T i d (-1) (kq : Int) hd8]
       exact .refl _
      ·have h9 := (hT.setI (SL.length : Int)).new hgok hi hd8 (Au.setI_at _ _ _ _) (by rw [hss]; exact hne) (by rw [hss]; exact hnm)
       rw [hss] at h9
       refine W.reach (D := []) (d + 1, SL ++ [g.stp ss d], Au.setI T i d (SL.length : Int), vS', vFi') ⟨rfl, rfl, rfl, rfl, rfl, rfl, rfl, rfl, rfl, rfl, trivial⟩ ?_ ⟨⟨h9, by show i < (SL ++ [g.stp ss d]).length; rw [List.length_append]; omega, hd8⟩, by show 8 - (d + 1) < 8 - d; omega⟩
       rw [List.append_nil]
       dsimp only
       rw [rows_setI, ← Au.rowV_splice2 T i d (-1) (SL.length : Int) hd8]
       exact .refl _
     ·have hse : g.sel ss.1 d = [] := Classical.byContradiction fun h => by rw [decide_eq_true h] at hc_t96; cases hc_t96
      refine W.k (.bn (.h (.r (.q (.add (.t rfl) .k (fun _ => by omega)) rfl (.mv rfl rfl (.n (.h ?_)))))))
      have h9 := (hT.setI (-1)).none (Au.setI_at _ _ _ _) (by rw [hss]; exact hse)
      refine W.reach (D := [.arr vto 3 1 ((g.tos (g.sel ss.1 d)).map AV.int)]) (d + 1, SL, Au.setI T i d (-1), vS, vFi) ⟨rfl, rfl, rfl, rfl, rfl, rfl, rfl, rfl, rfl, rfl, trivial⟩ ?_ ⟨⟨h9, hi, hd8⟩, by show 8 - (d + 1) < 8 - d; omega⟩
      dsimp only
      rw [rows_setI, ← Au.rowV_splice T i d (-1) hd8]
      exact List.perm_append_comm (l₁ := [_])
   ·subst hend
    rw [Au.rowV_done]
    refine W.s (.r (.q (.lti (.t rfl) .k) rfl (.n (.h (.s (.isb 57 false rfl (by rfl) (.condF (.t rfl) (.ex (.he (.he (.bh (.h (.r (.q (.fab (.t rfl) fa99_0) rfl (.q (.ldb1 5 (.t rfl) rfl ag97 rfl) rfl (.q (.ldbn 0 (.t rfl) rfl ag147 ty147 rfl) rfl ?_))))))))))))))))
    refine W.is (t := 106) (av' := r8av (T i)) rfl rfl ?_; refine W.bs (es := [_]) Tryz.underlying97 ty147 ⟨rfl, (.t rfl), rfl, rfl, trivial⟩ rfl (by decide) rfl rfl ?_; refine W.app 7 (.t rfl) rfl (.sl (.t rfl) (by intro e he; rw [List.mem_singleton.1 he]; rfl)) Tryz.underlying97 ni97 ty147 rfl rfl (by rw [List.length_map, List.length_range]; simp only [List.length_cons, List.length_nil]; omega) rfl ?_; intro v108
    refine W.q (.fab (.t rfl) fa99_0) rfl ?_
    refine W.arr_inv 7 rfl (fun a7 n7 c7 h7 => ?_)
    subst h7
    refine W.stb 5 (.t rfl) (.t rfl) rfl ty97 rfl rfl rfl (.n (.bn (.h (.r (.mv rfl rfl (.q (.add (.t rfl) .k (fun _ => by omega)) rfl ?_))))))
    refine W.q (.assign (.t rfl)) rfl ?_; refine W.n ?_; refine W.h ?_; refine W.reach (D := [.box b13 147 (row8 (T i))]) (i + 1, SL, T, vS, .slice a7 n7 c7, vFi) ⟨rfl, rfl, rfl, rfl, rfl, rfl, rfl, rfl, trivial⟩ ?_ ⟨⟨hT.row, hi⟩, by show 65 - (i + 1) < 65 - i; omega⟩
    dsimp only
    rw [← rows_snoc i T]
    exact List.perm_append_comm (l₁ := [_])
  ·subst hend
   have hd := hT.done hgok
   refine W.s (.s (.r (.mv rfl rfl (.q (.ldb1 2 (.t rfl) rfl ag59 rfl) rfl ?_)))); refine W.q (.lenar (i := 3) (.t rfl) rfl Tryz.underlying59) rfl ?_; refine W.q (.lti (.t rfl) (.t rfl)) rfl (.n (.h ?_)); refine W.isb 53 false rfl (by exact decide_eq_false (by omega)) ?_; refine W.condF (.t rfl) (.ex (.he (.he (.bh (.h (.s (.r ?_))))))); refine W.freezeA (M1 := .box b10 138 [.lit (.map (some b42))] :: .obj b42 (mObj ((SL.map keyS).map fun s : List UInt8 => Value.string ⟨s.toArray⟩)) :: .box b9 59 [.lit vS] :: .arr vS 22 1 (SL.map fun s : Ss => .sl 1 (s.1.map AV.int)) :: .box b8 99 [.lit vN, .lit vFi] :: .arr vFi 4 1 (SL.map fun s : Ss => .bool s.2) :: .arr v30 4 1 (rowB tys.length (fun p => decide (p ∈ la))) :: .box b4 136 [.lit v1, .lit v2, .bool no] :: .box b2 99 [.lit (.slice none 0 0), .lit (.slice none 0 0)] :: .box b1 56 x.avx.cells :: .box b21 134 [.lit vT, .lit vF, .lit (.slice none 0 0), .lit (.slice none 0 0), .bool false] :: .arr vT 3 1 (tys.map AV.int) :: .arr vF 22 1 (rowsV R) :: rowsM 3 R) (M2 := .box b10 138 [.lit (.map (some b42))] :: .obj b42 (mObj ((SL.map keyS).map fun s : List UInt8 => Value.string ⟨s.toArray⟩)) :: .box b9 59 [.lit vS] :: .arr vS 22 1 (SL.map fun s : Ss => .sl 1 (s.1.map AV.int)) :: .box b8 99 [.sl 8 ((List.range SL.length).map fun k => r8av (T k)), .lit vFi] :: .arr vFi 4 1 (SL.map fun s : Ss => .bool s.2) :: .arr v30 4 1 (rowB tys.length (fun p => decide (p ∈ la))) :: .box b4 136 [.lit v1, .lit v2, .bool no] :: .box b2 99 [.lit (.slice none 0 0), .lit (.slice none 0 0)] :: .box b1 56 x.avx.cells :: .box b21 134 [.lit vT, .lit vF, .lit (.slice none 0 0), .lit (.slice none 0 0), .bool false] :: .arr vT 3 1 (tys.map AV.int) :: .arr vF 22 1 (rowsV R) :: rowsM 3 R) (D := []) (v := vN) (L' := []) (by rw [List.append_nil]; exact List.perm_middle (l₁ := [_, _, _, _, _, _])) trivial ⟨.refl _, .refl _, .refl _, .refl _, .box ⟨.hit, .refl _, trivial⟩, FrzMs.refl _⟩ ?_; refine W.freezeA (M1 := .box b10 138 [.lit (.map (some b42))] :: .obj b42 (mObj ((SL.map keyS).map fun s : List UInt8 => Value.string ⟨s.toArray⟩)) :: .box b9 59 [.lit vS] :: .arr vS 22 1 (SL.map fun s : Ss => .sl 1 (s.1.map AV.int)) :: .box b8 99 [.sl 8 ((List.range SL.length).map fun k => r8av (T k)), .lit vFi] :: .arr v30 4 1 (rowB tys.length (fun p => decide (p ∈ la))) :: .box b4 136 [.lit v1, .lit v2, .bool no] :: .box b2 99 [.lit (.slice none 0 0), .lit (.slice none 0 0)] :: .box b1 56 x.avx.cells :: .box b21 134 [.lit vT, .lit vF, .lit (.slice none 0 0), .lit (.slice none 0 0), .bool false] :: .arr vT 3 1 (tys.map AV.int) :: .arr vF 22 1 (rowsV R) :: rowsM 3 R) (M2 := .box b10 138 [.lit (.map (some b42))] :: .obj b42 (mObj ((SL.map keyS).map fun s : List UInt8 => Value.string ⟨s.toArray⟩)) :: .box b9 59 [.lit vS] :: .arr vS 22 1 (SL.map fun s : Ss => .sl 1 (s.1.map AV.int)) :: .box b8 99 [.sl 8 ((List.range SL.length).map fun k => r8av (T k)), .sl 1 (SL.map fun s : Ss => .bool s.2)] :: .arr v30 4 1 (rowB tys.length (fun p => decide (p ∈ la))) :: .box b4 136 [.lit v1, .lit v2, .bool no] :: .box b2 99 [.lit (.slice none 0 0), .lit (.slice none 0 0)] :: .box b1 56 x.avx.cells :: .box b21 134 [.lit vT, .lit vF, .lit (.slice none 0 0), .lit (.slice none 0 0), .bool false] :: .arr vT 3 1 (tys.map AV.int) :: .arr vF 22 1 (rowsV R) :: rowsM 3 R) (D := []) (v := vFi) (L' := []) (by rw [List.append_nil]; exact List.perm_middle (l₁ := [_, _, _, _, _])) trivial ⟨.refl _, .refl _, .refl _, .refl _, .box ⟨.refl _, .hit, trivial⟩, FrzMs.refl _⟩ ?_; refine W.q (.ldbn 4 (.t rfl) rfl ag99 ty99 rfl) rfl (.stb 7 (.t rfl) (.t rfl) rfl ty99 rfl rfl rfl (.n (.h ?_))); refine W.ret ?_; refine W.retn (M' := []) (D := _) (rs := [.cell 2 99]) (avs := [_]) Tryz.results38 ⟨⟨_, _, _, rfl, by repeat (first | exact List.mem_cons_self | apply List.mem_cons_of_mem), rfl, by funext w; exact ag99.run w, by funext w; exact ty99.size w⟩, trivial⟩ rfl (.refl _) ?_
   refine ⟨rfl, Au.auOf SL.length T (SL.map (·.2)), hd.1, by rw [Au.auOf_len]; exact h64, fun u => (hd.2 u).trans (by rw [hgd, ← hglg]), ?_⟩
   rw [Au.auOf_wide]
   show _ = AV.agg [_, .sl 1 ((SL.map (·.2)).map AV.bool)]
   rw [List.map_map]
   rfl
end WSets
end Go.Proofs.YtphlkdbglpcikaaGreatDoor
end
section
namespace Go.Proofs.YtphlkdbglpcikaaGreatDoor
open Go.Vl
open Y
namespace WClone
theorem c_CloneInt (es : List AV) (ho : ∀ e ∈ es, e.okc = true) (hl : es.length ≤ 1099511627776) : FnC Tryz.prog 43 [.sl 1 es] [] (fun r M => ∃ v, r = .lit v ∧ M = [.arr v 3 1 es]) :=  by
 refine FnC.mk Tryz.func43 (by kernel_rfl) rfl Tryz.ntmps43 rfl (fun w0 F => ?_)
 refine W.s ?_; refine W.r ?_; refine W.q (.assign .k) rfl ?_; refine W.n ?_; refine W.h ?_; refine W.s ?_; refine W.s ?_; refine W.r ?_; refine W.q (.move (.t rfl)) rfl ?_; refine W.slnil (.t rfl) Tryz.underlying22 rfl (fun q hq => ?_); refine W.n ?_; refine W.h ?_; refine W.cond (.t rfl) (fun hc_t4 => ?_) (fun hc_t4 => ?_)
 ·refine W.s ?_
  refine W.r (.q (.assign .k) rfl (.n ?_)); refine W.own_nil 3 1 ?_; refine W.h ?_; refine W.ret ?_; refine W.hr ?_; refine W.retn (M' := [.arr _ 3 1 _]) (rs := [.tmp 2]) (avs := [_]) Tryz.results43 ⟨rfl, trivial⟩ rfl (.refl _) ?_
  first | exact ⟨_, rfl, by rw [hq hc_t4]⟩ | exact ⟨_, rfl, rfl⟩
 ·refine W.k ?_
  refine W.h ?_; refine W.s ?_; refine W.r ?_; refine W.bso (es := []) Tryz.underlying22 ty3 trivial rfl (by decide) rfl rfl ?_; intro v5; refine W.q (.move (.t rfl)) rfl ?_
  first | refine W.app 0 (.t rfl) rfl (.sl (.t rfl) (ho)) Tryz.underlying22 ni22 ty3 rfl rfl (by simp; omega) rfl ?_ | refine W.app 1 (.t rfl) rfl (.sl (.t rfl) (ho)) Tryz.underlying22 ni22 ty3 rfl rfl (by simp; omega) rfl ?_ | refine W.app 2 (.t rfl) rfl (.sl (.t rfl) (ho)) Tryz.underlying22 ni22 ty3 rfl rfl (by simp; omega) rfl ?_ | refine W.app 3 (.t rfl) rfl (.sl (.t rfl) (ho)) Tryz.underlying22 ni22 ty3 rfl rfl (by simp; omega) rfl ?_ | refine W.app 0 (.t rfl) rfl (.arr 0 (.t rfl) rfl (ho)) Tryz.underlying22 ni22 ty3 rfl rfl (by simp; omega) rfl ?_ | refine W.app 0 (.t rfl) rfl (.arr 1 (.t rfl) rfl (ho)) Tryz.underlying22 ni22 ty3 rfl rfl (by simp; omega) rfl ?_ | refine W.app 0 (.t rfl) rfl (.arr 2 (.t rfl) rfl (ho)) Tryz.underlying22 ni22 ty3 rfl rfl (by simp; omega) rfl ?_ | refine W.app 0 (.t rfl) rfl (.arr 3 (.t rfl) rfl (ho)) Tryz.underlying22 ni22 ty3 rfl rfl (by simp; omega) rfl ?_ | refine W.app 1 (.t rfl) rfl (.arr 0 (.t rfl) rfl (ho)) Tryz.underlying22 ni22 ty3 rfl rfl (by simp; omega) rfl ?_ | refine W.app 1 (.t rfl) rfl (.arr 1 (.t rfl) rfl (ho)) Tryz.underlying22 ni22 ty3 rfl rfl (by simp; omega) rfl ?_ | refine W.app 1 (.t rfl) rfl (.arr 2 (.t rfl) rfl (ho)) Tryz.underlying22 ni22 ty3 rfl rfl (by simp; omega) rfl ?_ | refine W.app 1 (.t rfl) rfl (.arr 3 (.t rfl) rfl (ho)) Tryz.underlying22 ni22 ty3 rfl rfl (by simp; omega) rfl ?_ | refine W.app 2 (.t rfl) rfl (.arr 0 (.t rfl) rfl (ho)) Tryz.underlying22 ni22 ty3 rfl rfl (by simp; omega) rfl ?_ | refine W.app 2 (.t rfl) rfl (.arr 1 (.t rfl) rfl (ho)) Tryz.underlying22 ni22 ty3 rfl rfl (by simp; omega) rfl ?_ | refine W.app 2 (.t rfl) rfl (.arr 2 (.t rfl) rfl (ho)) Tryz.underlying22 ni22 ty3 rfl rfl (by simp; omega) rfl ?_ | refine W.app 2 (.t rfl) rfl (.arr 3 (.t rfl) rfl (ho)) Tryz.underlying22 ni22 ty3 rfl rfl (by simp; omega) rfl ?_ | refine W.app 3 (.t rfl) rfl (.arr 0 (.t rfl) rfl (ho)) Tryz.underlying22 ni22 ty3 rfl rfl (by simp; omega) rfl ?_ | refine W.app 3 (.t rfl) rfl (.arr 1 (.t rfl) rfl (ho)) Tryz.underlying22 ni22 ty3 rfl rfl (by simp; omega) rfl ?_ | refine W.app 3 (.t rfl) rfl (.arr 2 (.t rfl) rfl (ho)) Tryz.underlying22 ni22 ty3 rfl rfl (by simp; omega) rfl ?_ | refine W.app 3 (.t rfl) rfl (.arr 3 (.t rfl) rfl (ho)) Tryz.underlying22 ni22 ty3 rfl rfl (by simp; omega) rfl ?_
  intro v7; refine W.q (.assign (.t rfl)) rfl ?_; refine W.n ?_; refine W.h ?_; refine W.ret ?_; refine W.retn (M' := [.arr _ 3 1 _]) (rs := [.tmp 2]) (avs := [_]) Tryz.results43 ⟨rfl, trivial⟩ rfl (.refl _) ?_
  first | exact ⟨_, rfl, by rw [hq hc_t4]⟩ | exact ⟨_, rfl, rfl⟩
theorem c_CloneBool (es : List AV) (ho : ∀ e ∈ es, e.okc = true) (hl : es.length ≤ 1099511627776) : FnC Tryz.prog 127 [.sl 1 es] [] (fun r M => ∃ v, r = .lit v ∧ M = [.arr v 4 1 es]) :=  by
 refine FnC.mk Tryz.func127 (by kernel_rfl) rfl Tryz.ntmps127 rfl (fun w0 F => ?_)
 refine W.s ?_; refine W.r ?_; refine W.q (.assign .k) rfl ?_; refine W.n ?_; refine W.h ?_; refine W.s ?_; refine W.s ?_; refine W.r ?_; refine W.q (.move (.t rfl)) rfl ?_; refine W.slnil (.t rfl) Tryz.underlying60 rfl (fun q hq => ?_); refine W.n ?_; refine W.h ?_; refine W.cond (.t rfl) (fun hc_t4 => ?_) (fun hc_t4 => ?_)
 ·refine W.s ?_
  refine W.r (.q (.assign .k) rfl (.n ?_)); refine W.own_nil 4 1 ?_; refine W.h ?_; refine W.ret ?_; refine W.hr ?_; refine W.retn (M' := [.arr _ 4 1 _]) (rs := [.tmp 2]) (avs := [_]) Tryz.results127 ⟨rfl, trivial⟩ rfl (.refl _) ?_
  first | exact ⟨_, rfl, by rw [hq hc_t4]⟩ | exact ⟨_, rfl, rfl⟩
 ·refine W.k ?_
  refine W.h ?_; refine W.s ?_; refine W.r ?_; refine W.bso (es := []) Tryz.underlying60 ty4 trivial rfl (by decide) rfl rfl ?_; intro v5; refine W.q (.move (.t rfl)) rfl ?_
  first | refine W.app 0 (.t rfl) rfl (.sl (.t rfl) (ho)) Tryz.underlying60 ni60 ty4 rfl rfl (by simp; omega) rfl ?_ | refine W.app 1 (.t rfl) rfl (.sl (.t rfl) (ho)) Tryz.underlying60 ni60 ty4 rfl rfl (by simp; omega) rfl ?_ | refine W.app 2 (.t rfl) rfl (.sl (.t rfl) (ho)) Tryz.underlying60 ni60 ty4 rfl rfl (by simp; omega) rfl ?_ | refine W.app 3 (.t rfl) rfl (.sl (.t rfl) (ho)) Tryz.underlying60 ni60 ty4 rfl rfl (by simp; omega) rfl ?_ | refine W.app 0 (.t rfl) rfl (.arr 0 (.t rfl) rfl (ho)) Tryz.underlying60 ni60 ty4 rfl rfl (by simp; omega) rfl ?_ | refine W.app 0 (.t rfl) rfl (.arr 1 (.t rfl) rfl (ho)) Tryz.underlying60 ni60 ty4 rfl rfl (by simp; omega) rfl ?_ | refine W.app 0 (.t rfl) rfl (.arr 2 (.t rfl) rfl (ho)) Tryz.underlying60 ni60 ty4 rfl rfl (by simp; omega) rfl ?_ | refine W.app 0 (.t rfl) rfl (.arr 3 (.t rfl) rfl (ho)) Tryz.underlying60 ni60 ty4 rfl rfl (by simp; omega) rfl ?_ | refine W.app 1 (.t rfl) rfl (.arr 0 (.t rfl) rfl (ho)) Tryz.underlying60 ni60 ty4 rfl rfl (by simp; omega) rfl ?_ | refine W.app 1 (.t rfl) rfl (.arr 1 (.t rfl) rfl (ho)) Tryz.underlying60 ni60 ty4 rfl rfl (by simp; omega) rfl ?_ | refine W.app 1 (.t rfl) rfl (.arr 2 (.t rfl) rfl (ho)) Tryz.underlying60 ni60 ty4 rfl rfl (by simp; omega) rfl ?_ | refine W.app 1 (.t rfl) rfl (.arr 3 (.t rfl) rfl (ho)) Tryz.underlying60 ni60 ty4 rfl rfl (by simp; omega) rfl ?_ | refine W.app 2 (.t rfl) rfl (.arr 0 (.t rfl) rfl (ho)) Tryz.underlying60 ni60 ty4 rfl rfl (by simp; omega) rfl ?_ | refine W.app 2 (.t rfl) rfl (.arr 1 (.t rfl) rfl (ho)) Tryz.underlying60 ni60 ty4 rfl rfl (by simp; omega) rfl ?_ | refine W.app 2 (.t rfl) rfl (.arr 2 (.t rfl) rfl (ho)) Tryz.underlying60 ni60 ty4 rfl rfl (by simp; omega) rfl ?_ | refine W.app 2 (.t rfl) rfl (.arr 3 (.t rfl) rfl (ho)) Tryz.underlying60 ni60 ty4 rfl rfl (by simp; omega) rfl ?_ | refine W.app 3 (.t rfl) rfl (.arr 0 (.t rfl) rfl (ho)) Tryz.underlying60 ni60 ty4 rfl rfl (by simp; omega) rfl ?_ | refine W.app 3 (.t rfl) rfl (.arr 1 (.t rfl) rfl (ho)) Tryz.underlying60 ni60 ty4 rfl rfl (by simp; omega) rfl ?_ | refine W.app 3 (.t rfl) rfl (.arr 2 (.t rfl) rfl (ho)) Tryz.underlying60 ni60 ty4 rfl rfl (by simp; omega) rfl ?_ | refine W.app 3 (.t rfl) rfl (.arr 3 (.t rfl) rfl (ho)) Tryz.underlying60 ni60 ty4 rfl rfl (by simp; omega) rfl ?_
  intro v7; refine W.q (.assign (.t rfl)) rfl ?_; refine W.n ?_; refine W.h ?_; refine W.ret ?_; refine W.retn (M' := [.arr _ 4 1 _]) (rs := [.tmp 2]) (avs := [_]) Tryz.results127 ⟨rfl, trivial⟩ rfl (.refl _) ?_
  first | exact ⟨_, rfl, by rw [hq hc_t4]⟩ | exact ⟨_, rfl, rfl⟩
end WClone
end Go.Proofs.YtphlkdbglpcikaaGreatDoor
end
section
namespace Go.Proofs.YtphlkdbglpcikaaGreatDoor
open Go.Vl
open Y
namespace WLive
theorem c_live (w : Au) (hs : w.Shape) (hn : w.next.length ≤ 4096) : FnC Tryz.prog 110 [.agg [.sl 8 (w.next.map wrow), .sl 1 (w.final.map AV.bool)]] [] (fun r M => ∃ v f, r = .lit v ∧ M = [.arr v 4 1 (rowB w.next.length f)] ∧ ∀ k, k < w.next.length → (f k = true ↔ w.lives k)) :=  by
 refine FnC.mk Tryz.func110 (by kernel_rfl) rfl Tryz.ntmps110 rfl (fun w0 F => ?_)
 have hfin := hs.fin
 have hpos := hs.pos
 have hnl : (w.next.map wrow).length = w.next.length := List.length_map ..
 have hfl : (w.final.map AV.bool).length = w.final.length := List.length_map ..
 have hf0 : w.final.map AV.bool = rowB w.next.length (fun k => w.final.getD k false) := by rw [rowB_list, hfin]
 refine W.s ?_; refine W.r ?_; refine W.box (.t rfl) rfl rfl ?_; intro b1; refine W.q (.assign .k) rfl ?_; refine W.n ?_; refine W.h ?_; refine W.s ?_; refine W.r ?_
 refine W.q (.fab (.t rfl) fa99_1) rfl (.q (.ldb1 0 (.t rfl) rfl ag60 rfl) rfl ?_); refine W.call (WClone.c_CloneBool (w.final.map AV.bool) (by rw [hf0]; exact okc_rowB _ _) (by omega)) ⟨(.t rfl), trivial⟩ (.refl _) rfl ?_
 rintro _ _ ⟨v11, rfl, rfl⟩
 refine W.asg rfl rfl (.n (.h (.s (.s (.r (.q (.assign .k) rfl (.n (.h (.b ?_))))))))); refine W.loop (D := []) (ι := (Nat → Bool) × Bool) (fun z => [(4, true, .lit (.bool z.2)), (3, true, .lit v11), (1, true, .lit (.pointer (some ⟨b1, 0, none⟩)))]) (fun z => [.arr v11 4 1 (rowB w.next.length z.1), .box b1 99 [.sl 8 (w.next.map wrow), .sl 1 (w.final.map AV.bool)]]) (fun z => (z.2 = true → Au.Lv w z.1 z.1 false 0 0) ∧ (z.2 = false → ∃ f0, Au.Lv w f0 z.1 false w.next.length 0)) (fun z => 2 * outs w.next.length z.1 + (if z.2 = true then 1 else 0)) (fun k => w.final.getD k false, true) ⟨rfl, rfl, rfl, trivial⟩ (by dsimp only; rw [← hf0]; exact .refl _) ⟨fun _ => Au.Lv.start, fun h => by cases h⟩ ?_
 rintro ⟨f1, m0⟩ ⟨h1, h2⟩
 dsimp only at h1 h2 ⊢
 refine W.s ?_; refine W.s ?_; refine W.r ?_; refine W.q (.move (.t rfl)) rfl ?_; refine W.n ?_; refine W.h ?_; refine W.cond (.t rfl) (fun hc_t12 => ?_) (fun hc_t12 => ?_)
 ·have hm1 : m0 = true := hc_t12
  subst hm1
  have hL0 := h1 rfl
  clear h1 h2
  refine W.k (.h (.b (.s (.r (.q (.assign .k) rfl (.n (.h (.s (.r (.q (.fab (.t rfl) fa99_0) rfl (.q (.ldb1 1 (.t rfl) rfl ag97 rfl) rfl (.q (.lensl (.t rfl) Tryz.underlying97) rfl (.q (.move .k) rfl (.n (.h (.b ?_)))))))))))))))); refine W.loop (D := []) (ι := Nat × (Nat → Bool) × Bool) (fun z => [(16, true, .int (z.1 : Int)), (15, true, .int ((w.next.map wrow).length : Int)), (14, true, .sl 8 (w.next.map wrow)), (4, true, .lit (.bool z.2.2)), (3, true, .lit v11), (1, true, .lit (.pointer (some ⟨b1, 0, none⟩)))]) (fun z => [.arr v11 4 1 (rowB w.next.length z.2.1), .box b1 99 [.sl 8 (w.next.map wrow), .sl 1 (w.final.map AV.bool)]]) (fun z => Au.Lv w f1 z.2.1 z.2.2 z.1 0 ∧ z.1 ≤ w.next.length) (fun z => w.next.length - z.1) (0, f1, false) ⟨rfl, rfl, rfl, rfl, rfl, rfl, trivial⟩ (.refl _) ⟨hL0, Nat.zero_le _⟩ ?_
  rintro ⟨i, f, m⟩ ⟨hL, hi⟩
  dsimp only at hL hi ⊢
  rcases (show i < w.next.length ∨ i = w.next.length from by omega) with hi | hend
  ·have hga := wrow_get hs hi
   refine W.s (.r (.q (.lti (.t rfl) (.t rfl)) rfl (.n (.h (.s ?_))))); refine W.isb 17 true rfl (by exact decide_eq_true (by omega)) ?_; refine W.condT (.t rfl) (.k (.h (.s (.b (.s (.r (.mv rfl rfl ?_))))))); refine W.q (.at (E := 147) (.t rfl) (.t rfl) Tryz.underlying97 ty147 (fun _ => ⟨by omega, hga⟩) rfl rfl) rfl ?_; refine W.q (.lden (.t rfl) ag147 ty147 rfl rfl) rfl ?_
   refine W.alloc ty147 rfl rfl ?_; intro b6; refine W.q (.assign (.t rfl)) rfl ?_
   refine W.stb 0 (.t rfl) (.t rfl) rfl ty147 rfl rfl rfl (.n (.h (.s (.r (.q (.ldbn 0 (.t rfl) rfl ag147 ty147 rfl) rfl ?_))))); refine W.is (t := 21) (av' := r8av (fun c => w.to (i : Int) (c : Int))) rfl rfl ?_; refine W.q (.move .k) rfl (.n (.h (.b ?_))); refine W.loop (D := [.box b6 147 _]) (ι := Nat × (Nat → Bool) × Bool) (fun z => [(22, true, .int (z.1 : Int)), (21, true, r8av (fun c => w.to (i : Int) (c : Int))), (5, true, .int (i : Int)), (16, true, .int (i : Int)), (15, true, .int ((w.next.map wrow).length : Int)), (14, true, .sl 8 (w.next.map wrow)), (4, true, .lit (.bool z.2.2)), (3, true, .lit v11), (1, true, .lit (.pointer (some ⟨b1, 0, none⟩)))]) (fun z => [.arr v11 4 1 (rowB w.next.length z.2.1), .box b1 99 [.sl 8 (w.next.map wrow), .sl 1 (w.final.map AV.bool)]]) (fun z => Au.Lv w f1 z.2.1 z.2.2 i z.1 ∧ z.1 ≤ 8) (fun z => 8 - z.1) (0, f, m) ⟨rfl, rfl, rfl, rfl, rfl, rfl, rfl, rfl, rfl, trivial⟩ (List.perm_append_comm (l₁ := [_])) ⟨hL, Nat.zero_le _⟩ ?_
   clear hL f m
   rintro ⟨d, f, m⟩ ⟨hL, hd⟩
   dsimp only at hL hd ⊢
   rcases (show d < 8 ∨ d = 8 from by omega) with hd8 | hend
   ·have hto := Au.to_range hs (i := (i : Int)) (c := (d : Int)) (by omega) (by omega) (by omega) (by omega)
    refine W.s ?_; refine W.r ?_; refine W.q (.lti (.t rfl) .k) rfl ?_; refine W.n ?_; refine W.h ?_; refine W.s ?_; refine W.isb 23 true rfl (by exact decide_eq_true (by omega)) ?_; refine W.condT (.t rfl) ?_; refine W.k ?_; refine W.h ?_; refine W.s ?_; refine W.b ?_; refine W.s ?_; refine W.r ?_; refine W.q (.arrat (.t rfl) (.t rfl) Tryz.underlying147 Tryz.underlying3 (fun _ => ⟨by omega, by omega, row8_get _ d hd8⟩) ty3) rfl ?_; refine W.q (.assign (.t rfl)) rfl ?_; refine W.n ?_; refine W.h ?_; refine W.s ?_; refine W.r ?_; refine W.q (.move (.t rfl)) rfl ?_; refine W.q (.gei (.t rfl) .k) rfl ?_; refine W.q (.move (.t rfl)) rfl ?_; refine W.qgT rfl rfl (.move (.t rfl)) rfl ?_; refine W.qgT rfl rfl (.move (.t rfl)) rfl ?_; refine W.qgT rfl rfl (.ata 0 (.c rfl) rfl (.c rfl) Tryz.underlying60 ty4 (fun hg => ⟨of_decide_eq_true hg, by rw [rowB_len]; omega⟩)) rfl ?_; refine W.qgT rfl rfl (.lda1 0 (w.to (i : Int) (d : Int)).toNat 0 (.c rfl) rfl (rowB_at _ f (w.to (i : Int) (d : Int)).toNat (by omega)) (by omega) rfl rfl rfl ag4) rfl ?_; refine W.q (.and (.t rfl) ⟨_, _, rfl, rfl, by ((simp; done))⟩) rfl ?_; refine W.q (.move (.t rfl)) rfl ?_; refine W.qgT rfl rfl (.move (.t rfl)) rfl ?_; refine W.qgT rfl rfl (.move (.t rfl)) rfl ?_; refine W.qgT rfl rfl (.ata 0 (.c rfl) rfl (.c rfl) Tryz.underlying60 ty4 (fun hg => by rw [rowB_len]; omega)) rfl ?_; refine W.qgT rfl rfl (.lda1 0 i 0 (.c rfl) rfl (rowB_at _ f i hi) (by omega) rfl rfl rfl ag4) rfl ?_; refine W.qgT rfl rfl (.not (.c rfl)) rfl ?_; refine W.q (.and (.t rfl) ⟨_, _, rfl, rfl, by ((simp; done))⟩) rfl ?_; refine W.n ?_; refine W.h ?_; refine W.cond (.t rfl) (fun hc_t39 => ?_) (fun hc_t39 => ?_)
    ·obtain ⟨⟨ht1, ht2⟩, ht3⟩ : (0 ≤ w.to (i : Int) (d : Int) ∧ f (w.to (i : Int) (d : Int)).toNat = true) ∧ (!f i) = true := by simpa only [Bool.and_eq_true, decide_eq_true_eq] using hc_t39
     refine W.r (.mv rfl rfl (.mv rfl rfl ?_)); refine W.q (.ata 0 (.t rfl) rfl (.t rfl) Tryz.underlying60 ty4 (fun hg => by rw [rowB_len]; omega)) rfl ?_; refine W.sta 0 i 0 (e := AV.bool (f i)) (e' := AV.bool true) (.t rfl) .k rfl (rowB_at _ f i hi) (by omega) ty4 rfl rfl rfl rfl rfl rfl rfl ?_; refine W.q (.assign .k) rfl (.n (.bn (.h (.r (.q (.add (.t rfl) .k (fun _ => by omega)) rfl ?_)))))
     refine W.q (.move (.t rfl)) rfl ?_; refine W.n ?_; refine W.h ?_; refine W.reach (D := []) (d + 1, (fun k => if k = i then true else f k), true) ⟨rfl, rfl, rfl, rfl, rfl, rfl, rfl, rfl, rfl, trivial⟩ ?_ ⟨⟨hL.set hi hd8 (t := (w.to (i : Int) (d : Int)).toNat) (by omega) (by omega) ht2 (by simpa using ht3), hd8⟩, by show 8 - (d + 1) < 8 - d; omega⟩
     dsimp only
     rw [← rowB_set]
     exact .refl _
    ·have hns : ∀ t : Nat, w.to (i : Int) (d : Int) = (t : Int) → f t = true → f i = true := by
      intro t ht hft
      cases hfi : f i with
      | true => rfl
      | false => exact absurd hc_t39 (by rw [ht, Int.toNat_natCast, hft, hfi]; simp)
     refine W.k (.bn (.h (.r (.q (.add (.t rfl) .k (fun _ => by omega)) rfl ?_))))
     refine W.q (.move (.t rfl)) rfl ?_; refine W.n ?_; refine W.h ?_; refine W.reach (D := []) (d + 1, f, m) ⟨rfl, rfl, rfl, rfl, rfl, rfl, rfl, rfl, rfl, trivial⟩ (.refl _) ⟨⟨hL.skip hns, hd8⟩, by show 8 - (d + 1) < 8 - d; omega⟩
   ·subst hend
    refine W.s (.r (.q (.lti (.t rfl) .k) rfl (.n (.h (.s (.isb 23 false rfl (by rfl) (.condF (.t rfl) (.ex (.he (.he (.bh (.bn (.h (.r (.q (.add (.t rfl) .k (fun _ => by omega)) rfl ?_)))))))))))))))
    refine W.q (.move (.t rfl)) rfl ?_; refine W.n ?_; refine W.h ?_; refine W.reach (D := []) (i + 1, f, m) ⟨rfl, rfl, rfl, rfl, rfl, rfl, trivial⟩ (.refl _) ⟨⟨hL.row, hi⟩, by show w.next.length - (i + 1) < w.next.length - i; omega⟩
  ·subst hend
   refine W.s ?_; refine W.r ?_; refine W.q (.lti (.t rfl) (.t rfl)) rfl ?_; refine W.n ?_; refine W.h ?_; refine W.s ?_; refine W.isb 17 false rfl (by exact decide_eq_false (by omega)) ?_; refine W.condF (.t rfl) ?_; refine W.ex ?_; refine W.he ?_; refine W.he ?_; refine W.bh ?_; refine W.bn ?_; refine W.h ?_; refine W.reach (D := []) (f, m) ⟨rfl, rfl, rfl, trivial⟩ (.refl _) ⟨⟨fun _ => hL.again, fun hm => ⟨f1, hm ▸ hL⟩⟩, ?_⟩
   dsimp only
   cases m with
   | true => have := hL.less rfl; simp; omega
   | false =>
    have : outs w.next.length f = outs w.next.length f1 := outs_congr (hL.still rfl).1
    simp; omega
 ·have hm1 : m0 = false := hc_t12
  subst hm1
  obtain ⟨fz, hL⟩ := h2 rfl
  refine W.ex (.he (.he (.bh (.h (.s (.r (.mv rfl rfl (.asg rfl rfl (.n (.h ?_)))))))))); refine W.ret ?_; refine W.retn (M' := [_]) (D := _) (rs := [.tmp 2]) (avs := [_]) Tryz.results110 ⟨rfl, trivial⟩ rfl (.refl _) ?_
  exact ⟨_, _, rfl, rfl, hL.done hs⟩
end WLive
end Go.Proofs.YtphlkdbglpcikaaGreatDoor
end
section
namespace Go.Proofs.YtphlkdbglpcikaaGreatDoor
open Go.Vl
open Y
namespace WClasses
theorem c_classes (w : Au) (hs : w.Shape) (hn : w.next.length ≤ 100) (M0 : List ME) (hI : ∀ n : Int, -1 ≤ n → n < 100 → FnC Tryz.prog 107 [.int n] M0 (fun r M => r = .str (itoa n) ∧ M = M0)) : FnC Tryz.prog 76 [.agg [.sl 8 (w.next.map wrow), .sl 1 (w.final.map AV.bool)]] M0 (fun r M => ∃ v cl, r = .lit v ∧ M = .arr v 3 1 (rowI w.next.length cl) :: M0 ∧ w.Cls cl ∧ ∀ k, k < w.next.length → -1 ≤ cl k ∧ cl k < 100) :=  by
 refine FnC.mk Tryz.func76 (by kernel_rfl) rfl Tryz.ntmps76 rfl (fun w0 F => ?_)
 have hfin := hs.fin
 have hpos := hs.pos
 have hnl : (w.next.map wrow).length = w.next.length := List.length_map ..
 have hfl : (w.final.map AV.bool).length = w.final.length := List.length_map ..
 refine W.s ?_; refine W.r ?_; refine W.box (.t rfl) rfl rfl ?_; intro b1; refine W.q (.assign .k) rfl ?_; refine W.n ?_; refine W.h ?_; refine W.s ?_; refine W.r ?_
 refine W.q (.ldbn 0 (.t rfl) rfl ag99 ty99 rfl) rfl ?_; refine W.call (WLive.c_live w hs (by omega)) ⟨(.t rfl), trivial⟩ (.refl _) rfl ?_
 rintro _ _ ⟨v19, f, rfl, rfl, hf⟩
 refine W.asg rfl rfl (.n (.h (.s (.r (.q (.fab (.t rfl) fa99_0) rfl (.q (.ldb1 1 (.t rfl) rfl ag97 rfl) rfl (.q (.lensl (.t rfl) Tryz.underlying97) rfl ?_)))))))
 refine W.mk (.t rfl) (.t rfl) Tryz.underlying22 ty3 rfl rfl rfl rfl rfl (by omega) rfl ?_; intro v23; refine W.q (.assign (.t rfl)) rfl ?_; refine W.n ?_; refine W.h ?_; refine W.s ?_; refine W.s ?_; refine W.r ?_; refine W.q (.move (.t rfl)) rfl ?_
 refine W.q (.lenar (i := 0) (.t rfl) rfl Tryz.underlying22) rfl ?_
 refine W.q (.move .k) rfl ?_; refine W.n ?_; refine W.h ?_; refine W.b ?_; refine W.loop (D := []) (ι := Nat) (fun i => [(26, true, .int (i : Int)), (25, true, .int ((List.replicate (w.next.map wrow).length (AV.int 0)).length : Int)), (3, true, .lit v19), (4, true, .lit v23), (1, true, .lit (.pointer (some ⟨b1, 0, none⟩)))]) (fun i => .arr v23 3 1 (rowI w.next.length (clsI w f i)) :: .arr v19 4 1 (rowB w.next.length f) :: .box b1 99 [.sl 8 (w.next.map wrow), .sl 1 (w.final.map AV.bool)] :: M0) (fun i => i ≤ w.next.length) (fun i => w.next.length - i) 0 ⟨rfl, rfl, rfl, rfl, rfl, trivial⟩ (by rw [List.append_nil]; (try dsimp only); rw [← clsI_start, hnl]; exact .refl _) (Nat.zero_le _) ?_; intro i hi
 dsimp only at hi ⊢
 have hrl : (List.replicate (w.next.map wrow).length (AV.int 0)).length = w.next.length := by rw [List.length_replicate, hnl]
 rcases (show i < w.next.length ∨ i = w.next.length from by omega) with hi | hend
 ·skip
  refine W.s ?_; refine W.r ?_; refine W.q (.lti (.t rfl) (.t rfl)) rfl ?_; refine W.n ?_; refine W.h ?_; refine W.s ?_; refine W.isb 27 true rfl (by exact decide_eq_true (by omega)) ?_; refine W.condT (.t rfl) ?_; refine W.k ?_; refine W.h ?_; refine W.s ?_; refine W.b ?_; refine W.s ?_; refine W.r ?_; refine W.q (.move (.t rfl)) rfl ?_; refine W.q (.assign (.t rfl)) rfl ?_; refine W.n ?_; refine W.h ?_; refine W.b ?_; refine W.s ?_; refine W.r ?_; refine W.q (.move (.t rfl)) rfl ?_; refine W.q (.move (.t rfl)) rfl ?_; refine W.q (.ata 1 (.t rfl) rfl (.t rfl) Tryz.underlying60 ty4 (fun _ => by ((rw [rowB_len]; omega)))) rfl ?_; refine W.q (.lda1 1 i 0 (.t rfl) rfl (rowB_at _ f i hi) (by omega) rfl rfl rfl ag4) rfl ?_; refine W.q (.not (.t rfl)) rfl ?_; refine W.q (.assign (.t rfl)) rfl ?_; refine W.n ?_; refine W.h ?_; refine W.cond (.t rfl) (fun hc_t29 => ?_) (fun hc_t29 => ?_)
  ·have h29 : f i = false := by simpa using hc_t29
   have hx : Au.cls0 w f i = -1 := by unfold Au.cls0; rw [if_neg (by rw [h29]; decide)]
   refine W.r (.mv rfl rfl (.mv rfl rfl ?_)); refine W.q (.ata 0 (.t rfl) rfl (.t rfl) Tryz.underlying22 ty3 (fun _ => by ((rw [rowI_len]; omega)))) rfl ?_; refine W.sta 0 i 0 (e := AV.int (clsI w f i i)) (e' := AV.int (-1)) (.t rfl) .k rfl (rowI_get hi) (by omega) ty3 rfl rfl rfl rfl rfl rfl rfl ?_; refine W.n (.bn (.bn (.h (.r (.q (.add (.t rfl) .k (fun _ => by omega)) rfl ?_)))))
   refine W.q (.move (.t rfl)) rfl ?_; refine W.n ?_; refine W.h ?_; refine W.reach (D := []) (i + 1) ⟨rfl, rfl, rfl, rfl, rfl, trivial⟩ (by rw [List.append_nil]; (try dsimp only); rw [← clsI_set w.next.length i hx]; exact .refl _) ⟨hi, by show w.next.length - (i + 1) < w.next.length - i; omega⟩
  ·have h29 : f i = true := by simpa using hc_t29
   have hgf := getD_mapG AV.bool false w.final i (by omega)
   refine W.s (.r (.q (.fab (.t rfl) fa99_1) rfl (.q (.ldb1 2 (.t rfl) rfl ag60 rfl) rfl (.mv rfl rfl ?_)))); refine W.q (.at (E := 4) (.t rfl) (.t rfl) Tryz.underlying60 ty4 (fun _ => ⟨by omega, hgf⟩) rfl rfl) rfl ?_; refine W.q (.lde1 (.t rfl) ag4) rfl ?_
   refine W.q (.assign (.t rfl)) rfl ?_; refine W.n ?_; refine W.h ?_; refine W.cond (.t rfl) (fun hc_t38 => ?_) (fun hc_t38 => ?_)
   ·have hx : Au.cls0 w f i = 1 := by unfold Au.cls0; rw [if_pos h29, if_pos hc_t38]
    refine W.r (.mv rfl rfl (.mv rfl rfl ?_)); refine W.q (.ata 0 (.t rfl) rfl (.t rfl) Tryz.underlying22 ty3 (fun _ => by ((rw [rowI_len]; omega)))) rfl ?_; refine W.sta 0 i 0 (e := AV.int (clsI w f i i)) (e' := AV.int (1)) (.t rfl) .k rfl (rowI_get hi) (by omega) ty3 rfl rfl rfl rfl rfl rfl rfl ?_; refine W.n (.bn (.bn (.h (.r (.q (.add (.t rfl) .k (fun _ => by omega)) rfl ?_)))))
    refine W.q (.move (.t rfl)) rfl ?_; refine W.n ?_; refine W.h ?_; refine W.reach (D := []) (i + 1) ⟨rfl, rfl, rfl, rfl, rfl, trivial⟩ (by rw [List.append_nil]; (try dsimp only); rw [← clsI_set w.next.length i hx]; exact .refl _) ⟨hi, by show w.next.length - (i + 1) < w.next.length - i; omega⟩
   ·have hx : Au.cls0 w f i = 0 := by unfold Au.cls0; rw [if_pos h29, if_neg (by rw [hc_t38]; decide)]
    refine W.k (.bn (.bn (.h (.r (.q (.add (.t rfl) .k (fun _ => by omega)) rfl ?_)))))
    refine W.q (.move (.t rfl)) rfl ?_; refine W.n ?_; refine W.h ?_; refine W.reach (D := []) (i + 1) ⟨rfl, rfl, rfl, rfl, rfl, trivial⟩ (by rw [List.append_nil]; (try dsimp only); rw [← clsI_zero w.next.length i hx]) ⟨hi, by show w.next.length - (i + 1) < w.next.length - i; omega⟩
 ·subst hend
  rw [clsI_done]
  refine W.s (.r (.q (.lti (.t rfl) (.t rfl)) rfl (.n (.h (.s ?_))))); refine W.isb 27 false rfl (by exact decide_eq_false (by omega)) ?_; refine W.condF (.t rfl) (.ex (.he (.he (.bh (.h (.s (.r (.q (.assign .k) rfl (.n (.h (.b ?_))))))))))); refine W.loop (D := [.arr v19 4 1 (rowB w.next.length f)]) (ι := Nat × Value × (Nat → Int)) (fun z => [(6, true, .int (z.1 : Int)), (4, true, .lit z.2.1), (1, true, .lit (.pointer (some ⟨b1, 0, none⟩)))]) (fun z => .arr z.2.1 3 1 (rowI w.next.length z.2.2) :: .box b1 99 [.sl 8 (w.next.map wrow), .sl 1 (w.final.map AV.bool)] :: M0) (fun z => w.Moore z.2.2 z.1 ∧ ∀ k, k < w.next.length → -1 ≤ z.2.2 k ∧ z.2.2 k < 100) (fun z => w.next.length + 1 - z.1) (0, v23, Au.cls0 w f) ⟨rfl, rfl, rfl, trivial⟩ (by dsimp only; exact List.Perm.cons _ (List.perm_append_comm (l₁ := [_]))) ⟨Au.Moore.start hf, fun k _ => Au.cls0_rng w f k⟩ ?_
  rintro ⟨many, vo, out⟩ ⟨hM, hrg⟩
  dsimp only at hM hrg ⊢
  refine W.b ?_; refine W.s ?_; refine W.r ?_; refine W.mkmap rfl ?_; intro b48; refine W.q (.assign (.t rfl)) rfl ?_; refine W.n ?_; refine W.h ?_; refine W.s ?_; refine W.r ?_; refine W.q (.move (.t rfl)) rfl ?_
  refine W.q (.lenar (i := 1) (.t rfl) rfl Tryz.underlying22) rfl ?_
  refine W.is (t := 50) (av' := .int (w.next.length : Int)) rfl (by rw [rowI_len]) ?_; refine W.mk (.t rfl) (.t rfl) Tryz.underlying22 ty3 rfl rfl rfl rfl rfl (by omega) rfl ?_; intro v51; refine W.q (.assign (.t rfl)) rfl ?_; refine W.n ?_; refine W.h ?_; refine W.s ?_; refine W.s ?_; refine W.r ?_
  refine W.q (.fab (.t rfl) fa99_0) rfl (.q (.ldb1 3 (.t rfl) rfl ag97 rfl) rfl (.q (.lensl (.t rfl) Tryz.underlying97) rfl (.q (.move .k) rfl (.n (.h (.b ?_)))))); refine W.loop (D := []) (ι := Nat × List (List Int) × (Nat → Int)) (fun z => [(55, true, .int (z.1 : Int)), (54, true, .int ((w.next.map wrow).length : Int)), (53, true, .sl 8 (w.next.map wrow)), (7, true, .lit (.map (some b48))), (8, true, .lit v51), (6, true, .int (many : Int)), (4, true, .lit vo), (1, true, .lit (.pointer (some ⟨b1, 0, none⟩)))]) (fun z => .arr v51 3 1 (rowI w.next.length z.2.2) :: .obj b48 (mObj (((z.2.1).map keyL).map fun s : List UInt8 => Value.string ⟨s.toArray⟩)) :: .arr vo 3 1 (rowI w.next.length out) :: .box b1 99 [.sl 8 (w.next.map wrow), .sl 1 (w.final.map AV.bool)] :: M0) (fun z => Au.Dv w out z.2.1 z.2.2 z.1 ∧ z.1 ≤ w.next.length) (fun z => w.next.length - z.1) (0, [], fun _ => 0) ⟨rfl, rfl, rfl, rfl, rfl, rfl, rfl, rfl, trivial⟩ (by rw [List.append_nil]; (try dsimp only); rw [← rowI_rep]; exact .refl _) ⟨Au.Dv.start _, Nat.zero_le _⟩ ?_
  rintro ⟨i, K, next⟩ ⟨hD, hi⟩
  dsimp only at hD hi ⊢
  have hKl := hD.len
  rcases (show i < w.next.length ∨ i = w.next.length from by omega) with hi | hend
  ·have hga := wrow_get hs hi
   have hplc := hD.plc hrg hs hi
   have hsml := Au.lst_sml hrg hs hi
   refine W.s (.r (.q (.lti (.t rfl) (.t rfl)) rfl (.n (.h (.s ?_))))); refine W.isb 56 true rfl (by exact decide_eq_true (by omega)) ?_; refine W.condT (.t rfl) (.k (.h (.s (.b (.s (.r (.mv rfl rfl ?_))))))); refine W.q (.at (E := 147) (.t rfl) (.t rfl) Tryz.underlying97 ty147 (fun _ => ⟨by omega, hga⟩) rfl rfl) rfl ?_; refine W.q (.lden (.t rfl) ag147 ty147 rfl rfl) rfl ?_
   refine W.alloc ty147 rfl rfl ?_; intro b10; refine W.q (.assign (.t rfl)) rfl ?_
   refine W.stb 0 (.t rfl) (.t rfl) rfl ty147 rfl rfl rfl ?_
   refine W.n ?_; refine W.h ?_; refine W.s ?_; refine W.s ?_; refine W.r ?_; refine W.q (.move (.t rfl)) rfl ?_; refine W.q (.move (.t rfl)) rfl ?_; refine W.q (.ata 3 (.t rfl) rfl (.t rfl) Tryz.underlying22 ty3 (fun _ => by ((rw [rowI_len]; omega)))) rfl ?_; refine W.q (.lda1 3 i 0 (.t rfl) rfl (rowI_get hi) (by omega) rfl rfl rfl ag3) rfl ?_; refine W.q (.lti (.t rfl) .k) rfl ?_; refine W.n ?_; refine W.h ?_; refine W.cond (.t rfl) (fun hc_t64 => ?_) (fun hc_t64 => ?_)
   ·have ho : out i < 0 := of_decide_eq_true hc_t64
    refine W.s (.r (.mv rfl rfl (.mv rfl rfl ?_))); refine W.q (.ata 1 (.t rfl) rfl (.t rfl) Tryz.underlying22 ty3 (fun _ => by ((rw [rowI_len]; omega)))) rfl ?_; refine W.sta 1 i 0 (e := AV.int (next i)) (e' := AV.int (-1)) (.t rfl) .k rfl (rowI_get hi) (by omega) ty3 rfl rfl rfl rfl rfl rfl rfl ?_; refine W.n (.h (.ex (.he (.bh (.h (.r (.q (.add (.t rfl) .k (fun _ => by omega)) rfl ?_)))))))
    refine W.q (.move (.t rfl)) rfl ?_; refine W.n ?_; refine W.h ?_; refine W.reach (D := [.box b10 147 (row8 (fun c => w.to (i : Int) (c : Int)))] ) (i + 1, K, (fun k => if k = i then -1 else next k)) ⟨rfl, rfl, rfl, rfl, rfl, rfl, rfl, rfl, trivial⟩ ?_ ⟨⟨hD.none ho, hi⟩, by show w.next.length - (i + 1) < w.next.length - i; omega⟩
    dsimp only
    rw [← rowI_set]
    exact List.perm_append_comm (l₁ := [_])
   ·have ho : 0 ≤ out i := Int.not_lt.1 (of_decide_eq_false hc_t64)
    refine W.k ?_; refine W.h ?_; refine W.s ?_; refine W.r ?_; refine W.q (.move (.t rfl)) rfl ?_; refine W.q (.move (.t rfl)) rfl ?_; refine W.q (.ata 3 (.t rfl) rfl (.t rfl) Tryz.underlying22 ty3 (fun _ => by ((rw [rowI_len]; omega)))) rfl ?_; refine W.q (.lda1 3 i 0 (.t rfl) rfl (rowI_get hi) (by omega) rfl rfl rfl ag3) rfl ?_; refine W.bso (es := [_]) Tryz.underlying22 ty3 ⟨rfl, (.t rfl), rfl, rfl, trivial⟩ rfl (by decide) rfl rfl ?_; intro v72; refine W.q (.assign (.t rfl)) rfl ?_; refine W.n ?_; refine W.h ?_; refine W.s ?_; refine W.s ?_; refine W.r ?_
    refine W.q (.ldbn 1 (.t rfl) rfl ag147 ty147 rfl) rfl ?_; refine W.is (t := 73) (av' := r8av (fun c => w.to (i : Int) (c : Int))) rfl rfl ?_; refine W.q (.move .k) rfl (.n (.h (.b ?_))); refine W.loop (D := [.box b10 147 (row8 (fun c => w.to (i : Int) (c : Int)))]) (ι := Nat × Value) (fun z => [(74, true, .int (z.1 : Int)), (73, true, r8av (fun c => w.to (i : Int) (c : Int))), (9, true, .int (i : Int)), (11, true, .lit z.2), (55, true, .int (i : Int)), (54, true, .int ((w.next.map wrow).length : Int)), (53, true, .sl 8 (w.next.map wrow)), (7, true, .lit (.map (some b48))), (8, true, .lit v51), (6, true, .int (many : Int)), (4, true, .lit vo), (1, true, .lit (.pointer (some ⟨b1, 0, none⟩)))]) (fun z => .arr z.2 3 1 (((Au.lst w out i).take (z.1 + 1)).map AV.int) :: .arr v51 3 1 (rowI w.next.length next) :: .obj b48 (mObj (((K).map keyL).map fun s : List UInt8 => Value.string ⟨s.toArray⟩)) :: .arr vo 3 1 (rowI w.next.length out) :: .box b1 99 [.sl 8 (w.next.map wrow), .sl 1 (w.final.map AV.bool)] :: M0) (fun z => z.1 ≤ 8) (fun z => 8 - z.1) (0, v72) ⟨rfl, rfl, rfl, rfl, rfl, rfl, rfl, rfl, rfl, rfl, rfl, rfl, trivial⟩ (List.Perm.cons _ (List.perm_append_comm (l₁ := [_]))) (Nat.zero_le _) ?_
    rintro ⟨d, v11⟩ hd
    dsimp only at hd ⊢
    rcases (show d < 8 ∨ d = 8 from by omega) with hd8 | hend
    ·have hto := Au.to_range hs (i := (i : Int)) (c := (d : Int)) (by omega) (by omega) (by omega) (by omega)
     have hsn := Au.lst_snoc w out i d hd8
     refine W.s ?_; refine W.r ?_; refine W.q (.lti (.t rfl) .k) rfl ?_; refine W.n ?_; refine W.h ?_; refine W.s ?_; refine W.isb 75 true rfl (by exact decide_eq_true (by omega)) ?_; refine W.condT (.t rfl) ?_; refine W.k ?_; refine W.h ?_; refine W.s ?_; refine W.b ?_; refine W.s ?_; refine W.r ?_; refine W.q (.arrat (.t rfl) (.t rfl) Tryz.underlying147 Tryz.underlying3 (fun _ => ⟨by omega, by omega, row8_get _ d hd8⟩) ty3) rfl ?_; refine W.q (.assign (.t rfl)) rfl ?_; refine W.n ?_; refine W.h ?_; refine W.s ?_; refine W.r ?_; refine W.q (.assign .k) rfl ?_; refine W.n ?_; refine W.h ?_; refine W.s ?_; refine W.s ?_; refine W.r ?_; refine W.q (.move (.t rfl)) rfl ?_; refine W.q (.gei (.t rfl) .k) rfl ?_; refine W.n ?_; refine W.h ?_; refine W.cond (.t rfl) (fun hc_t78 => ?_) (fun hc_t78 => ?_)
     ·have h78 : 0 ≤ w.to (i : Int) (d : Int) := of_decide_eq_true hc_t78
      have hcx : w.cto out i d = out (w.to (i : Int) (d : Int)).toNat := by unfold Au.cto; rw [if_pos h78]
      refine W.r (.mv rfl rfl (.mv rfl rfl ?_)); refine W.q (.ata 3 (.t rfl) rfl (.t rfl) Tryz.underlying22 ty3 (fun _ => by rw [rowI_len]; omega)) rfl ?_; refine W.q (.lda1 3 (w.to (i : Int) (d : Int)).toNat 0 (.t rfl) rfl (rowI_get (by omega)) (by omega) rfl rfl rfl ag3) rfl (.asg rfl rfl (.n (.h (.r (.mv rfl rfl (.mv rfl rfl ?_)))))); refine W.bs (es := [_]) Tryz.underlying22 ty3 ⟨rfl, (.t rfl), rfl, rfl, trivial⟩ rfl (by decide) rfl rfl ?_; refine W.app 0 (.t rfl) rfl (.sl (.t rfl) (by intro e he; rw [List.mem_singleton.1 he]; rfl)) Tryz.underlying22 ni22 ty3 rfl rfl (by rw [List.length_map, List.length_take]; simp only [List.length_cons, List.length_nil]; omega) rfl ?_
      intro v86; refine W.q (.assign (.t rfl)) rfl ?_; refine W.n ?_; refine W.bn ?_; refine W.h ?_; refine W.r ?_
      refine W.q (.add (.t rfl) .k (fun _ => by omega)) rfl ?_
      refine W.q (.move (.t rfl)) rfl ?_; refine W.n ?_; refine W.h ?_; refine W.reach (D := []) (d + 1, _) ⟨rfl, rfl, rfl, rfl, rfl, rfl, rfl, rfl, rfl, rfl, rfl, rfl, trivial⟩ (by rw [List.append_nil]; (try dsimp only); rw [hsn, List.map_append, hcx]; exact .refl _) ⟨hd8, by show 8 - (d + 1) < 8 - d; omega⟩
     ·have h78 : ¬ 0 ≤ w.to (i : Int) (d : Int) := of_decide_eq_false hc_t78
      have hcx : w.cto out i d = -1 := by unfold Au.cto; rw [if_neg h78]
      refine W.k (.h (.r (.mv rfl rfl (.mv rfl rfl ?_)))); refine W.bs (es := [_]) Tryz.underlying22 ty3 ⟨rfl, (.t rfl), rfl, rfl, trivial⟩ rfl (by decide) rfl rfl ?_; refine W.app 0 (.t rfl) rfl (.sl (.t rfl) (by intro e he; rw [List.mem_singleton.1 he]; rfl)) Tryz.underlying22 ni22 ty3 rfl rfl (by rw [List.length_map, List.length_take]; simp only [List.length_cons, List.length_nil]; omega) rfl ?_
      intro v86; refine W.q (.assign (.t rfl)) rfl ?_; refine W.n ?_; refine W.bn ?_; refine W.h ?_; refine W.r ?_
      refine W.q (.add (.t rfl) .k (fun _ => by omega)) rfl ?_
      refine W.q (.move (.t rfl)) rfl ?_; refine W.n ?_; refine W.h ?_; refine W.reach (D := []) (d + 1, _) ⟨rfl, rfl, rfl, rfl, rfl, rfl, rfl, rfl, rfl, rfl, rfl, rfl, trivial⟩ (by rw [List.append_nil]; (try dsimp only); rw [hsn, List.map_append, hcx]; exact .refl _) ⟨hd8, by show 8 - (d + 1) < 8 - d; omega⟩
    ·subst hend
     refine W.s (.r (.q (.lti (.t rfl) .k) rfl (.n (.h (.s (.isb 75 false rfl (by rfl) (.condF (.t rfl) (.ex (.he (.he (.bh (.h (.s (.r ?_)))))))))))))); refine W.freezeA (M1 := .arr v51 3 1 (rowI w.next.length next) :: .obj b48 (mObj (((K).map keyL).map fun s : List UInt8 => Value.string ⟨s.toArray⟩)) :: .arr vo 3 1 (rowI w.next.length out) :: .box b1 99 [.sl 8 (w.next.map wrow), .sl 1 (w.final.map AV.bool)] :: M0) (M2 := .arr v51 3 1 (rowI w.next.length next) :: .obj b48 (mObj (((K).map keyL).map fun s : List UInt8 => Value.string ⟨s.toArray⟩)) :: .arr vo 3 1 (rowI w.next.length out) :: .box b1 99 [.sl 8 (w.next.map wrow), .sl 1 (w.final.map AV.bool)] :: M0) (D := []) (v := v11) (L' := [(11, true, .sl 1 ((Au.lst w out i).map AV.int))]) (by rw [List.append_nil]; exact .refl _) ⟨⟨_, rfl, .one .hit⟩, trivial⟩ (FrzMs.refl _) ?_; refine W.mv rfl rfl ?_; refine W.call (WKey.c_key (Au.lst w out i) (by show 9 ≤ 100000; decide) M0 (fun n hn => hI n (hsml n hn).1 (hsml n hn).2)) ⟨(.t rfl), trivial⟩ (List.perm_append_comm (l₁ := [_, _, _, _])) rfl ?_
     rintro _ _ ⟨rfl, rfl⟩
     refine W.perm (List.perm_append_comm (l₂ := [_, _, _, _])) ?_; refine W.asg rfl rfl (.n (.h (.s (.s (.r (.mv rfl rfl (.mv rfl rfl (.q (.look2 1 (.t rfl) rfl (.t rfl) Tryz.underlying138 (KeyKind.str Tryz.underlying9) ty3) rfl ?_))))))))
     refine W.q (.move (.t rfl)) rfl ?_; refine W.q (.extract (.t rfl) rfl) rfl ?_; refine W.q (.extract (.t rfl) rfl) rfl ?_; refine W.q (.assign (.t rfl)) rfl ?_; refine W.q (.assign (.t rfl)) rfl ?_; refine W.n ?_; refine W.h ?_; refine W.s ?_; refine W.r ?_; refine W.q (.move (.t rfl)) rfl ?_; refine W.q (.not (.t rfl)) rfl ?_; refine W.n ?_; refine W.h ?_; refine W.cond (.t rfl) (fun hc_t97 => ?_) (fun hc_t97 => ?_)
     ·have hnew : keyL (Au.lst w out i) ∉ K.map keyL := by
       rw [← place_none]
       cases hp : place (keyL (Au.lst w out i)) (K.map keyL) with
       | none => rfl
       | some j => rw [hp] at hc_t97; simp at hc_t97
      have hnewK : Au.lst w out i ∉ K := by rw [← place_none, ← hplc]; exact place_none.2 hnew
      refine W.r (.mv rfl rfl (.mv rfl rfl (.mv rfl rfl (.q (.lenmap 1 (.t rfl) rfl Tryz.underlying138) rfl ?_)))); refine W.is (t := 101) (av' := .int ((K.map keyL).length : Int)) rfl (by rw [List.length_map]) ?_; refine W.mapnew 1 (.t rfl) rfl (.t rfl) (.t rfl) Tryz.underlying138 (KeyKind.str Tryz.underlying9) (hnew) _ (.inl rfl) (.n (.h (.r (.mv rfl rfl (.mv rfl rfl (.mv rfl rfl (.mv rfl rfl (.q (.look1 1 (.t rfl) rfl (.t rfl) Tryz.underlying138 (KeyKind.str Tryz.underlying9) ty3) rfl ?_)))))))); refine W.is (t := 106) (av' := .int (K.length : Int)) rfl (by rw [place_new hnew, List.length_map]; rfl) ?_; refine W.q (.ata 0 (.t rfl) rfl (.t rfl) Tryz.underlying22 ty3 (fun _ => by ((rw [rowI_len]; omega)))) rfl ?_; refine W.sta 0 i 0 (e := AV.int (next i)) (e' := AV.int ((K.length : Int))) (.t rfl) (.t rfl) rfl (rowI_get hi) (by omega) ty3 rfl rfl rfl rfl rfl rfl rfl ?_; refine W.n (.bn (.h (.r (.q (.add (.t rfl) .k (fun _ => by omega)) rfl ?_))))
      refine W.q (.move (.t rfl)) rfl ?_; refine W.n ?_; refine W.h ?_; refine W.reach (D := [] ) (i + 1, K ++ [Au.lst w out i], (fun k => if k = i then (K.length : Int) else next k)) ⟨rfl, rfl, rfl, rfl, rfl, rfl, rfl, rfl, trivial⟩ ?_ ⟨⟨hD.new ho hnewK, hi⟩, by show w.next.length - (i + 1) < w.next.length - i; omega⟩
      rw [List.append_nil]
      (try dsimp only)
      simp only [← rowI_set, List.map_append]
      exact List.Perm.refl _
     ·obtain ⟨j, hj⟩ : ∃ j, place (keyL (Au.lst w out i)) (K.map keyL) = some j := by
       cases hp : place (keyL (Au.lst w out i)) (K.map keyL) with
       | none => rw [hp] at hc_t97; simp at hc_t97
       | some j => exact ⟨j, rfl⟩
      have hjg := place_some (hplc ▸ hj)
      refine W.k (.h (.r (.mv rfl rfl (.mv rfl rfl (.mv rfl rfl (.mv rfl rfl (.q (.look1 1 (.t rfl) rfl (.t rfl) Tryz.underlying138 (KeyKind.str Tryz.underlying9) ty3) rfl ?_))))))); refine W.is (t := 106) (av' := .int (j : Int)) rfl (by rw [hj]; rfl) ?_; refine W.q (.ata 0 (.t rfl) rfl (.t rfl) Tryz.underlying22 ty3 (fun _ => by ((rw [rowI_len]; omega)))) rfl ?_; refine W.sta 0 i 0 (e := AV.int (next i)) (e' := AV.int ((j : Int))) (.t rfl) (.t rfl) rfl (rowI_get hi) (by omega) ty3 rfl rfl rfl rfl rfl rfl rfl ?_; refine W.n (.bn (.h (.r (.q (.add (.t rfl) .k (fun _ => by omega)) rfl ?_))))
      refine W.q (.move (.t rfl)) rfl ?_; refine W.n ?_; refine W.h ?_; refine W.reach (D := [] ) (i + 1, K, (fun k => if k = i then (j : Int) else next k)) ⟨rfl, rfl, rfl, rfl, rfl, rfl, rfl, rfl, trivial⟩ ?_ ⟨⟨hD.old ho hjg, hi⟩, by show w.next.length - (i + 1) < w.next.length - i; omega⟩
      rw [List.append_nil]
      (try dsimp only)
      rw [← rowI_set]
      exact List.Perm.refl _
  ·subst hend
   have hdiv := hD.div
   refine W.s (.r (.q (.lti (.t rfl) (.t rfl)) rfl (.n (.h (.s ?_))))); refine W.isb 56 false rfl (by exact decide_eq_false (by omega)) ?_; refine W.condF (.t rfl) (.ex (.he (.he (.bh (.h (.s (.r (.mv rfl rfl (.asg rfl rfl (.n (.h (.s (.s (.r (.mv rfl rfl (.q (.lenmap 1 (.t rfl) rfl Tryz.underlying138) rfl ?_))))))))))))))))
   refine W.is (t := 111) (av' := .int (K.length : Int)) rfl (by rw [List.length_map, List.length_map]) ?_; refine W.q (.move (.t rfl)) rfl ?_; refine W.q (.eqi (.t rfl) (.t rfl)) rfl ?_; refine W.n ?_; refine W.h ?_; refine W.cond (.t rfl) (fun hc_t113 => ?_) (fun hc_t113 => ?_)
   ·have hKm : K.length = many := by have := eq_of_beq hc_t113; omega
    subst hKm
    have hcl := hM.cls hs (fun k hk h => by have := (hrg k hk).1; omega) hdiv
    refine W.s (.r (.mv rfl rfl (.asg rfl rfl (.n (.h ?_))))); refine W.ret ?_; refine W.hr (.br (.hr (.br ?_))); refine W.retn (M' := (.arr v51 3 1 (rowI w.next.length next) :: M0)) (D := _) (rs := [.tmp 2]) (avs := [_]) Tryz.results76 ⟨rfl, trivial⟩ rfl (List.Perm.cons _ (List.perm_append_comm (l₁ := [_, _, _]))) ?_
    exact ⟨_, next, rfl, rfl, hcl, hD.rng (by omega)⟩
   ·have hKm : K.length ≠ many := by intro h; apply Bool.eq_false_iff.1 hc_t113; rw [h]; simp
    have hgr := hM.grows hdiv
    have hml := hdiv.most
    refine W.k (.h (.r (.mv rfl rfl (.q (.lenmap 1 (.t rfl) rfl Tryz.underlying138) rfl ?_))))
    refine W.is (t := 116) (av' := .int (K.length : Int)) rfl (by rw [List.length_map, List.length_map]) ?_; refine W.q (.assign (.t rfl)) rfl ?_; refine W.n ?_; refine W.bn ?_; refine W.h ?_; refine W.reach (D := [.obj b48 (mObj (((K).map keyL).map fun s : List UInt8 => Value.string ⟨s.toArray⟩)), .arr vo 3 1 (rowI w.next.length out)]) (K.length, v51, next) ⟨rfl, rfl, rfl, trivial⟩ ?_ ⟨⟨hM.div hs (fun k hk h => by have := (hrg k hk).1; omega) hdiv, hD.rng (by omega)⟩, by show w.next.length + 1 - K.length < w.next.length + 1 - many; omega⟩
    dsimp only
    refine List.Perm.cons _ ?_
    exact (List.perm_append_comm (l₁ := [_, _]) (l₂ := _ :: M0))
end WClasses
end Go.Proofs.YtphlkdbglpcikaaGreatDoor
end
section
namespace Go.Proofs.YtphlkdbglpcikaaGreatDoor
open Go.Vl
open Y
namespace WRepeat
theorem c_Mul (x y : Nat) (hx : x < 18446744073709551616) (hy : y < 18446744073709551616) : FnP Tryz.prog 111 [.lit (.int .u64 (x : Int)), .lit (.int .u64 (y : Int))] (.tup [.lit (.int .u64 ((x * y / 18446744073709551616 : Nat) : Int)), .lit (.int .u64 ((x * y % 18446744073709551616 : Nat) : Int))]) := by
 refine FnP.of_below (CallOk.of Tryz.func111 (by kernel_rfl) (by kernel_rfl)) fun w F vs ha => ?_
 simp only [RepT] at ha
 obtain ⟨v0, _, rfl, ⟨h1, h2⟩, v1, _, rfl, ⟨h3, h4⟩, rfl⟩ := ha
 have e0 : v0 = _ := Rep.lit_iff.1 (show Rep w F (.lit (.int .u64 (x : Int))) v0 from ⟨h1, h2⟩)
 have e1 : v1 = _ := Rep.lit_iff.1 (show Rep w F (.lit (.int .u64 (y : Int))) v1 from ⟨h3, h4⟩)
 subst e0
 subst e1
 refine (Go.Proofs.Tryz.bits_Mul x y hx hy w).mono ?_
 rintro e w' ⟨h5, rfl⟩
 refine ⟨_, h5, ⟨rfl, ?_⟩, Go.RowKit.Below.refl _ _⟩
 simp only [RepC]
 exact ⟨_, rfl, by simp only [RepT]; exact ⟨_, _, rfl, Rep.lit _, _, _, rfl, Rep.lit _, rfl⟩⟩
theorem c_Repeat8 : FnC Tryz.prog 77 [.sl 1 [AV.int (-1)], .int 8] [] (fun r M => ∃ v, r = .lit v ∧ M = [.arr v 3 1 (List.replicate 8 (AV.int (-1)))]) :=  by
 refine FnC.mk Tryz.func77 (by kernel_rfl) rfl Tryz.ntmps77 rfl (fun w0 F => ?_)
 refine W.s (.r (.q (.assign .k) rfl (.n (.h (.s (.s (.r (.mv rfl rfl (.q (.lti (.t rfl) .k) rfl (.n (.h (.isb 10 false rfl (by decide) (.condF (.t rfl) (.k (.h (.s (.r (.mv rfl rfl (.q (.lensl (.t rfl) Tryz.underlying22) rfl (.q (.conv (.t rfl) ⟨_, Tryz.underlying3⟩ Tryz.underlying185) rfl ?_)))))))))))))))))))); refine W.is (t := 15) (av' := .lit (.int .u64 ((1 : Nat) : Int))) rfl rfl ?_; refine W.mv rfl rfl (.q (.conv (.t rfl) ⟨_, Tryz.underlying3⟩ Tryz.underlying185) rfl ?_); refine W.is (t := 17) (av' := .lit (.int .u64 ((8 : Nat) : Int))) rfl rfl ?_; refine W.callp (c_Mul 1 8 (by decide) (by decide)) ⟨(.t rfl), (.t rfl), trivial⟩ rfl ?_; refine W.mv rfl rfl (.q (.extract (.t rfl) rfl) rfl (.q (.extract (.t rfl) rfl) rfl (.asg rfl rfl (.asg rfl rfl (.n ?_))))); refine W.is (t := 5) (av' := .lit (.int .u64 0)) rfl rfl ?_; refine W.is (t := 6) (av' := .lit (.int .u64 8)) rfl rfl ?_; refine W.h (.s (.s (.r (.mv rfl rfl (.q (.gti (.t rfl) .k) rfl (.mv rfl rfl (.qgF rfl rfl (.move (.t rfl)) rfl (.qgF rfl rfl (.gti (.c rfl) .k) rfl ?_)))))))); refine W.q (.or (.t rfl) ⟨_, _, rfl, rfl, by ((simp; done))⟩) rfl ?_; refine W.n (.h (.isb 26 false rfl (by rfl) (.condF (.t rfl) (.k (.h (.s (.r (.mv rfl rfl (.q (.conv64 (.t rfl) ⟨_, Tryz.underlying185⟩ Tryz.underlying3 (fun _ => by omega)) rfl ?_)))))))))
 refine W.is (t := 29) (av' := .int ((8 : Nat) : Int)) rfl rfl ?_; refine W.mk (.t rfl) (.t rfl) Tryz.underlying22 ty3 rfl rfl rfl rfl rfl (by omega) rfl ?_; intro v30; refine W.arr_lit 0 rfl (by decide) ?_; intro g off cq hv hc1 hc2
 subst hv
 have hc8 : 8 ≤ cq := hc1
 refine W.asg rfl rfl (.n (.h (.s (.r (.mv rfl rfl (.mv rfl rfl ?_)))))); refine W.copy 0 (j := 0) (xs := [AV.int (-1)]) (sn := 1) (es' := List.replicate 1 (AV.int (-1)) ++ List.replicate 7 (AV.int 0)) (n' := 8) (.t rfl) rfl (.src (.sl (xs := [AV.int (-1)]) (.t rfl) (by simp [AV.okc, shV]))) Tryz.underlying22 ty3 (by decide) (by decide) (by show 1 ≤ cq; omega) (by rfl) (by rfl) rfl ?_; refine W.asg rfl rfl (.n (.h (.s (.b ?_)))); refine W.loop (D := []) (ι := Nat × List AV) (fun z => [(8, true, .int (z.1 : Int)), (7, true, .lit (.slice (some ⟨g, off, none⟩) 8 cq))]) (fun z => [.arr (.slice (some ⟨g, off, none⟩) 8 cq) 3 1 z.2]) (fun z => (z.1 = 1 ∨ z.1 = 2 ∨ z.1 = 4 ∨ z.1 = 8) ∧ z.2 = List.replicate z.1 (AV.int (-1)) ++ List.replicate (8 - z.1) (AV.int 0)) (fun z => 8 - z.1) (1, List.replicate 1 (AV.int (-1)) ++ List.replicate 7 (AV.int 0)) ⟨rfl, rfl, trivial⟩ (.refl _) ⟨.inl rfl, rfl⟩ ?_
 rintro ⟨n, es⟩ ⟨hn, he⟩
 dsimp only at hn he ⊢
 subst he
 rcases hn with rfl | rfl | rfl | rfl
 ·skip
  refine W.s (.s (.r (.mv rfl rfl (.mv rfl rfl ?_)))); refine W.q (.lenar (i := 0) (.t rfl) rfl Tryz.underlying22) rfl ?_
  refine W.q (.lti (.t rfl) (.t rfl)) rfl ?_; refine W.n ?_; refine W.h ?_; refine W.isb 37 true rfl (by rfl) ?_; refine W.condT (.t rfl) ?_; refine W.k ?_; refine W.h ?_; refine W.b ?_; refine W.drawnE (ι := Unit) (fun ee _ => [bif ee 7 then ME.arr (.slice (some ⟨g, off, none⟩) 8 cq) 3 1 (List.replicate 2 (AV.int (-1)) ++ List.replicate 6 (AV.int 0)) else ME.arr (.slice (some ⟨g, off, none⟩) 8 cq) 3 1 (List.replicate 1 (AV.int (-1)) ++ List.replicate 7 (AV.int 0))]) 7 () (by kernel_rfl) (by kernel_rfl) rfl ?_; refine DE.q (fun e c hk => (.move (.t rfl))) rfl (fun _ _ => rfl) (.inr fun _ _ => rfl) ?_; refine DE.q (fun e c hk => (.move (.t rfl))) rfl (fun _ _ => rfl) (.inr fun _ _ => rfl) ?_; refine DE.q (fun e c hk => (.move (.t rfl))) rfl (fun _ _ => rfl) (.inr fun _ _ => rfl) ?_; refine DE.q (fun e c hk => (.slitp (p := 1) (q := 8) (lo := some (.tmp 40)) (hi := none) (.t rfl) Tryz.underlying22 ty3 (.t rfl) rfl (by (rfl)) (by (rfl)) (by omega))) rfl (fun _ _ => rfl) (.inr fun _ _ => rfl) ?_; refine DE.q (fun e c hk => (.move (.t rfl))) rfl (fun _ _ => rfl) (.inr fun _ _ => rfl) ?_; refine DE.q (fun e c hk => (.move (.t rfl))) rfl (fun _ _ => rfl) (.inr fun _ _ => rfl) ?_; refine DE.q (fun e c hk => (.slit0 (q := 1) (hi := some (.tmp 43)) (.t rfl) Tryz.underlying22 ty3 (.t rfl) (by (rfl)) (by omega))) rfl (fun _ _ => rfl) (.inr fun _ _ => rfl) ?_; refine DE.effc (av := fun _ => .lit (.int .i64 ((1 : Nat) : Int))) rfl (.inr fun _ _ => rfl) (fun e c hk L_ hs Q h => ?_) ?_
  ·have hk_7 := hk.not
   simp only [addE, hk_7, Nat.reduceAdd, Nat.reduceEqDiff, ↓reduceIte, cond_true, cond_false] at h ⊢
   exact W.copy 0 (j := 1) (xs := List.replicate 1 (AV.int (-1))) (sn := 1) (es' := List.replicate 2 (AV.int (-1)) ++ List.replicate 6 (AV.int 0)) (n' := 8) (.t (hs _ _ rfl)) rfl (.own 0 (.t (hs _ _ rfl)) (p := 0) (.inr rfl) rfl rfl (by decide) (by decide) (fun e he => by rw [(List.mem_replicate.1 he).2]; rfl)) Tryz.underlying22 ty3 (by decide) (by decide) (by show 2 ≤ cq; omega) (by rfl) (by rfl) rfl h
  refine DE.q (fun e c hk => (.add (.t rfl) (.t rfl) (fun _ => by omega))) rfl (fun _ _ => rfl) (.inr fun _ _ => rfl) ?_
  refine DE.q (fun e c hk => (.assign (.t rfl))) rfl (fun _ _ => rfl) (.inr fun _ _ => rfl) ?_; refine DE.nil (fun c_ e_ he_ => ?_)
  simp only [he_ 7 (by decide), cond_true, cond_false]
  refine W.bn ?_; refine W.h ?_; refine W.reach (D := []) (2, List.replicate 2 (AV.int (-1)) ++ List.replicate 6 (AV.int 0)) ⟨rfl, rfl, trivial⟩ (.refl _) ⟨⟨.inr (.inl rfl), rfl⟩, by decide⟩
 ·skip
  refine W.s (.s (.r (.mv rfl rfl (.mv rfl rfl ?_)))); refine W.q (.lenar (i := 0) (.t rfl) rfl Tryz.underlying22) rfl ?_
  refine W.q (.lti (.t rfl) (.t rfl)) rfl ?_; refine W.n ?_; refine W.h ?_; refine W.isb 37 true rfl (by rfl) ?_; refine W.condT (.t rfl) ?_; refine W.k ?_; refine W.h ?_; refine W.b ?_; refine W.drawnE (ι := Unit) (fun ee _ => [bif ee 7 then ME.arr (.slice (some ⟨g, off, none⟩) 8 cq) 3 1 (List.replicate 4 (AV.int (-1)) ++ List.replicate 4 (AV.int 0)) else ME.arr (.slice (some ⟨g, off, none⟩) 8 cq) 3 1 (List.replicate 2 (AV.int (-1)) ++ List.replicate 6 (AV.int 0))]) 7 () (by kernel_rfl) (by kernel_rfl) rfl ?_; refine DE.q (fun e c hk => (.move (.t rfl))) rfl (fun _ _ => rfl) (.inr fun _ _ => rfl) ?_; refine DE.q (fun e c hk => (.move (.t rfl))) rfl (fun _ _ => rfl) (.inr fun _ _ => rfl) ?_; refine DE.q (fun e c hk => (.move (.t rfl))) rfl (fun _ _ => rfl) (.inr fun _ _ => rfl) ?_; refine DE.q (fun e c hk => (.slitp (p := 2) (q := 8) (lo := some (.tmp 40)) (hi := none) (.t rfl) Tryz.underlying22 ty3 (.t rfl) rfl (by (rfl)) (by (rfl)) (by omega))) rfl (fun _ _ => rfl) (.inr fun _ _ => rfl) ?_; refine DE.q (fun e c hk => (.move (.t rfl))) rfl (fun _ _ => rfl) (.inr fun _ _ => rfl) ?_; refine DE.q (fun e c hk => (.move (.t rfl))) rfl (fun _ _ => rfl) (.inr fun _ _ => rfl) ?_; refine DE.q (fun e c hk => (.slit0 (q := 2) (hi := some (.tmp 43)) (.t rfl) Tryz.underlying22 ty3 (.t rfl) (by (rfl)) (by omega))) rfl (fun _ _ => rfl) (.inr fun _ _ => rfl) ?_; refine DE.effc (av := fun _ => .lit (.int .i64 ((2 : Nat) : Int))) rfl (.inr fun _ _ => rfl) (fun e c hk L_ hs Q h => ?_) ?_
  ·have hk_7 := hk.not
   simp only [addE, hk_7, Nat.reduceAdd, Nat.reduceEqDiff, ↓reduceIte, cond_true, cond_false] at h ⊢
   exact W.copy 0 (j := 2) (xs := List.replicate 2 (AV.int (-1))) (sn := 2) (es' := List.replicate 4 (AV.int (-1)) ++ List.replicate 4 (AV.int 0)) (n' := 8) (.t (hs _ _ rfl)) rfl (.own 0 (.t (hs _ _ rfl)) (p := 0) (.inr rfl) rfl rfl (by decide) (by decide) (fun e he => by rw [(List.mem_replicate.1 he).2]; rfl)) Tryz.underlying22 ty3 (by decide) (by decide) (by show 4 ≤ cq; omega) (by rfl) (by rfl) rfl h
  refine DE.q (fun e c hk => (.add (.t rfl) (.t rfl) (fun _ => by omega))) rfl (fun _ _ => rfl) (.inr fun _ _ => rfl) ?_
  refine DE.q (fun e c hk => (.assign (.t rfl))) rfl (fun _ _ => rfl) (.inr fun _ _ => rfl) ?_; refine DE.nil (fun c_ e_ he_ => ?_)
  simp only [he_ 7 (by decide), cond_true, cond_false]
  refine W.bn ?_; refine W.h ?_; refine W.reach (D := []) (4, List.replicate 4 (AV.int (-1)) ++ List.replicate 4 (AV.int 0)) ⟨rfl, rfl, trivial⟩ (.refl _) ⟨⟨.inr (.inr (.inl rfl)), rfl⟩, by decide⟩
 ·skip
  refine W.s (.s (.r (.mv rfl rfl (.mv rfl rfl ?_)))); refine W.q (.lenar (i := 0) (.t rfl) rfl Tryz.underlying22) rfl ?_
  refine W.q (.lti (.t rfl) (.t rfl)) rfl ?_; refine W.n ?_; refine W.h ?_; refine W.isb 37 true rfl (by rfl) ?_; refine W.condT (.t rfl) ?_; refine W.k ?_; refine W.h ?_; refine W.b ?_; refine W.drawnE (ι := Unit) (fun ee _ => [bif ee 7 then ME.arr (.slice (some ⟨g, off, none⟩) 8 cq) 3 1 (List.replicate 8 (AV.int (-1)) ++ List.replicate 0 (AV.int 0)) else ME.arr (.slice (some ⟨g, off, none⟩) 8 cq) 3 1 (List.replicate 4 (AV.int (-1)) ++ List.replicate 4 (AV.int 0))]) 7 () (by kernel_rfl) (by kernel_rfl) rfl ?_; refine DE.q (fun e c hk => (.move (.t rfl))) rfl (fun _ _ => rfl) (.inr fun _ _ => rfl) ?_; refine DE.q (fun e c hk => (.move (.t rfl))) rfl (fun _ _ => rfl) (.inr fun _ _ => rfl) ?_; refine DE.q (fun e c hk => (.move (.t rfl))) rfl (fun _ _ => rfl) (.inr fun _ _ => rfl) ?_; refine DE.q (fun e c hk => (.slitp (p := 4) (q := 8) (lo := some (.tmp 40)) (hi := none) (.t rfl) Tryz.underlying22 ty3 (.t rfl) rfl (by (rfl)) (by (rfl)) (by omega))) rfl (fun _ _ => rfl) (.inr fun _ _ => rfl) ?_; refine DE.q (fun e c hk => (.move (.t rfl))) rfl (fun _ _ => rfl) (.inr fun _ _ => rfl) ?_; refine DE.q (fun e c hk => (.move (.t rfl))) rfl (fun _ _ => rfl) (.inr fun _ _ => rfl) ?_; refine DE.q (fun e c hk => (.slit0 (q := 4) (hi := some (.tmp 43)) (.t rfl) Tryz.underlying22 ty3 (.t rfl) (by (rfl)) (by omega))) rfl (fun _ _ => rfl) (.inr fun _ _ => rfl) ?_; refine DE.effc (av := fun _ => .lit (.int .i64 ((4 : Nat) : Int))) rfl (.inr fun _ _ => rfl) (fun e c hk L_ hs Q h => ?_) ?_
  ·have hk_7 := hk.not
   simp only [addE, hk_7, Nat.reduceAdd, Nat.reduceEqDiff, ↓reduceIte, cond_true, cond_false] at h ⊢
   exact W.copy 0 (j := 4) (xs := List.replicate 4 (AV.int (-1))) (sn := 4) (es' := List.replicate 8 (AV.int (-1)) ++ List.replicate 0 (AV.int 0)) (n' := 8) (.t (hs _ _ rfl)) rfl (.own 0 (.t (hs _ _ rfl)) (p := 0) (.inr rfl) rfl rfl (by decide) (by decide) (fun e he => by rw [(List.mem_replicate.1 he).2]; rfl)) Tryz.underlying22 ty3 (by decide) (by decide) (by show 8 ≤ cq; omega) (by rfl) (by rfl) rfl h
  refine DE.q (fun e c hk => (.add (.t rfl) (.t rfl) (fun _ => by omega))) rfl (fun _ _ => rfl) (.inr fun _ _ => rfl) ?_
  refine DE.q (fun e c hk => (.assign (.t rfl))) rfl (fun _ _ => rfl) (.inr fun _ _ => rfl) ?_; refine DE.nil (fun c_ e_ he_ => ?_)
  simp only [he_ 7 (by decide), cond_true, cond_false]
  refine W.bn ?_; refine W.h ?_; refine W.reach (D := []) (8, List.replicate 8 (AV.int (-1)) ++ List.replicate 0 (AV.int 0)) ⟨rfl, rfl, trivial⟩ (.refl _) ⟨⟨.inr (.inr (.inr rfl)), rfl⟩, by decide⟩
 ·skip
  refine W.s (.s (.r (.mv rfl rfl (.mv rfl rfl ?_)))); refine W.q (.lenar (i := 0) (.t rfl) rfl Tryz.underlying22) rfl ?_; refine W.q (.lti (.t rfl) (.t rfl)) rfl (.n (.h (.isb 37 false rfl (by rfl) (.condF (.t rfl) (.ex (.he (.he (.bh (.h (.s (.r (.mv rfl rfl (.asg rfl rfl (.n (.h ?_))))))))))))))); refine W.ret ?_; refine W.retn (M' := [.arr _ 3 1 _]) (D := _) (rs := [.tmp 4]) (avs := [_]) Tryz.results77 ⟨rfl, trivial⟩ rfl (.refl _) ?_
  exact ⟨_, rfl, rfl⟩
end WRepeat
end Go.Proofs.YtphlkdbglpcikaaGreatDoor
end
