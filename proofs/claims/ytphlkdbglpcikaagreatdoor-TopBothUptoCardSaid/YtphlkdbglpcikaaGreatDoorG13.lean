/-
  Merged: WStep WPairs WFinal WBoth WLeast WASame WTSame LawT.
-/
import Derived.Test.YtphlkdbglpcikaaGreatDoorG12
import Derived.Lib.LaidTab
set_option linter.unusedVariables false
set_option linter.unusedSimpArgs false
set_option maxRecDepth 100000

section
namespace Go.Proofs.YtphlkdbglpcikaaGreatDoor
open Go.Vl
open Y
namespace WStep
theorem c_step (a b : Au) (hsa : a.Shape) (hsb : b.Shape) (ha : a.next.length ≤ 40) (hb : b.next.length ≤ 40) (p : Int × Int) (hp : Au.PIn a b p) (n : Nat) (hn : n < 8) : FnP Tryz.prog 81 [.agg [.int p.1, .int p.2], .agg [.sl 1 (a.next.map pav), .sl 1 (a.final.map AV.bool)], .agg [.sl 1 (b.next.map pav), .sl 1 (b.final.map AV.bool)], .int (n : Int)] (.agg [.int (Au.stp a b p n).1, .int (Au.stp a b p n).2]) :=  by
 refine FnC.mk Tryz.func81 (by kernel_rfl) rfl Tryz.ntmps81 rfl (fun w0 F => ?_)
 obtain ⟨p1, p2⟩ := p
 obtain ⟨hl1, hu1, hl2, hu2⟩ := hp
 dsimp only at hl1 hu1 hl2 hu2
 have hna : (a.next.map pav).length = a.next.length := List.length_map ..
 have hnb : (b.next.map pav).length = b.next.length := List.length_map ..
 refine W.s ?_; refine W.r ?_; refine W.box (.t rfl) rfl rfl ?_; intro b4; refine W.box (.t rfl) rfl rfl ?_; intro b5; refine W.box (.t rfl) rfl rfl ?_; intro b6; refine W.alloc ty107 rfl rfl ?_; intro b8; refine W.n ?_; refine W.h ?_; refine W.s ?_; refine W.r ?_; refine W.q (.build ty107 st107 rfl (fun hg => ⟨_, _, _, rfl, .k, rfl, rfl, rfl, _, _, _, rfl, .k, rfl, rfl, rfl, rfl⟩)) rfl ?_; refine W.alloc ty107 rfl rfl ?_; intro b9
 refine W.stb 0 (.t rfl) (.t rfl) rfl ty107 rfl rfl rfl (.n (.h (.s (.s (.r (.q (.fab (.t rfl) fa107_0) rfl (.q (.ldb1 4 (.t rfl) rfl ag3 rfl) rfl ?_)))))))
 refine W.q (.gei (.t rfl) .k) rfl ?_; refine W.n ?_; refine W.h ?_; refine W.cond (.t rfl) (fun hc_t13 => ?_) (fun hc_t13 => ?_)
 ·have h13 := of_decide_eq_true hc_t13
  have hga := getD_mapG pav [] a.next p1.toNat (by omega)
  have hwa := hsa.row p1.toNat (by omega)
  have hxa := getD_map (a.next.getD p1.toNat []) n (by omega)
  have hta := Au.to_get a p1 (n : Int) (by rw [Int.toNat_natCast]; omega)
  rw [Int.toNat_natCast] at hta
  have hea : (if (0 : Int) ≤ p1 then a.to p1 (n : Int) else -1) = (a.next.getD p1.toNat []).getD n 0 := by rw [if_pos h13]; exact hta.symm
  refine W.r (.q (.fab (.t rfl) fa62_0) rfl (.q (.ldb1 3 (.t rfl) rfl ag59 rfl) rfl (.q (.fab (.t rfl) fa107_0) rfl (.q (.ldb1 4 (.t rfl) rfl ag3 rfl) rfl ?_)))); refine W.q (.at (E := 22) (.t rfl) (.t rfl) Tryz.underlying59 ty22 (fun _ => ⟨by omega, hga⟩) rfl rfl) rfl ?_; refine W.q (.lde1 (.t rfl) ag22) rfl (.mv rfl rfl ?_); refine W.q (.at (E := 3) (.t rfl) (.t rfl) Tryz.underlying22 ty3 (fun _ => ⟨by omega, hxa⟩) rfl rfl) rfl ?_; refine W.q (.lde1 (.t rfl) ag3) rfl (.q (.fab (.t rfl) fa107_0) rfl (.stb 0 (.t rfl) (.t rfl) rfl ty3 rfl rfl rfl (.n (.h (.s (.s (.r (.q (.fab (.t rfl) fa107_1) rfl (.q (.ldb1 4 (.t rfl) rfl ag3 rfl) rfl ?_)))))))))
  refine W.q (.gei (.t rfl) .k) rfl ?_; refine W.n ?_; refine W.h ?_; refine W.cond (.t rfl) (fun hc_t26 => ?_) (fun hc_t26 => ?_)
  ·have h26 := of_decide_eq_true hc_t26
   have hgb := getD_mapG pav [] b.next p2.toNat (by omega)
   have hwb := hsb.row p2.toNat (by omega)
   have hxb := getD_map (b.next.getD p2.toNat []) n (by omega)
   have htb := Au.to_get b p2 (n : Int) (by rw [Int.toNat_natCast]; omega)
   rw [Int.toNat_natCast] at htb
   have heb : (if (0 : Int) ≤ p2 then b.to p2 (n : Int) else -1) = (b.next.getD p2.toNat []).getD n 0 := by rw [if_pos h26]; exact htb.symm
   refine W.r (.q (.fab (.t rfl) fa62_0) rfl (.q (.ldb1 2 (.t rfl) rfl ag59 rfl) rfl (.q (.fab (.t rfl) fa107_1) rfl (.q (.ldb1 4 (.t rfl) rfl ag3 rfl) rfl ?_)))); refine W.q (.at (E := 22) (.t rfl) (.t rfl) Tryz.underlying59 ty22 (fun _ => ⟨by omega, hgb⟩) rfl rfl) rfl ?_; refine W.q (.lde1 (.t rfl) ag22) rfl (.mv rfl rfl ?_); refine W.q (.at (E := 3) (.t rfl) (.t rfl) Tryz.underlying22 ty3 (fun _ => ⟨by omega, hxb⟩) rfl rfl) rfl ?_; refine W.q (.lde1 (.t rfl) ag3) rfl (.q (.fab (.t rfl) fa107_1) rfl (.stb 0 (.t rfl) (.t rfl) rfl ty3 rfl rfl rfl (.n (.h (.s (.r (.q (.ldbn 0 (.t rfl) rfl ag107 ty107 rfl) rfl (.stb 1 (.t rfl) (.t rfl) rfl ty107 rfl rfl rfl (.n (.h ?_)))))))))); refine W.ret ?_; refine W.retn (M' := []) (D := _) (rs := [.cell 8 107]) (avs := [_]) Tryz.results81 ⟨⟨_, _, _, rfl, by repeat (first | exact List.mem_cons_self | apply List.mem_cons_of_mem), rfl, by funext w; exact ag107.run w, by funext w; exact ty107.size w⟩, trivial⟩ rfl (.refl _) ?_
   refine ⟨?_, rfl⟩
   simp only [Au.stp, hea, heb]
   rfl
  ·have h26 := of_decide_eq_false hc_t26
   have heb : (if (0 : Int) ≤ p2 then b.to p2 (n : Int) else -1) = -1 := if_neg h26
   refine W.k (.h (.s (.r (.q (.ldbn 0 (.t rfl) rfl ag107 ty107 rfl) rfl (.stb 1 (.t rfl) (.t rfl) rfl ty107 rfl rfl rfl (.n (.h ?_))))))); refine W.ret ?_; refine W.retn (M' := []) (D := _) (rs := [.cell 8 107]) (avs := [_]) Tryz.results81 ⟨⟨_, _, _, rfl, by repeat (first | exact List.mem_cons_self | apply List.mem_cons_of_mem), rfl, by funext w; exact ag107.run w, by funext w; exact ty107.size w⟩, trivial⟩ rfl (.refl _) ?_
   refine ⟨?_, rfl⟩
   simp only [Au.stp, hea, heb]
   rfl
 ·have h13 := of_decide_eq_false hc_t13
  have hea : (if (0 : Int) ≤ p1 then a.to p1 (n : Int) else -1) = -1 := if_neg h13
  refine W.k (.h (.s (.s (.r (.q (.fab (.t rfl) fa107_1) rfl (.q (.ldb1 4 (.t rfl) rfl ag3 rfl) rfl ?_))))))
  refine W.q (.gei (.t rfl) .k) rfl ?_; refine W.n ?_; refine W.h ?_; refine W.cond (.t rfl) (fun hc_t26 => ?_) (fun hc_t26 => ?_)
  ·have h26 := of_decide_eq_true hc_t26
   have hgb := getD_mapG pav [] b.next p2.toNat (by omega)
   have hwb := hsb.row p2.toNat (by omega)
   have hxb := getD_map (b.next.getD p2.toNat []) n (by omega)
   have htb := Au.to_get b p2 (n : Int) (by rw [Int.toNat_natCast]; omega)
   rw [Int.toNat_natCast] at htb
   have heb : (if (0 : Int) ≤ p2 then b.to p2 (n : Int) else -1) = (b.next.getD p2.toNat []).getD n 0 := by rw [if_pos h26]; exact htb.symm
   refine W.r (.q (.fab (.t rfl) fa62_0) rfl (.q (.ldb1 2 (.t rfl) rfl ag59 rfl) rfl (.q (.fab (.t rfl) fa107_1) rfl (.q (.ldb1 4 (.t rfl) rfl ag3 rfl) rfl ?_)))); refine W.q (.at (E := 22) (.t rfl) (.t rfl) Tryz.underlying59 ty22 (fun _ => ⟨by omega, hgb⟩) rfl rfl) rfl ?_; refine W.q (.lde1 (.t rfl) ag22) rfl (.mv rfl rfl ?_); refine W.q (.at (E := 3) (.t rfl) (.t rfl) Tryz.underlying22 ty3 (fun _ => ⟨by omega, hxb⟩) rfl rfl) rfl ?_; refine W.q (.lde1 (.t rfl) ag3) rfl (.q (.fab (.t rfl) fa107_1) rfl (.stb 0 (.t rfl) (.t rfl) rfl ty3 rfl rfl rfl (.n (.h (.s (.r (.q (.ldbn 0 (.t rfl) rfl ag107 ty107 rfl) rfl (.stb 1 (.t rfl) (.t rfl) rfl ty107 rfl rfl rfl (.n (.h ?_)))))))))); refine W.ret ?_; refine W.retn (M' := []) (D := _) (rs := [.cell 8 107]) (avs := [_]) Tryz.results81 ⟨⟨_, _, _, rfl, by repeat (first | exact List.mem_cons_self | apply List.mem_cons_of_mem), rfl, by funext w; exact ag107.run w, by funext w; exact ty107.size w⟩, trivial⟩ rfl (.refl _) ?_
   refine ⟨?_, rfl⟩
   simp only [Au.stp, hea, heb]
   rfl
  ·have h26 := of_decide_eq_false hc_t26
   have heb : (if (0 : Int) ≤ p2 then b.to p2 (n : Int) else -1) = -1 := if_neg h26
   refine W.k (.h (.s (.r (.q (.ldbn 0 (.t rfl) rfl ag107 ty107 rfl) rfl (.stb 1 (.t rfl) (.t rfl) rfl ty107 rfl rfl rfl (.n (.h ?_))))))); refine W.ret ?_; refine W.retn (M' := []) (D := _) (rs := [.cell 8 107]) (avs := [_]) Tryz.results81 ⟨⟨_, _, _, rfl, by repeat (first | exact List.mem_cons_self | apply List.mem_cons_of_mem), rfl, by funext w; exact ag107.run w, by funext w; exact ty107.size w⟩, trivial⟩ rfl (.refl _) ?_
   refine ⟨?_, rfl⟩
   simp only [Au.stp, hea, heb]
   rfl
end WStep
end Go.Proofs.YtphlkdbglpcikaaGreatDoor
end
section
namespace Go.Proofs.YtphlkdbglpcikaaGreatDoor
open Go.Vl
open Y
namespace WPairs
theorem kp107 : KeyKind Tryz.prog 107 pv := KeyKind.pair Tryz.underlying107 (by kernel_rfl) (by decide) (by decide) ⟨rfl, rfl⟩ ⟨rfl, rfl⟩ Tryz.underlying3
theorem c_pairs (a b : Au) (hsa : a.Shape) (hsb : b.Shape) (ha : a.next.length ≤ 40) (hb : b.next.length ≤ 40) : FnC Tryz.prog 41 [.agg [.sl 1 (a.next.map pav), .sl 1 (a.final.map AV.bool)], .agg [.sl 1 (b.next.map pav), .sl 1 (b.final.map AV.bool)]] [] (fun r M => ∃ v1 v2 all T, Au.Prs a b all T ∧ all.length ≤ (a.next.length + 1) * (b.next.length + 1) ∧ r = .tup [.lit v1, .lit v2] ∧ M = [.arr v2 147 8 ((List.range all.length).map fun k => r8av (fun c => (T k c : Int))), .arr v1 107 2 (all.map prav)]) :=  by
 refine FnC.mk Tryz.func41 (by kernel_rfl) rfl Tryz.ntmps41 rfl (fun w0 F => ?_)
 refine W.s ?_; refine W.r ?_; refine W.box (.t rfl) rfl rfl ?_; intro b2; refine W.box (.t rfl) rfl rfl ?_; intro b3; refine W.q (.assign .k) rfl ?_; refine W.q (.assign .k) rfl ?_; refine W.n ?_; refine W.h ?_; refine W.s ?_; refine W.r ?_; refine W.mkmap rfl ?_; intro b15; refine W.q (.build ty107 st107 rfl (fun hg => rfl)) rfl ?_; refine W.conv (t := 16) (av' := .lit (pv (0, 0))) rfl (fun _ _ _ h => Rep.pv h) ?_; refine W.mapnew 0 (ks := []) (k := (0, 0)) (f := pv) (.t rfl) rfl (.t rfl) .k Tryz.underlying153 kp107 (by simp) _ (.inr rfl) ?_; refine W.q (.move (.t rfl)) rfl ?_; refine W.q (.assign (.t rfl)) rfl ?_; refine W.n ?_; refine W.h ?_; refine W.s ?_; refine W.r ?_; refine W.q (.build ty107 st107 rfl (fun hg => rfl)) rfl ?_; refine W.bso (es := [_]) Tryz.underlying103 ty107 ⟨rfl, (.t rfl), rfl, rfl, trivial⟩ rfl (by decide) rfl rfl ?_; intro v19; refine W.q (.assign (.t rfl)) rfl ?_; refine W.n ?_; refine W.h ?_; refine W.s ?_; refine W.r ?_; refine W.q (.assign .k) rfl ?_; refine W.n ?_; refine W.h ?_; refine W.s ?_; refine W.s ?_; refine W.r ?_; refine W.q (.assign .k) rfl ?_; refine W.n ?_; refine W.h ?_; refine W.b ?_; refine W.own_nil 147 8 ?_; refine W.loop (D := []) (ι := (Nat × List (Int × Int) × (Nat → Nat → Nat) × Value × Value)) (fun z => [(9, true, .int (z.1 : Int)), (8, true, .lit z.2.2.2.2), (7, true, .lit z.2.2.2.1), (6, true, .lit (.map (some b15))), (2, true, .lit (.pointer (some ⟨b2, 0, none⟩))), (3, true, .lit (.pointer (some ⟨b3, 0, none⟩)))]) (fun z => [.arr z.2.2.2.2 147 8 ((List.range z.1).map fun k => r8av (fun c => (z.2.2.1 k c : Int))), .arr z.2.2.2.1 107 2 (z.2.1.map prav), .obj b15 (mObj (z.2.1.map pv)), .box b3 62 [.sl 1 (b.next.map pav), .sl 1 (b.final.map AV.bool)], .box b2 62 [.sl 1 (a.next.map pav), .sl 1 (a.final.map AV.bool)]]) (fun z => Au.Prb a b z.2.1 z.2.2.1 z.1 0 ∧ z.1 ≤ z.2.1.length) (fun z => 1681 - z.1) (0, [(0, 0)], (fun _ _ => 0), v19, .slice none 0 0) ⟨rfl, rfl, rfl, rfl, rfl, rfl, trivial⟩ (.refl _) ⟨Au.Prb.start hsa hsb _, Nat.zero_le _⟩ ?_
 rintro ⟨i, all, T, v7, v8⟩ ⟨hR, hi⟩
 dsimp only at hR hi ⊢
 have hlen := hR.len40 ha hb
 have hml : (all.map prav).length = all.length := List.length_map ..
 rcases (show i < all.length ∨ i = all.length from by omega) with hlt | hend
 ·skip
  refine W.s (.s (.r (.mv rfl rfl (.mv rfl rfl ?_)))); refine W.q (.lenar (i := 1) (.t rfl) rfl Tryz.underlying103) rfl ?_
  refine W.q (.lti (.t rfl) (.t rfl)) rfl ?_; refine W.n ?_; refine W.h ?_; refine W.isb 23 true rfl (by exact decide_eq_true (by omega)) ?_; refine W.condT (.t rfl) ?_; refine W.k ?_; refine W.h ?_; refine W.s ?_; refine W.b ?_; refine W.s ?_; refine W.r ?_; refine W.alloc ty147 rfl rfl ?_; intro b10; refine W.n ?_; refine W.h ?_; refine W.s ?_; refine W.s ?_; refine W.r ?_; refine W.q (.move .k) rfl ?_; refine W.n ?_; refine W.h ?_; refine W.b ?_; refine W.loop (D := []) (ι := (Nat × List (Int × Int) × (Nat → Nat → Nat) × Value)) (fun z => (26, true, .int (z.1 : Int)) :: (10, true, .lit (.pointer (some ⟨b10, 0, none⟩))) :: [(9, true, .int (i : Int)), (8, true, .lit v8), (7, true, .lit z.2.2.2), (6, true, .lit (.map (some b15))), (2, true, .lit (.pointer (some ⟨b2, 0, none⟩))), (3, true, .lit (.pointer (some ⟨b3, 0, none⟩)))]) (fun z => [.box b10 147 (Au.rowU z.2.2.1 i z.1), .arr v8 147 8 ((List.range i).map fun k => r8av (fun c => (z.2.2.1 k c : Int))), .arr z.2.2.2 107 2 (z.2.1.map prav), .obj b15 (mObj (z.2.1.map pv)), .box b3 62 [.sl 1 (b.next.map pav), .sl 1 (b.final.map AV.bool)], .box b2 62 [.sl 1 (a.next.map pav), .sl 1 (a.final.map AV.bool)]]) (fun z => Au.Prb a b z.2.1 z.2.2.1 i z.1 ∧ i < z.2.1.length ∧ z.1 ≤ 8) (fun z => 8 - z.1) (0, all, T, v7) ⟨rfl, rfl, rfl, rfl, rfl, rfl, rfl, rfl, trivial⟩ (.refl _) ⟨hR, hlt, Nat.zero_le _⟩ ?_
  clear hR hlt hlen hml hi
  clear all T v7
  rintro ⟨n, all, T, v7⟩ ⟨hR, hlt, hn⟩
  dsimp only at hR hlt hn ⊢
  have hlen := hR.len40 ha hb
  have hml : (all.map prav).length = all.length := List.length_map ..
  rcases (show n < 8 ∨ n = 8 from by omega) with hn8 | hn8
  ·have hga := getD_mapG prav (0, 0) all i hlt
   have hcall := WStep.c_step a b hsa hsb ha hb (all.getD i (0, 0)) (hR.rng _ (getD_memG _ _ _ hlt)) n hn8
   generalize hse : Au.stp a b (all.getD i (0, 0)) n = s at hcall
   refine W.s (.r (.q (.lti (.t rfl) .k) rfl (.n (.h (.s ?_))))); refine W.isb 27 true rfl (by simp; omega) ?_; refine W.condT (.t rfl) (.k (.h (.s (.b (.s (.r (.mv rfl rfl (.asg rfl rfl (.n (.h (.s ?_))))))))))); refine W.drawnM (fun ee c_ => [.box b10 147 (Au.rowU T i n), .arr v8 147 8 ((List.range i).map fun k => r8av (fun c => (T k c : Int))), .arr v7 107 2 (all.map prav), .obj b15 (mObj (all.map pv)), .box b3 62 [.sl 1 (b.next.map pav), .sl 1 (b.final.map AV.bool)], .box b2 62 [.sl 1 (a.next.map pav), .sl 1 (a.final.map AV.bool)]] ++ (bif ee 8 then [ME.box (c_ 8).1 107 (bif ee 9 then [.int s.1, .int s.2] else [.int 0, .int 0])] else [])) (c0 := ks0) (by kernel_rfl) (by kernel_rfl) rfl ?_; refine DM.q (fun e c hk => (.move (.t rfl))) rfl (fun _ _ => rfl) (fun _ _ _ => rfl) (.q (fun e c hk => (.move (.t rfl))) rfl (fun _ _ => rfl) (fun _ _ _ => rfl) (.q (fun e c hk => (.ata 2 (.t rfl) rfl (.t rfl) Tryz.underlying103 ty107 (fun _ => by omega))) rfl (fun _ _ => rfl) (fun _ _ _ => rfl) ?_)); refine DM.q (fun e c hk => Ev.ldan 2 i (e := prav (all.getD i (0, 0))) (.t rfl) rfl hga (by omega) rfl ag107 ty107) rfl (fun _ _ => rfl) (fun c c_ h => rfl) ?_; refine DM.q (fun e c hk => (.ldbn 5 (.t rfl) rfl ag62 ty62 rfl)) rfl (fun _ _ => rfl) (fun _ _ _ => rfl) (.q (fun e c hk => (.ldbn 4 (.t rfl) rfl ag62 ty62 rfl)) rfl (fun _ _ => rfl) (fun _ _ _ => rfl) ?_)
   refine DM.q (fun e c hk => (.move (.t rfl))) rfl (fun _ _ => rfl) (fun _ _ _ => rfl) ?_; refine DM.callp (fun c => hcall) (fun c => ⟨(.t rfl), (.t rfl), (.t rfl), (.t rfl), trivial⟩) rfl (fun _ _ => rfl) (fun _ _ _ => rfl) ?_; refine DM.eff1 (av := fun c => .lit (.pointer (some ⟨(c 8).1, 0, none⟩))) rfl (fun c c_ h => by (simp only [h 8 (by (exact .inl rfl))])) (fun e c hk L_ hs Q h => ?_) ?_
   ·have hk_8 := hk.not
    have hk_9 := hk.down 9 (by kernel_rfl)
    simp only [addE, upd, eq_self, List.nil_append, List.cons_append, List.append_nil, hk_8, hk_9, Nat.reduceAdd, Nat.reduceEqDiff, ↓reduceIte, cond_true, cond_false] at h ⊢
    exact W.alloc ty107 rfl rfl (fun b => h (b, undef) _ (by (exact (List.perm_middle (l₁ := [_, _, _, _, _, _])).symm)))
   refine DM.eff0 (fun e c hk L_ hs Q h => ?_) ?_
   ·have hk_9 := hk.not
    have hk_8 := hk.up 8 (by kernel_rfl)
    simp only [addE, upd, eq_self, List.nil_append, List.cons_append, List.append_nil, hk_9, hk_8, Nat.reduceAdd, Nat.reduceEqDiff, ↓reduceIte, cond_true, cond_false] at h ⊢
    ((refine W.stb 6 (.t (hs _ _ rfl)) (.t (hs _ _ rfl)) rfl ty107 rfl rfl rfl ?_; exact h))
   refine DM.nil (fun cc e_ he_ => ?_)
   simp only [he_ 8 (by decide), he_ 9 (by decide), cond_true, cond_false]
   generalize (cc 8).1 = b12
   refine W.h (.s (.r (.mv rfl rfl (.q (.ldbn 6 (.t rfl) rfl ag107 ty107 rfl) rfl ?_)))); refine W.conv (t := 39) (av' := .lit (pv s)) rfl (fun _ _ _ h => Rep.pv h) ?_; refine W.q (.look2 3 (.t rfl) rfl (.t rfl) Tryz.underlying153 kp107 ty3) rfl ?_
   refine W.q (.move (.t rfl)) rfl ?_; refine W.q (.extract (.t rfl) rfl) rfl ?_; refine W.q (.extract (.t rfl) rfl) rfl ?_; refine W.q (.assign (.t rfl)) rfl ?_; refine W.q (.assign (.t rfl)) rfl ?_; refine W.n ?_; refine W.h ?_; refine W.s ?_; refine W.s ?_; refine W.r ?_; refine W.q (.move (.t rfl)) rfl ?_; refine W.q (.not (.t rfl)) rfl ?_; refine W.n ?_; refine W.h ?_; refine W.cond (.t rfl) (fun hc_t44 => ?_) (fun hc_t44 => ?_)
   ·have hnew : s ∉ all := by
     rw [← place_none]
     cases hp : place s all with
     | none => rfl
     | some j => rw [hp] at hc_t44; simp at hc_t44
    refine W.s (.r (.mv rfl rfl ?_)); refine W.q (.lenar (i := 2) (.t rfl) rfl Tryz.underlying103) rfl ?_; refine W.is (t := 46) (av' := .int (all.length : Int)) rfl (by rw [List.length_map]) ?_; refine W.asg rfl rfl (.n (.h (.s (.r (.mv rfl rfl (.q (.ldbn 6 (.t rfl) rfl ag107 ty107 rfl) rfl (.mv rfl rfl ?_))))))); refine W.conv (t := 48) (av' := .lit (pv s)) rfl (fun _ _ _ h => Rep.pv h) ?_; refine W.mapnew 3 (ks := all) (k := s) (f := pv) (.t rfl) rfl (.t rfl) (.t rfl) Tryz.underlying153 kp107 hnew _ (.inl rfl) ?_; refine W.n (.h (.r (.mv rfl rfl (.q (.ldbn 6 (.t rfl) rfl ag107 ty107 rfl) rfl ?_)))); refine W.bs (es := [_]) Tryz.underlying103 ty107 ⟨rfl, (.t rfl), rfl, rfl, trivial⟩ rfl (by decide) rfl rfl ?_; refine W.app 2 (.t rfl) rfl (.sl (.t rfl) (by intro e he; rw [List.mem_singleton.1 he]; rfl)) Tryz.underlying103 ni103 ty107 rfl rfl (by rw [List.length_map]; simp only [List.length_cons, List.length_nil]; omega) rfl ?_
    intro v53; refine W.q (.assign (.t rfl)) rfl ?_; refine W.n ?_; refine W.h ?_; refine W.r ?_; refine W.q (.move (.t rfl)) rfl ?_; refine W.q (.move (.t rfl)) rfl ?_; refine W.q (.boxat (.t rfl) (.t rfl) Tryz.underlying147 ty3 (fun _ => ⟨by omega, by omega⟩)) rfl ?_; refine W.stb 0 (o := n) (.t rfl) (.t rfl) rfl ty3 rfl rfl (Nat.ble_eq_true_of_le (by show n + 1 ≤ 8; omega)) ?_; refine W.n ?_; refine W.bn ?_; refine W.h ?_; refine W.r ?_
    refine W.q (.add (.t rfl) .k (fun _ => by omega)) rfl (.mv rfl rfl (.n (.h ?_)))
    have h9 := Au.Prb.new hsa hsb (hR.entd all.length) hlt hn8 (Au.setT_at T i n all.length) (by rw [hse]; exact hnew)
    rw [hse] at h9
    refine W.reach (D := [.box b12 107 [.int s.1, .int s.2]]) (n + 1, all ++ [s], Au.setT T i n all.length, _) ⟨rfl, rfl, rfl, rfl, rfl, rfl, rfl, rfl, trivial⟩ ?_ ⟨⟨h9, by show i < (all ++ [s]).length; rw [List.length_append]; omega, hn8⟩, by show 8 - (n + 1) < 8 - n; omega⟩
    dsimp only
    rw [← Au.rowU_step T i n all.length hn8, ← prav_snoc, Au.rows_set]
    exact List.Perm.refl _
   ·obtain ⟨j, hj⟩ : ∃ j, place s all = some j := by
     cases hp : place s all with
     | none => rw [hp] at hc_t44; simp at hc_t44
     | some j => exact ⟨j, rfl⟩
    have hjl := place_lt hj
    have hjg := place_some hj
    refine W.is (t := 13) (av' := .int (j : Int)) rfl (by rw [hj]; rfl) ?_; refine W.k (.h (.r (.mv rfl rfl (.mv rfl rfl (.q (.boxat (.t rfl) (.t rfl) Tryz.underlying147 ty3 (fun _ => ⟨by omega, by omega⟩)) rfl ?_))))); refine W.stb 0 (o := n) (.t rfl) (.t rfl) rfl ty3 rfl rfl (Nat.ble_eq_true_of_le (by show n + 1 ≤ 8; omega)) ?_; refine W.n (.bn (.h (.r (.q (.add (.t rfl) .k (fun _ => by omega)) rfl (.mv rfl rfl (.n (.h ?_)))))))
    have h9 := (hR.entd j).old (by rw [Au.setT_at]; exact hjl) (by rw [Au.setT_at, hse, List.getD_eq_getElem?_getD, hjg]; rfl)
    refine W.reach (D := [.box b12 107 [.int s.1, .int s.2]]) (n + 1, all, Au.setT T i n j, _) ⟨rfl, rfl, rfl, rfl, rfl, rfl, rfl, rfl, trivial⟩ ?_ ⟨⟨h9, hlt, hn8⟩, by show 8 - (n + 1) < 8 - n; omega⟩
    dsimp only
    rw [← Au.rowU_step T i n j hn8, Au.rows_set]
    exact List.Perm.refl _
  ·subst hn8
   rw [Au.rowU_done]
   refine W.s (.r (.q (.lti (.t rfl) .k) rfl (.n (.h (.s ?_))))); refine W.isb 27 false rfl (by simp) ?_; refine W.condF (.t rfl) (.ex (.he (.he (.bh (.h (.r (.mv rfl rfl (.q (.ldbn 0 (.t rfl) rfl ag147 ty147 rfl) rfl ?_)))))))); refine W.bs (es := [_]) Tryz.underlying97 ty147 ⟨rfl, (.t rfl), rfl, rfl, trivial⟩ rfl (by decide) rfl rfl ?_; refine W.app 1 (.t rfl) rfl (.sl (.t rfl) (by intro e he; rw [List.mem_singleton.1 he]; rfl)) Tryz.underlying97 ni97 ty147 rfl rfl (by rw [List.length_map, List.length_range]; simp only [List.length_cons, List.length_nil]; omega) rfl ?_
   intro v61; refine W.q (.assign (.t rfl)) rfl ?_; refine W.n ?_; refine W.bn ?_; refine W.h ?_; refine W.r ?_; refine W.q (.move (.t rfl)) rfl ?_
   refine W.q (.add (.t rfl) .k (fun _ => by omega)) rfl ?_
   refine W.q (.assign (.t rfl)) rfl ?_; refine W.n ?_; refine W.h ?_; refine W.reach (D := [.box b10 147 (row8 fun d => (T i d : Int))]) (i + 1, all, T, v7, _) ⟨rfl, rfl, rfl, rfl, rfl, rfl, trivial⟩ ?_ ⟨⟨hR.row, hlt⟩, by show 1681 - (i + 1) < 1681 - i; omega⟩
   dsimp only
   rw [← rows_snoc i (fun k c => (T k c : Int))]
   exact (List.perm_append_comm (l₁ := [_]))
 ·subst hend
  refine W.s (.s (.r (.mv rfl rfl (.mv rfl rfl ?_)))); refine W.q (.lenar (i := 1) (.t rfl) rfl Tryz.underlying103) rfl ?_; refine W.q (.lti (.t rfl) (.t rfl)) rfl (.n (.h ?_)); refine W.isb 23 false rfl (by exact decide_eq_false (by omega)) ?_; refine W.condF (.t rfl) (.ex (.he (.he (.bh (.h (.s (.r (.mv rfl rfl (.mv rfl rfl (.asg rfl rfl (.asg rfl rfl (.n (.h ?_))))))))))))); refine W.ret ?_; refine W.retn (M' := [_, _]) (D := _) (rs := [.tmp 4, .tmp 5]) (avs := [_, _]) Tryz.results41 ⟨rfl, rfl, trivial⟩ rfl (.refl _) ?_
  exact ⟨_, _, all, T, hR.done (Nat.le_refl _), hR.len, rfl, rfl⟩
end WPairs
end Go.Proofs.YtphlkdbglpcikaaGreatDoor
end
section
namespace Go.Proofs.YtphlkdbglpcikaaGreatDoor
open Go.Vl
open Y
namespace WFinal
theorem c_final (a : Au) (hs : a.Shape) (hn : a.next.length ≤ 40) (i : Int) (hi : i < a.next.length) : FnP Tryz.prog 42 [.agg [.sl 1 (a.next.map pav), .sl 1 (a.final.map AV.bool)], .int i] (.bool (a.fin i)) :=  by
 refine FnC.mk Tryz.func42 (by kernel_rfl) rfl Tryz.ntmps42 rfl (fun w0 F => ?_)
 have hfl : (a.final.map AV.bool).length = a.final.length := List.length_map ..
 have hfin := hs.fin
 refine W.s ?_; refine W.r ?_; refine W.box (.t rfl) rfl rfl ?_; intro b2; refine W.q (.assign .k) rfl ?_; refine W.n ?_; refine W.h ?_; refine W.s ?_; refine W.r ?_; refine W.q (.move (.t rfl)) rfl ?_; refine W.q (.gei (.t rfl) .k) rfl ?_; refine W.q (.move (.t rfl)) rfl ?_
 first | refine W.qgT rfl rfl (.fae (.t rfl) fa62_1 rfl) rfl ?_ | refine W.qgT rfl rfl (.fab (.t rfl) fa62_1) rfl ?_ | refine W.qgT rfl rfl (.faa (.t rfl) fa62_1) rfl ?_
 first | refine W.qgT rfl rfl (.lde1 (.c rfl) ag60) rfl ?_ | refine W.qgT rfl rfl (.ldb1 0 (.c rfl) rfl ag60 rfl) rfl ?_ | refine W.qgT rfl rfl (.ldb1 1 (.c rfl) rfl ag60 rfl) rfl ?_ | refine W.qgT rfl rfl (.ldb1 2 (.c rfl) rfl ag60 rfl) rfl ?_ | refine W.qgT rfl rfl (.ldb1 3 (.c rfl) rfl ag60 rfl) rfl ?_
 refine W.qgT rfl rfl (.move (.t rfl)) rfl ?_; refine W.qgT rfl rfl (.at (E := 4) (.c rfl) (.c rfl) Tryz.underlying60 ty4 (fun hg => ⟨by simp at hg; omega, getD_mapG AV.bool false a.final i.toNat (by simp at hg; omega)⟩) rfl rfl) rfl ?_
 first | refine W.qgT rfl rfl (.lde1 (.c rfl) ag4) rfl ?_ | refine W.qgT rfl rfl (.ldb1 0 (.c rfl) rfl ag4 rfl) rfl ?_ | refine W.qgT rfl rfl (.ldb1 1 (.c rfl) rfl ag4 rfl) rfl ?_ | refine W.qgT rfl rfl (.ldb1 2 (.c rfl) rfl ag4 rfl) rfl ?_ | refine W.qgT rfl rfl (.ldb1 3 (.c rfl) rfl ag4 rfl) rfl ?_
 refine W.q (.and (.t rfl) ⟨_, _, rfl, rfl, by first | (simp; done) | (intro hg_ hp_; simp [hp_]; done) | (simp <;> omega; done) | (simp_all; done) | grind⟩) rfl ?_; refine W.q (.assign (.t rfl)) rfl ?_; refine W.n ?_; refine W.h ?_; refine W.ret ?_; refine W.retn (M' := []) (D := _) (rs := [.tmp 4]) (avs := [_]) Tryz.results42 ⟨rfl, trivial⟩ rfl (.refl _) ?_
 exact ⟨rfl, rfl⟩
end WFinal
end Go.Proofs.YtphlkdbglpcikaaGreatDoor
end
section
namespace Go.Proofs.YtphlkdbglpcikaaGreatDoor
open Go.Vl
open Y
namespace WBoth
theorem c_Both (a b : Au) (hsa : a.Shape) (hsb : b.Shape) (ha : a.next.length ≤ 40) (hb : b.next.length ≤ 40) (hab : (a.next.length + 1) * (b.next.length + 1) ≤ 100) (M0 : List ME) (hI : ∀ n : Int, -1 ≤ n → n < 100 → FnC Tryz.prog 107 [.int n] M0 (fun r M => r = .str (itoa n) ∧ M = M0)) (hsz : ∀ d : Au, d.Ord → (∀ u, d.acc 0 u ↔ a.acc 0 u ∧ b.acc 0 u) → d.next.length ≤ 40) : FnC Tryz.prog 25 [.agg [.sl 1 (a.next.map pav), .sl 1 (a.final.map AV.bool)], .agg [.sl 1 (b.next.map pav), .sl 1 (b.final.map AV.bool)]] M0 (fun r M => ∃ d : Au, d.Ord ∧ (∀ u, d.acc 0 u ↔ a.acc 0 u ∧ b.acc 0 u) ∧ r = .tup [.agg [.sl 1 (d.next.map pav), .sl 1 (d.final.map AV.bool)], .int 0] ∧ M = M0) :=  by
 refine FnC.mk Tryz.func25 (by kernel_rfl) rfl Tryz.ntmps25 rfl (fun w0 F => ?_)
 refine W.s ?_; refine W.r ?_; refine W.box (.t rfl) rfl rfl ?_; intro b2; refine W.box (.t rfl) rfl rfl ?_; intro b3; refine W.alloc ty62 rfl rfl ?_; intro b4; refine W.q (.assign .k) rfl ?_; refine W.n ?_; refine W.h ?_; refine W.s ?_; refine W.s ?_; refine W.r ?_
 refine W.q (.ldbn 2 (.t rfl) rfl ag62 ty62 rfl) rfl ?_; refine W.callp (WMay.c_May a hsa ha) ⟨(.t rfl), trivial⟩ rfl ?_; refine W.q (.not (.t rfl)) rfl (.mv rfl rfl (.gyes rfl rfl (.q (.ldbn 1 (.t rfl) rfl ag62 ty62 rfl) rfl (.gyes rfl rfl ?_)))); refine W.callp (WMay.c_May b hsb hb) ⟨(.t rfl), trivial⟩ rfl ?_; refine W.gyes rfl rfl (.q (.not (.t rfl)) rfl ?_); refine W.q (.or (.t rfl) ⟨_, _, rfl, rfl, by ((simp; done))⟩) rfl ?_; refine W.n (.h (.isb 18 false rfl (by rfl) (.condF (.t rfl) (.k (.h (.s (.r (.q (.ldbn 2 (.t rfl) rfl ag62 ty62 rfl) rfl (.q (.ldbn 1 (.t rfl) rfl ag62 ty62 rfl) rfl ?_))))))))); refine W.call (WPairs.c_pairs a b hsa hsb ha hb) ⟨(.t rfl), (.t rfl), trivial⟩ (.refl _) rfl ?_
 rintro _ _ ⟨v24, v25, all, T, hP, hl2, rfl, rfl⟩
 refine W.q (.move (.t rfl)) rfl ?_; refine W.q (.extract (.t rfl) rfl) rfl ?_; refine W.q (.extract (.t rfl) rfl) rfl ?_; refine W.q (.assign (.t rfl)) rfl ?_; refine W.q (.assign (.t rfl)) rfl ?_; refine W.n ?_; refine W.h ?_; refine W.s ?_; refine W.r ?_; refine W.freezeA (M1 := .arr v24 107 2 (all.map prav) :: .box b4 62 [.lit (.slice none 0 0), .lit (.slice none 0 0)] :: .box b3 62 [.sl 1 (b.next.map pav), .sl 1 (b.final.map AV.bool)] :: .box b2 62 [.sl 1 (a.next.map pav), .sl 1 (a.final.map AV.bool)] :: M0) (M2 := .arr v24 107 2 (all.map prav) :: .box b4 62 [.lit (.slice none 0 0), .lit (.slice none 0 0)] :: .box b3 62 [.sl 1 (b.next.map pav), .sl 1 (b.final.map AV.bool)] :: .box b2 62 [.sl 1 (a.next.map pav), .sl 1 (a.final.map AV.bool)] :: M0) (D := []) (v := v25) (L' := [(7, true, .sl 8 ((List.range all.length).map fun k => r8av (fun c => (T k c : Int))))]) (by rw [List.append_nil] <;> exact .refl _) ⟨⟨_, rfl, .one .hit⟩, trivial⟩ (FrzMs.refl _) ?_; refine W.freezeA (M1 := .box b4 62 [.lit (.slice none 0 0), .lit (.slice none 0 0)] :: .box b3 62 [.sl 1 (b.next.map pav), .sl 1 (b.final.map AV.bool)] :: .box b2 62 [.sl 1 (a.next.map pav), .sl 1 (a.final.map AV.bool)] :: M0) (M2 := .box b4 62 [.lit (.slice none 0 0), .lit (.slice none 0 0)] :: .box b3 62 [.sl 1 (b.next.map pav), .sl 1 (b.final.map AV.bool)] :: .box b2 62 [.sl 1 (a.next.map pav), .sl 1 (a.final.map AV.bool)] :: M0) (D := []) (v := v24) (L' := [(6, true, .sl 2 (all.map prav))]) (by rw [List.append_nil] <;> exact .refl _) ⟨⟨_, rfl, .one .hit⟩, trivial⟩ (FrzMs.refl _) ?_; refine W.q (.move (.t rfl)) rfl ?_; refine W.q (.build ty99 st99 rfl (fun hg => ⟨_, _, _, rfl, (.t rfl), rfl, rfl, rfl, rfl⟩)) rfl ?_; refine W.alloc ty99 rfl rfl ?_; intro b8
 refine W.stb 0 (.t rfl) (.t rfl) rfl ty99 rfl rfl rfl (.n (.h (.s (.s (.r (.mv rfl rfl (.q (.lensl (.t rfl) Tryz.underlying103) rfl (.q (.move .k) rfl (.n (.h (.b ?_))))))))))); refine W.own_nil 4 1 ?_; refine W.loop (D := []) (ι := Nat × Value) (fun z => [(30, true, .int (z.1 : Int)), (29, true, .int ((all.map prav).length : Int)), (28, true, .sl 2 (all.map prav)), (8, true, .lit (.pointer (some ⟨b8, 0, none⟩))), (2, true, .lit (.pointer (some ⟨b2, 0, none⟩))), (3, true, .lit (.pointer (some ⟨b3, 0, none⟩))), (4, true, .lit (.pointer (some ⟨b4, 0, none⟩)))]) (fun z => .arr z.2 4 1 ((all.take z.1).map fun p => AV.bool (a.fin p.1 && b.fin p.2)) :: .box b8 99 [.sl 8 ((List.range all.length).map fun k => r8av (fun c => (T k c : Int))), .lit z.2] :: .box b4 62 [.lit (.slice none 0 0), .lit (.slice none 0 0)] :: .box b3 62 [.sl 1 (b.next.map pav), .sl 1 (b.final.map AV.bool)] :: .box b2 62 [.sl 1 (a.next.map pav), .sl 1 (a.final.map AV.bool)] :: M0) (fun z => z.1 ≤ all.length) (fun z => all.length - z.1) (0, .slice none 0 0) ⟨rfl, rfl, rfl, rfl, rfl, rfl, rfl, trivial⟩ (by rw [List.append_nil]; exact .refl _) (Nat.zero_le _) ?_
 rintro ⟨i, vf⟩ hi
 dsimp only at hi ⊢
 have hml : (all.map prav).length = all.length := List.length_map ..
 rcases (show i < all.length ∨ i = all.length from by omega) with hlt | hend
 ·have hga := getD_mapG prav (0, 0) all i hlt
  have hpr := hP.rng _ (getD_memG (0, 0) all i hlt)
  have htk := take_getDG (0, 0) all i hlt
  generalize all.getD i (0, 0) = pp at hga hpr htk
  refine W.s (.r (.q (.lti (.t rfl) (.t rfl)) rfl (.n (.h (.s ?_))))); refine W.isb 31 true rfl (by exact decide_eq_true (by omega)) ?_; refine W.condT (.t rfl) (.k (.h (.s (.b (.s (.r ?_)))))); refine W.q (.at (E := 107) (.t rfl) (.t rfl) Tryz.underlying103 ty107 (fun _ => ⟨by omega, hga⟩) rfl rfl) rfl ?_; refine W.q (.lden (.t rfl) ag107 ty107 rfl rfl) rfl ?_
  refine W.alloc ty107 rfl rfl ?_; intro b10
  refine W.stb 0 (.t rfl) (.t rfl) rfl ty107 rfl rfl rfl (.n ?_); refine W.perm (List.Perm.trans (List.Perm.swap _ _ _) (List.Perm.cons _ (List.Perm.swap _ _ _))) ?_; refine W.h ?_; refine W.drawnE (ι := Value) (fun ee c => (bif ee 13 then ME.arr c 4 1 (((all.take i).map fun p => AV.bool (a.fin p.1 && b.fin p.2)) ++ [.bool (a.fin pp.1 && b.fin pp.2)]) else ME.arr vf 4 1 ((all.take i).map fun p => AV.bool (a.fin p.1 && b.fin p.2))) :: ME.box b8 99 [.sl 8 ((List.range all.length).map fun k => r8av (fun c => (T k c : Int))), bif ee 15 then .lit c else .lit vf] :: .box b10 107 [.int pp.1, .int pp.2] :: .box b4 62 [.lit (.slice none 0 0), .lit (.slice none 0 0)] :: .box b3 62 [.sl 1 (b.next.map pav), .sl 1 (b.final.map AV.bool)] :: .box b2 62 [.sl 1 (a.next.map pav), .sl 1 (a.final.map AV.bool)] :: M0) 13 vf (by kernel_rfl) (by kernel_rfl) rfl ?_; refine DE.q (fun e c hk => (.fab (.t rfl) fa99_1)) rfl (fun _ _ => rfl) (.inr fun _ _ => rfl) ?_; refine DE.q (av := fun _ => .lit vf) (fun e c hk => by have h := hk.down 15 (by kernel_rfl); simp only [h, cond_false]; exact Ev.ldb1 1 (.t rfl) rfl ag60 rfl) rfl (fun _ _ => rfl) (.inr fun _ _ => rfl) ?_; refine DE.q (fun e c hk => (.ldbn 5 (.t rfl) rfl ag62 ty62 rfl)) rfl (fun _ _ => rfl) (.inr fun _ _ => rfl) (.q (fun e c hk => (.fab (.t rfl) fa107_0)) rfl (fun _ _ => rfl) (.inr fun _ _ => rfl) (.q (fun e c hk => (.ldb1 2 (.t rfl) rfl ag3 rfl)) rfl (fun _ _ => rfl) (.inr fun _ _ => rfl) (.callp (fun c => WFinal.c_final a hsa ha pp.1 hpr.u1) (fun c => ⟨(.t rfl), (.t rfl), trivial⟩) rfl (fun _ _ => rfl) (.inr fun _ _ => rfl) (.q (fun e c hk => (.move (.t rfl))) rfl (fun _ _ => rfl) (.inr fun _ _ => rfl) (.qg rfl (fun _ => rfl) (fun e c hk => (.ldbn 4 (.t rfl) rfl ag62 ty62 rfl)) rfl (fun _ _ => rfl) (.inr fun _ _ => rfl) (.qg rfl (fun _ => rfl) (fun e c hk => (.fab (.t rfl) fa107_1)) rfl (fun _ _ => rfl) (.inr fun _ _ => rfl) (.qg rfl (fun _ => rfl) (fun e c hk => (.ldb1 2 (.c rfl) rfl ag3 rfl)) rfl (fun _ _ => rfl) (.inr fun _ _ => rfl) ?_)))))))
  refine DE.callg rfl (fun _ => rfl) (fun c hg => WFinal.c_final b hsb hb pp.2 hpr.u2) (fun c hg => ⟨(.i rfl (fun _ => hg)), (.i rfl (fun _ => hg)), trivial⟩) rfl (fun _ _ => rfl) (.inr fun _ _ => rfl) ?_; refine DE.q (fun e c hk => (.and (.t rfl) ⟨_, _, rfl, rfl, by ((simp; done))⟩)) rfl (fun _ _ => rfl) (.inr fun _ _ => rfl) ?_; refine DE.bs (es := fun _ => [_]) Tryz.underlying60 ty4 (fun c => ⟨rfl, (.t rfl), rfl, rfl, trivial⟩) (fun _ => rfl) (by decide) rfl rfl (fun _ _ => rfl) (.inr fun _ _ => rfl) ?_; refine DE.eff1 (av := fun v => .lit v) rfl rfl (fun e c hk L_ hs Q h => ?_) ?_
  ·have hk_13 := hk.not
   have hk_15 := hk.down 15 (by kernel_rfl)
   simp only [addE, hk_13, hk_15, Nat.reduceAdd, Nat.reduceEqDiff, ↓reduceIte, cond_true, cond_false] at h ⊢
   ((refine W.app 0 (.t (hs _ _ rfl)) rfl (.sl (.t (hs _ _ rfl)) (by intro e he; rw [List.mem_singleton.1 he]; rfl)) Tryz.underlying60 ni60 ty4 rfl rfl (by rw [List.length_map, List.length_take]; simp only [List.length_cons, List.length_nil]; omega) rfl ?_; exact h))
  refine DE.q (fun e c hk => (.fab (.t rfl) fa99_1)) rfl (fun _ _ => rfl) (.inr fun _ _ => rfl) ?_
  refine DE.eff0 (fun e c hk L_ hs Q h => ?_) ?_
  ·have hk_15 := hk.not
   have hk_13 := hk.up 13 (by kernel_rfl)
   simp only [addE, hk_15, hk_13, Nat.reduceAdd, Nat.reduceEqDiff, ↓reduceIte, cond_true, cond_false] at h ⊢
   refine W.arr_inv 0 rfl (fun a9 n9 c9 h9 => ?_)
   subst h9
   refine W.stb 1 (.t (hs _ _ rfl)) (.t (hs _ _ rfl)) rfl ty60 rfl rfl rfl ?_
   exact h
  refine DE.nil (fun v47 e_ he_ => ?_)
  simp only [he_ 13 (by decide), he_ 15 (by decide), cond_true, cond_false]
  refine W.bn (.h (.r (.q (.add (.t rfl) .k (fun _ => by omega)) rfl ?_)))
  refine W.q (.move (.t rfl)) rfl ?_; refine W.n ?_; refine W.h ?_; refine W.reach (D := [.box b10 107 [.int pp.1, .int pp.2]]) (i + 1, v47) ⟨rfl, rfl, rfl, rfl, rfl, rfl, rfl, trivial⟩ ?_ ⟨hlt, by show all.length - (i + 1) < all.length - i; omega⟩
  dsimp only
  rw [htk, List.map_append]
  exact List.Perm.cons _ (List.Perm.cons _ (List.perm_append_comm (l₁ := [_])))
 ·subst hend
  rw [List.take_length]
  have hw := hP.both (w := (Au.auOf all.length (fun k c => (T k c : Int)) (all.map fun p => a.fin p.1 && b.fin p.2))) (Au.auOf_len _ _ _) rfl (fun k hk => Au.auOf_row _ _ _ k hk) (fun k c hk hc => Au.auOf_to _ _ _ k c hk hc)
  refine W.s ?_; refine W.r ?_; refine W.q (.lti (.t rfl) (.t rfl)) rfl ?_; refine W.n ?_; refine W.h ?_; refine W.s ?_; refine W.isb 31 false rfl (by exact decide_eq_false (by omega)) ?_; refine W.condF (.t rfl) ?_; refine W.ex ?_; refine W.he ?_; refine W.he ?_; refine W.bh ?_; refine W.h ?_; refine W.s ?_; refine W.r ?_; refine W.freezeA (M1 := .box b8 99 [.sl 8 ((List.range all.length).map fun k => r8av (fun c => (T k c : Int))), .lit vf] :: .box b4 62 [.lit (.slice none 0 0), .lit (.slice none 0 0)] :: .box b3 62 [.sl 1 (b.next.map pav), .sl 1 (b.final.map AV.bool)] :: .box b2 62 [.sl 1 (a.next.map pav), .sl 1 (a.final.map AV.bool)] :: M0) (M2 := .box b8 99 [.sl 8 ((List.range all.length).map fun k => r8av (fun c => (T k c : Int))), .sl 1 (all.map fun p => AV.bool (a.fin p.1 && b.fin p.2))] :: .box b4 62 [.lit (.slice none 0 0), .lit (.slice none 0 0)] :: .box b3 62 [.sl 1 (b.next.map pav), .sl 1 (b.final.map AV.bool)] :: .box b2 62 [.sl 1 (a.next.map pav), .sl 1 (a.final.map AV.bool)] :: M0) (D := []) (v := vf) (L' := []) (by rw [List.append_nil] <;> exact .refl _) trivial (⟨.box ⟨.refl _, .hit, trivial⟩, FrzMs.refl _⟩) ?_
  refine W.q (.ldbn 0 (.t rfl) rfl ag99 ty99 rfl) rfl ?_; refine W.is (t := 50) (av' := .agg [.sl 8 ((Au.auOf all.length (fun k c => (T k c : Int)) (all.map fun p => a.fin p.1 && b.fin p.2)).next.map wrow), .sl 1 ((Au.auOf all.length (fun k c => (T k c : Int)) (all.map fun p => a.fin p.1 && b.fin p.2)).final.map AV.bool)]) rfl (by show AV.agg [.sl 8 ((List.range all.length).map fun k => r8av (fun c => (T k c : Int))), .sl 1 (all.map fun p => AV.bool (a.fin p.1 && b.fin p.2))] = _; rw [Au.auOf_wide]; show _ = AV.agg [_, .sl 1 ((all.map fun p => a.fin p.1 && b.fin p.2).map AV.bool)]; rw [List.map_map]; rfl) ?_; refine W.call (WOrder.c_order (Au.auOf all.length (fun k c => (T k c : Int)) (all.map fun p => a.fin p.1 && b.fin p.2)) hw.1 (by rw [Au.auOf_len]; omega) M0 hI (fun d hd he => hsz d hd fun u => (he u).trans (hw.2 u))) ⟨(.t rfl), trivial⟩ (List.perm_append_comm (l₁ := [_, _, _, _])) rfl ?_
  rintro _ M' ⟨d, hd, hdu, rfl, hM'⟩
  rw [hM']
  refine W.perm (List.perm_append_comm (l₂ := [_, _, _, _])) ?_; refine W.q (.extract (.t rfl) rfl) rfl (.q (.extract (.t rfl) rfl) rfl (.stb 1 (.t rfl) (.t rfl) rfl ty62 rfl rfl rfl (.asg rfl rfl (.n (.h ?_))))); refine W.ret ?_; refine W.retn (M' := M0) (D := _) (rs := [.cell 4 62, .tmp 5]) (avs := [_, _]) Tryz.results25 ⟨⟨_, _, _, rfl, by repeat (first | exact List.mem_cons_self | apply List.mem_cons_of_mem), rfl, by funext w; exact ag62.run w, by funext w; exact ty62.size w⟩, rfl, trivial⟩ rfl (List.perm_append_comm (l₁ := [_, _, _, _])) ?_
  exact ⟨d, hd, fun u => (hdu u).trans (hw.2 u), rfl, rfl⟩
end WBoth
end Go.Proofs.YtphlkdbglpcikaaGreatDoor
end
section
namespace Go.Proofs.YtphlkdbglpcikaaGreatDoor
open Go.Vl
open Y
namespace WLeast
theorem c_Least (a : Au) (hs : a.Shape) (hn : a.next.length ≤ 40) : FnC Tryz.prog 26 [.agg [.sl 1 (a.next.map pav), .sl 1 (a.final.map AV.bool)]] [] (fun r M => M = [] ∧ ((∃ word, a.acc 0 word ∧ (∀ u, u.length < word.length → ¬ a.acc 0 u) ∧ word.length < 40 ∧ r = .tup [.sl 1 (word.map AV.int), .int 0]) ∨ ((∀ u, ¬ a.acc 0 u) ∧ r = .tup [.sl 1 [], .int 7]))) :=  by
 refine FnC.mk Tryz.func26 (by kernel_rfl) rfl Tryz.ntmps26 rfl (fun w0 F => ?_)
 have hpos := hs.pos
 have hfin := hs.fin
 have hnl : (a.next.map pav).length = a.next.length := List.length_map ..
 have hfl : (a.final.map AV.bool).length = a.final.length := List.length_map ..
 refine W.s ?_; refine W.r ?_; refine W.box (.t rfl) rfl rfl ?_; intro b1; refine W.q (.assign .k) rfl ?_; refine W.q (.assign .k) rfl ?_; refine W.n ?_; refine W.h ?_; refine W.s ?_; refine W.s ?_; refine W.r ?_
 first | refine W.q (.lden (.t rfl) ag62 ty62 rfl rfl) rfl ?_ | refine W.q (.ldbn 0 (.t rfl) rfl ag62 ty62 rfl) rfl ?_ | refine W.q (.ldbn 1 (.t rfl) rfl ag62 ty62 rfl) rfl ?_ | refine W.q (.ldbn 2 (.t rfl) rfl ag62 ty62 rfl) rfl ?_ | refine W.q (.ldbn 3 (.t rfl) rfl ag62 ty62 rfl) rfl ?_ | refine W.q (.ldbn 4 (.t rfl) rfl ag62 ty62 rfl) rfl ?_
 refine W.callp (WMay.c_May a hs hn) ⟨(.t rfl), trivial⟩ rfl ?_; refine W.q (.not (.t rfl)) rfl (.n (.h (.isb 11 false rfl (by rfl) (.condF (.t rfl) (.k (.h (.s (.r ?_))))))))
 first | refine W.q (.fae (.t rfl) fa62_0 rfl) rfl ?_ | refine W.q (.fab (.t rfl) fa62_0) rfl ?_ | refine W.q (.faa (.t rfl) fa62_0) rfl ?_
 first | refine W.q (.lde1 (.t rfl) ag59) rfl ?_ | refine W.q (.ldb1 0 (.t rfl) rfl ag59 rfl) rfl ?_ | refine W.q (.ldb1 1 (.t rfl) rfl ag59 rfl) rfl ?_ | refine W.q (.ldb1 2 (.t rfl) rfl ag59 rfl) rfl ?_ | refine W.q (.ldb1 3 (.t rfl) rfl ag59 rfl) rfl ?_ | refine W.q (.ldb1 4 (.t rfl) rfl ag59 rfl) rfl ?_
 first | refine W.q (.lensl (.t rfl) Tryz.underlying59) rfl ?_ | refine W.q (.lenar (i := 0) (.t rfl) rfl Tryz.underlying59) rfl ?_ | refine W.q (.lenar (i := 1) (.t rfl) rfl Tryz.underlying59) rfl ?_ | refine W.q (.lenar (i := 2) (.t rfl) rfl Tryz.underlying59) rfl ?_ | refine W.q (.lenar (i := 3) (.t rfl) rfl Tryz.underlying59) rfl ?_ | refine W.q (.lenar (i := 4) (.t rfl) rfl Tryz.underlying59) rfl ?_
 refine W.mk (.t rfl) (.t rfl) Tryz.underlying60 ty4 rfl rfl rfl rfl rfl (by omega) rfl ?_; intro v15; refine W.q (.assign (.t rfl)) rfl ?_; refine W.n ?_; refine W.h ?_; refine W.s ?_; refine W.r ?_; refine W.q (.move (.t rfl)) rfl ?_; refine W.q (.ata 0 (.t rfl) rfl .k Tryz.underlying60 ty4 (fun _ => by rw [List.length_replicate]; omega)) rfl ?_; refine W.sta 0 0 0 (e := AV.bool false) (e' := AV.bool true) (.t rfl) .k rfl (by rw [List.getElem?_replicate, if_pos (by omega)]; rfl) rfl ty4 rfl rfl rfl rfl rfl rfl rfl ?_; refine W.n ?_; refine W.h ?_; refine W.s ?_; refine W.s ?_; refine W.r ?_; refine W.q (.build ty110 st110 rfl (fun hg => rfl)) rfl ?_; refine W.nils (t := 18) (g := true) (cs' := [.int 0, .sl 1 []]) rfl ⟨.inl rfl, .inr ⟨rfl, 1, rfl⟩, trivial⟩ ?_; refine W.bso (es := [_]) Tryz.underlying111 ty110 ⟨rfl, (.t rfl), rfl, rfl, trivial⟩ rfl (by decide) rfl rfl ?_; intro v19; refine W.q (.assign (.t rfl)) rfl ?_; refine W.n ?_; refine W.h ?_; refine W.b ?_; refine W.loop (D := []) (ι := (Nat → Bool) × List (Nat × List Int) × Value) (fun z => [(5, true, .lit z.2.2), (4, true, .lit v15), (1, true, .lit (.pointer (some ⟨b1, 0, none⟩)))]) (fun z => [.arr z.2.2 110 2 (z.2.1.map qav), .arr v15 4 1 (rowB a.next.length z.1), .box b1 62 [.sl 1 (a.next.map pav), .sl 1 (a.final.map AV.bool)]]) (fun z => (z.2.1 ≠ [] → ∃ Q1 Q2 D h, Q1 ++ Q2 = z.2.1 ∧ Au.Lst a z.1 Q1 Q2 D h 0) ∧ (z.2.1 = [] → ∀ u, ¬ a.acc 0 u) ∧ z.2.1.length + outs a.next.length z.1 ≤ a.next.length ∧ ∀ q ∈ z.2.1, q.2.length + 1 + outs a.next.length z.1 ≤ a.next.length) (fun z => 2 * outs a.next.length z.1 + z.2.1.length) ((fun s => decide (s = 0)), [(0, [])], v19) ⟨rfl, rfl, rfl, trivial⟩ (by dsimp only; rw [← row_seen, ← hnl]; exact .refl _) ⟨fun _ => ⟨[(0, [])], [], _, 0, rfl, Au.Lst.start hs⟩, (fun h => by cases h), by have := outs_first hpos; show 1 + outs a.next.length (fun s => decide (s = 0)) ≤ _; omega, fun q hq => by rw [List.mem_singleton.1 hq]; have := outs_first hpos; show 0 + 1 + outs a.next.length (fun s => decide (s = 0)) ≤ _; omega⟩ ?_
 rintro ⟨sn, Q, v⟩ ⟨hq0, hq1, hql, hw⟩
 dsimp only at hq0 hq1 hql hw ⊢
 rcases (show Q ≠ [] ∨ Q = [] from (Classical.em (Q = [])).symm) with hQne | hQe
 ·have hQl : 0 < Q.length := List.length_pos_iff.2 hQne
  obtain ⟨m, hm12⟩ : ∃ m, Q.getD 0 (0, []) = m := ⟨_, rfl⟩
  have hgq := getD_mapG qav (0, []) Q 0 hQl
  have hmm := getD_memG (0, []) Q 0 hQl
  rw [hm12] at hgq hmm
  obtain ⟨m1, m2⟩ := m
  have hm2 := hw _ hmm
  dsimp only at hm2
  have hm1 : m1 < a.next.length := by obtain ⟨Q1, Q2, D, h, hQ, hL⟩ := hq0 hQne; exact (hL.ok (m1, m2) (by rw [hQ]; exact hmm)).1
  have hgf := getD_mapG AV.bool false a.final m1 (by omega)
  have hgr := getD_mapG pav [] a.next m1 hm1
  have hrow := hs.row m1 hm1
  refine W.s (.s (.r (.mv rfl rfl ?_)))
  first | refine W.q (.lensl (.t rfl) Tryz.underlying111) rfl ?_ | refine W.q (.lenar (i := 0) (.t rfl) rfl Tryz.underlying111) rfl ?_ | refine W.q (.lenar (i := 1) (.t rfl) rfl Tryz.underlying111) rfl ?_ | refine W.q (.lenar (i := 2) (.t rfl) rfl Tryz.underlying111) rfl ?_ | refine W.q (.lenar (i := 3) (.t rfl) rfl Tryz.underlying111) rfl ?_ | refine W.q (.lenar (i := 4) (.t rfl) rfl Tryz.underlying111) rfl ?_
  refine W.q (.gti (.t rfl) .k) rfl ?_; refine W.n ?_; refine W.h ?_; refine W.isb 22 true rfl (by rw [List.length_map]; exact decide_eq_true (by omega)) ?_; refine W.condT (.t rfl) ?_; refine W.k ?_; refine W.h ?_; refine W.s ?_; refine W.b ?_; refine W.s ?_; refine W.r ?_; refine W.q (.move (.t rfl)) rfl ?_; refine W.q (.ata 0 (.t rfl) rfl .k Tryz.underlying111 ty110 (fun _ => by rw [List.length_map]; omega)) rfl ?_; refine W.q (.ldan 0 0 (e := qav (m1, m2)) (.t rfl) rfl hgq rfl rfl ag110 ty110) rfl ?_; refine W.alloc ty110 rfl rfl ?_; intro b6
  first | refine W.stb 0 (.t rfl) (.t rfl) rfl ty110 rfl rfl rfl ?_ | refine W.stb 1 (.t rfl) (.t rfl) rfl ty110 rfl rfl rfl ?_ | refine W.stb 2 (.t rfl) (.t rfl) rfl ty110 rfl rfl rfl ?_ | refine W.stb 3 (.t rfl) (.t rfl) rfl ty110 rfl rfl rfl ?_ | refine W.stb 4 (.t rfl) (.t rfl) rfl ty110 rfl rfl rfl ?_
  refine W.n (.h (.s (.s (.r ?_))))
  first | refine W.q (.fae (.t rfl) fa62_1 rfl) rfl ?_ | refine W.q (.fab (.t rfl) fa62_1) rfl ?_ | refine W.q (.faa (.t rfl) fa62_1) rfl ?_
  first | refine W.q (.lde1 (.t rfl) ag60) rfl ?_ | refine W.q (.ldb1 0 (.t rfl) rfl ag60 rfl) rfl ?_ | refine W.q (.ldb1 1 (.t rfl) rfl ag60 rfl) rfl ?_ | refine W.q (.ldb1 2 (.t rfl) rfl ag60 rfl) rfl ?_ | refine W.q (.ldb1 3 (.t rfl) rfl ag60 rfl) rfl ?_ | refine W.q (.ldb1 4 (.t rfl) rfl ag60 rfl) rfl ?_
  first | refine W.q (.fae (.t rfl) fa110_0 rfl) rfl ?_ | refine W.q (.fab (.t rfl) fa110_0) rfl ?_ | refine W.q (.faa (.t rfl) fa110_0) rfl ?_
  first | refine W.q (.lde1 (.t rfl) ag3) rfl ?_ | refine W.q (.ldb1 0 (.t rfl) rfl ag3 rfl) rfl ?_ | refine W.q (.ldb1 1 (.t rfl) rfl ag3 rfl) rfl ?_ | refine W.q (.ldb1 2 (.t rfl) rfl ag3 rfl) rfl ?_ | refine W.q (.ldb1 3 (.t rfl) rfl ag3 rfl) rfl ?_ | refine W.q (.ldb1 4 (.t rfl) rfl ag3 rfl) rfl ?_
  refine W.q (.at (E := 4) (.t rfl) (.t rfl) Tryz.underlying60 ty4 (fun _ => ⟨by omega, hgf⟩) rfl rfl) rfl ?_
  first | refine W.q (.lde1 (.t rfl) ag4) rfl ?_ | refine W.q (.ldb1 0 (.t rfl) rfl ag4 rfl) rfl ?_ | refine W.q (.ldb1 1 (.t rfl) rfl ag4 rfl) rfl ?_ | refine W.q (.ldb1 2 (.t rfl) rfl ag4 rfl) rfl ?_ | refine W.q (.ldb1 3 (.t rfl) rfl ag4 rfl) rfl ?_ | refine W.q (.ldb1 4 (.t rfl) rfl ag4 rfl) rfl ?_
  refine W.n ?_; refine W.h ?_; refine W.cond (.t rfl) (fun hc_t33 => ?_) (fun hc_t33 => ?_)
  ·have hf1 : a.fin (m1 : Int) = true := by rw [Au.fin, Int.toNat_natCast, decide_eq_true (by omega), Bool.true_and]; exact hc_t33
   obtain ⟨Q1, Q2, D, h, hQ, hL⟩ := hq0 hQne
   have hhd : Q1.getD 0 (0, []) = (m1, m2) := by rw [← hm12, ← hQ]; cases Q1 with | nil => exact absurd rfl hL.ne | cons q R => rfl
   have hfd := hL.found hs (by rw [hhd]; exact hf1)
   rw [hhd] at hfd
   refine W.s (.r ?_)
   first | refine W.q (.fae (.t rfl) fa110_1 rfl) rfl ?_ | refine W.q (.fab (.t rfl) fa110_1) rfl ?_ | refine W.q (.faa (.t rfl) fa110_1) rfl ?_
   first | refine W.q (.lde1 (.t rfl) ag22) rfl ?_ | refine W.q (.ldb1 0 (.t rfl) rfl ag22 rfl) rfl ?_ | refine W.q (.ldb1 1 (.t rfl) rfl ag22 rfl) rfl ?_ | refine W.q (.ldb1 2 (.t rfl) rfl ag22 rfl) rfl ?_ | refine W.q (.ldb1 3 (.t rfl) rfl ag22 rfl) rfl ?_ | refine W.q (.ldb1 4 (.t rfl) rfl ag22 rfl) rfl ?_
   refine W.asg rfl rfl (.q (.assign .k) rfl (.n (.h ?_))); refine W.ret ?_; refine W.hr (.br (.hr (.hr (.br (.hr ?_))))); refine W.retn (M' := []) (D := _) (rs := [.tmp 2, .tmp 3]) (avs := [_, _]) Tryz.results26 ⟨rfl, rfl, trivial⟩ rfl (.refl _) ?_
   exact ⟨rfl, .inl ⟨m2, hfd.1, hfd.2, by omega, rfl⟩⟩
  ·have hf0 : a.fin (m1 : Int) = false := by rw [Au.fin, Int.toNat_natCast, decide_eq_true (by omega), Bool.true_and]; exact hc_t33
   refine W.k (.h (.s (.r ?_)))
   first | refine W.q (.fae (.t rfl) fa62_0 rfl) rfl ?_ | refine W.q (.fab (.t rfl) fa62_0) rfl ?_ | refine W.q (.faa (.t rfl) fa62_0) rfl ?_
   first | refine W.q (.lde1 (.t rfl) ag59) rfl ?_ | refine W.q (.ldb1 0 (.t rfl) rfl ag59 rfl) rfl ?_ | refine W.q (.ldb1 1 (.t rfl) rfl ag59 rfl) rfl ?_ | refine W.q (.ldb1 2 (.t rfl) rfl ag59 rfl) rfl ?_ | refine W.q (.ldb1 3 (.t rfl) rfl ag59 rfl) rfl ?_ | refine W.q (.ldb1 4 (.t rfl) rfl ag59 rfl) rfl ?_
   first | refine W.q (.fae (.t rfl) fa110_0 rfl) rfl ?_ | refine W.q (.fab (.t rfl) fa110_0) rfl ?_ | refine W.q (.faa (.t rfl) fa110_0) rfl ?_
   first | refine W.q (.lde1 (.t rfl) ag3) rfl ?_ | refine W.q (.ldb1 0 (.t rfl) rfl ag3 rfl) rfl ?_ | refine W.q (.ldb1 1 (.t rfl) rfl ag3 rfl) rfl ?_ | refine W.q (.ldb1 2 (.t rfl) rfl ag3 rfl) rfl ?_ | refine W.q (.ldb1 3 (.t rfl) rfl ag3 rfl) rfl ?_ | refine W.q (.ldb1 4 (.t rfl) rfl ag3 rfl) rfl ?_
   refine W.q (.at (E := 22) (.t rfl) (.t rfl) Tryz.underlying59 ty22 (fun _ => ⟨by omega, hgr⟩) rfl rfl) rfl ?_
   first | refine W.q (.lde1 (.t rfl) ag22) rfl ?_ | refine W.q (.ldb1 0 (.t rfl) rfl ag22 rfl) rfl ?_ | refine W.q (.ldb1 1 (.t rfl) rfl ag22 rfl) rfl ?_ | refine W.q (.ldb1 2 (.t rfl) rfl ag22 rfl) rfl ?_ | refine W.q (.ldb1 3 (.t rfl) rfl ag22 rfl) rfl ?_ | refine W.q (.ldb1 4 (.t rfl) rfl ag22 rfl) rfl ?_
   first | refine W.q (.lensl (.t rfl) Tryz.underlying22) rfl ?_ | refine W.q (.lenar (i := 0) (.t rfl) rfl Tryz.underlying22) rfl ?_ | refine W.q (.lenar (i := 1) (.t rfl) rfl Tryz.underlying22) rfl ?_ | refine W.q (.lenar (i := 2) (.t rfl) rfl Tryz.underlying22) rfl ?_ | refine W.q (.lenar (i := 3) (.t rfl) rfl Tryz.underlying22) rfl ?_ | refine W.q (.lenar (i := 4) (.t rfl) rfl Tryz.underlying22) rfl ?_
   refine W.is (t := 42) (av' := .int 8) rfl (by rw [List.length_map, hrow]; rfl) ?_; refine W.q (.move .k) rfl (.n (.h (.b ?_)))
   obtain ⟨mu, hmu⟩ : ∃ mu, 2 * outs a.next.length sn + Q.length = mu := ⟨_, rfl⟩
   refine W.loop (D := []) (ι := Nat × (Nat → Bool) × List (Nat × List Int) × Value) (fun z => [(43, true, .int (z.1 : Int)), (42, true, .int 8), (41, true, .sl 1 ((a.next.getD m1 []).map AV.int)), (6, true, .lit (.pointer (some ⟨b6, 0, none⟩))), (5, true, .lit z.2.2.2), (4, true, .lit v15), (1, true, .lit (.pointer (some ⟨b1, 0, none⟩)))]) (fun z => [.arr z.2.2.2 110 2 (z.2.2.1.map qav), .arr v15 4 1 (rowB a.next.length z.2.1), .box b6 110 [.int (m1 : Int), .sl 1 (m2.map AV.int)], .box b1 62 [.sl 1 (a.next.map pav), .sl 1 (a.final.map AV.bool)]]) (fun z => (∃ Q1 Q2 D h, Q1 ++ Q2 = z.2.2.1 ∧ Q1.getD 0 (0, []) = (m1, m2) ∧ Au.Lst a z.2.1 Q1 Q2 D h z.1) ∧ z.1 ≤ 8 ∧ z.2.2.1.length + outs a.next.length z.2.1 ≤ a.next.length ∧ (∀ q ∈ z.2.2.1, q.2.length + 1 + outs a.next.length z.2.1 ≤ a.next.length) ∧ 2 * outs a.next.length z.2.1 + z.2.2.1.length ≤ mu) (fun z => 8 - z.1) (0, sn, Q, v) ⟨rfl, rfl, rfl, rfl, rfl, rfl, rfl, trivial⟩ (List.Perm.trans (List.Perm.swap _ _ _) (List.Perm.cons _ (List.Perm.swap _ _ _))) ⟨by obtain ⟨Q1, Q2, D, h, hQ, hL⟩ := hq0 hQne; exact ⟨Q1, Q2, D, h, hQ, by rw [← hm12, ← hQ]; (cases Q1 with | nil => exact absurd rfl hL.ne | cons q R => rfl), hL⟩, Nat.zero_le _, hql, hw, Nat.le_of_eq hmu⟩ ?_
   clear hgq hmm hm2 hm12 hq0 hq1 hql hw hQl hQne
   rintro ⟨d, sn, Q, v⟩ ⟨hI, hd, hql, hw, hmu2⟩
   dsimp only at hI hd hql hw hmu2 ⊢
   have hmQ : (m1, m2) ∈ Q := by obtain ⟨Q1, Q2, D, h, hQ, hhd, hL⟩ := hI; rw [← hQ, ← hhd]; exact List.mem_append_left _ (getD_memG _ _ _ (List.length_pos_iff.2 hL.ne))
   have hm3 := hw _ hmQ
   dsimp only at hm3
   have hQl : 0 < Q.length := List.length_pos_iff.2 (List.ne_nil_of_mem hmQ)
   rcases (show d < 8 ∨ d = 8 from by omega) with hd8 | hend
   ·have hgx := getD_map (a.next.getD m1 []) d (by omega)
    have hgt : (a.next.getD m1 []).getD d 0 = a.to (m1 : Int) (d : Int) := by have := Au.to_get a (m1 : Int) (d : Int) (by rw [Int.toNat_natCast, Int.toNat_natCast]; omega); rwa [Int.toNat_natCast, Int.toNat_natCast] at this
    have hto := Au.to_range hs (i := (m1 : Int)) (c := (d : Int)) (by omega) (by omega) (by omega) (by omega)
    refine W.s (.r (.q (.lti (.t rfl) (.t rfl)) rfl (.n (.h (.s ?_))))); refine W.isb 44 true rfl (by exact decide_eq_true (by omega)) ?_; refine W.condT (.t rfl) (.k (.h (.s (.b (.s (.r (.mv rfl rfl ?_))))))); refine W.q (.at (E := 3) (.t rfl) (.t rfl) Tryz.underlying22 ty3 (fun _ => ⟨by omega, hgx⟩) rfl rfl) rfl ?_
    first | refine W.q (.lde1 (.t rfl) ag3) rfl ?_ | refine W.q (.ldb1 0 (.t rfl) rfl ag3 rfl) rfl ?_ | refine W.q (.ldb1 1 (.t rfl) rfl ag3 rfl) rfl ?_ | refine W.q (.ldb1 2 (.t rfl) rfl ag3 rfl) rfl ?_ | refine W.q (.ldb1 3 (.t rfl) rfl ag3 rfl) rfl ?_ | refine W.q (.ldb1 4 (.t rfl) rfl ag3 rfl) rfl ?_
    refine W.is (t := 47) (av' := .int (a.to (m1 : Int) (d : Int))) rfl (congrArg AV.int hgt) ?_; refine W.q (.assign (.t rfl)) rfl ?_; refine W.q (.assign (.t rfl)) rfl ?_; refine W.n ?_; refine W.h ?_; refine W.s ?_; refine W.r ?_; refine W.q (.move (.t rfl)) rfl ?_; refine W.q (.gei (.t rfl) .k) rfl ?_; refine W.q (.move (.t rfl)) rfl ?_; refine W.qgT rfl rfl (.move (.t rfl)) rfl ?_; refine W.qgT rfl rfl (.move (.t rfl)) rfl ?_; refine W.qgT rfl rfl (.ata 1 (.c rfl) rfl (.c rfl) Tryz.underlying60 ty4 (fun hg => ⟨of_decide_eq_true hg, by rw [rowB_len]; omega⟩)) rfl ?_; refine W.qgT rfl rfl (.lda1 1 (a.to (m1 : Int) (d : Int)).toNat 0 (.c rfl) rfl (rowB_at _ sn (a.to (m1 : Int) (d : Int)).toNat (by omega)) (by omega) rfl rfl rfl ag4) rfl ?_; refine W.qgT rfl rfl (.not (.c rfl)) rfl ?_; refine W.q (.and (.t rfl) ⟨_, _, rfl, rfl, by first | (simp; done) | (intro hg_ hp_; simp [hp_]; done) | (simp <;> omega; done) | (simp_all; done) | grind⟩) rfl ?_; refine W.n ?_; refine W.h ?_; refine W.cond (.t rfl) (fun hc_t56 => ?_) (fun hc_t56 => ?_)
    ·obtain ⟨ht1, ht2⟩ : 0 ≤ a.to (m1 : Int) (d : Int) ∧ sn (a.to (m1 : Int) (d : Int)).toNat = false := by simpa using hc_t56
     have hou := outs_set (n := a.next.length) (t := (a.to (m1 : Int) (d : Int)).toNat) (f := sn) (by omega) ht2
     refine W.s (.r (.mv rfl rfl (.mv rfl rfl ?_))); refine W.q (.ata 1 (.t rfl) rfl (.t rfl) Tryz.underlying60 ty4 (fun _ => by rw [rowB_len]; omega)) rfl ?_; refine W.sta 1 (a.to (m1 : Int) (d : Int)).toNat 0 (e := AV.bool (sn (a.to (m1 : Int) (d : Int)).toNat)) (e' := AV.bool true) (.t rfl) .k rfl (rowB_at _ sn (a.to (m1 : Int) (d : Int)).toNat (by omega)) (by omega) ty4 rfl rfl rfl rfl rfl rfl rfl ?_; refine W.n (.h (.r (.mv rfl rfl (.mv rfl rfl ?_))))
     first | refine W.q (.fae (.t rfl) fa110_1 rfl) rfl ?_ | refine W.q (.fab (.t rfl) fa110_1) rfl ?_ | refine W.q (.faa (.t rfl) fa110_1) rfl ?_
     first | refine W.q (.lde1 (.t rfl) ag22) rfl ?_ | refine W.q (.ldb1 0 (.t rfl) rfl ag22 rfl) rfl ?_ | refine W.q (.ldb1 1 (.t rfl) rfl ag22 rfl) rfl ?_ | refine W.q (.ldb1 2 (.t rfl) rfl ag22 rfl) rfl ?_ | refine W.q (.ldb1 3 (.t rfl) rfl ag22 rfl) rfl ?_ | refine W.q (.ldb1 4 (.t rfl) rfl ag22 rfl) rfl ?_
     refine W.call (WClone.c_CloneInt (m2.map AV.int) (okc_ints m2) (by rw [List.length_map]; omega)) ⟨(.t rfl), trivial⟩ (.refl _) rfl ?_
     rintro _ _ ⟨v64, rfl, rfl⟩
     refine W.mv rfl rfl ?_; refine W.bs (es := [_]) Tryz.underlying22 ty3 ⟨rfl, (.t rfl), rfl, rfl, trivial⟩ rfl (by decide) rfl rfl ?_
     first | refine W.app 0 (.t rfl) rfl (.sl (.t rfl) (by intro e he; rw [List.mem_singleton.1 he]; rfl)) Tryz.underlying22 ni22 ty3 rfl rfl (by rw [List.length_map]; simp only [List.length_cons, List.length_nil]; omega) rfl ?_ | refine W.app 1 (.t rfl) rfl (.sl (.t rfl) (by intro e he; rw [List.mem_singleton.1 he]; rfl)) Tryz.underlying22 ni22 ty3 rfl rfl (by rw [List.length_map]; simp only [List.length_cons, List.length_nil]; omega) rfl ?_ | refine W.app 2 (.t rfl) rfl (.sl (.t rfl) (by intro e he; rw [List.mem_singleton.1 he]; rfl)) Tryz.underlying22 ni22 ty3 rfl rfl (by rw [List.length_map]; simp only [List.length_cons, List.length_nil]; omega) rfl ?_ | refine W.app 3 (.t rfl) rfl (.sl (.t rfl) (by intro e he; rw [List.mem_singleton.1 he]; rfl)) Tryz.underlying22 ni22 ty3 rfl rfl (by rw [List.length_map]; simp only [List.length_cons, List.length_nil]; omega) rfl ?_ | refine W.app 4 (.t rfl) rfl (.sl (.t rfl) (by intro e he; rw [List.mem_singleton.1 he]; rfl)) Tryz.underlying22 ni22 ty3 rfl rfl (by rw [List.length_map]; simp only [List.length_cons, List.length_nil]; omega) rfl ?_ | refine W.app 0 (.t rfl) rfl (.arr 0 (.t rfl) rfl (by intro e he; rw [List.mem_singleton.1 he]; rfl)) Tryz.underlying22 ni22 ty3 rfl rfl (by rw [List.length_map]; simp only [List.length_cons, List.length_nil]; omega) rfl ?_ | refine W.app 0 (.t rfl) rfl (.arr 1 (.t rfl) rfl (by intro e he; rw [List.mem_singleton.1 he]; rfl)) Tryz.underlying22 ni22 ty3 rfl rfl (by rw [List.length_map]; simp only [List.length_cons, List.length_nil]; omega) rfl ?_ | refine W.app 0 (.t rfl) rfl (.arr 2 (.t rfl) rfl (by intro e he; rw [List.mem_singleton.1 he]; rfl)) Tryz.underlying22 ni22 ty3 rfl rfl (by rw [List.length_map]; simp only [List.length_cons, List.length_nil]; omega) rfl ?_ | refine W.app 0 (.t rfl) rfl (.arr 3 (.t rfl) rfl (by intro e he; rw [List.mem_singleton.1 he]; rfl)) Tryz.underlying22 ni22 ty3 rfl rfl (by rw [List.length_map]; simp only [List.length_cons, List.length_nil]; omega) rfl ?_ | refine W.app 0 (.t rfl) rfl (.arr 4 (.t rfl) rfl (by intro e he; rw [List.mem_singleton.1 he]; rfl)) Tryz.underlying22 ni22 ty3 rfl rfl (by rw [List.length_map]; simp only [List.length_cons, List.length_nil]; omega) rfl ?_ | refine W.app 1 (.t rfl) rfl (.arr 0 (.t rfl) rfl (by intro e he; rw [List.mem_singleton.1 he]; rfl)) Tryz.underlying22 ni22 ty3 rfl rfl (by rw [List.length_map]; simp only [List.length_cons, List.length_nil]; omega) rfl ?_ | refine W.app 1 (.t rfl) rfl (.arr 1 (.t rfl) rfl (by intro e he; rw [List.mem_singleton.1 he]; rfl)) Tryz.underlying22 ni22 ty3 rfl rfl (by rw [List.length_map]; simp only [List.length_cons, List.length_nil]; omega) rfl ?_ | refine W.app 1 (.t rfl) rfl (.arr 2 (.t rfl) rfl (by intro e he; rw [List.mem_singleton.1 he]; rfl)) Tryz.underlying22 ni22 ty3 rfl rfl (by rw [List.length_map]; simp only [List.length_cons, List.length_nil]; omega) rfl ?_ | refine W.app 1 (.t rfl) rfl (.arr 3 (.t rfl) rfl (by intro e he; rw [List.mem_singleton.1 he]; rfl)) Tryz.underlying22 ni22 ty3 rfl rfl (by rw [List.length_map]; simp only [List.length_cons, List.length_nil]; omega) rfl ?_ | refine W.app 1 (.t rfl) rfl (.arr 4 (.t rfl) rfl (by intro e he; rw [List.mem_singleton.1 he]; rfl)) Tryz.underlying22 ni22 ty3 rfl rfl (by rw [List.length_map]; simp only [List.length_cons, List.length_nil]; omega) rfl ?_ | refine W.app 2 (.t rfl) rfl (.arr 0 (.t rfl) rfl (by intro e he; rw [List.mem_singleton.1 he]; rfl)) Tryz.underlying22 ni22 ty3 rfl rfl (by rw [List.length_map]; simp only [List.length_cons, List.length_nil]; omega) rfl ?_ | refine W.app 2 (.t rfl) rfl (.arr 1 (.t rfl) rfl (by intro e he; rw [List.mem_singleton.1 he]; rfl)) Tryz.underlying22 ni22 ty3 rfl rfl (by rw [List.length_map]; simp only [List.length_cons, List.length_nil]; omega) rfl ?_ | refine W.app 2 (.t rfl) rfl (.arr 2 (.t rfl) rfl (by intro e he; rw [List.mem_singleton.1 he]; rfl)) Tryz.underlying22 ni22 ty3 rfl rfl (by rw [List.length_map]; simp only [List.length_cons, List.length_nil]; omega) rfl ?_ | refine W.app 2 (.t rfl) rfl (.arr 3 (.t rfl) rfl (by intro e he; rw [List.mem_singleton.1 he]; rfl)) Tryz.underlying22 ni22 ty3 rfl rfl (by rw [List.length_map]; simp only [List.length_cons, List.length_nil]; omega) rfl ?_ | refine W.app 2 (.t rfl) rfl (.arr 4 (.t rfl) rfl (by intro e he; rw [List.mem_singleton.1 he]; rfl)) Tryz.underlying22 ni22 ty3 rfl rfl (by rw [List.length_map]; simp only [List.length_cons, List.length_nil]; omega) rfl ?_ | refine W.app 3 (.t rfl) rfl (.arr 0 (.t rfl) rfl (by intro e he; rw [List.mem_singleton.1 he]; rfl)) Tryz.underlying22 ni22 ty3 rfl rfl (by rw [List.length_map]; simp only [List.length_cons, List.length_nil]; omega) rfl ?_ | refine W.app 3 (.t rfl) rfl (.arr 1 (.t rfl) rfl (by intro e he; rw [List.mem_singleton.1 he]; rfl)) Tryz.underlying22 ni22 ty3 rfl rfl (by rw [List.length_map]; simp only [List.length_cons, List.length_nil]; omega) rfl ?_ | refine W.app 3 (.t rfl) rfl (.arr 2 (.t rfl) rfl (by intro e he; rw [List.mem_singleton.1 he]; rfl)) Tryz.underlying22 ni22 ty3 rfl rfl (by rw [List.length_map]; simp only [List.length_cons, List.length_nil]; omega) rfl ?_ | refine W.app 3 (.t rfl) rfl (.arr 3 (.t rfl) rfl (by intro e he; rw [List.mem_singleton.1 he]; rfl)) Tryz.underlying22 ni22 ty3 rfl rfl (by rw [List.length_map]; simp only [List.length_cons, List.length_nil]; omega) rfl ?_ | refine W.app 3 (.t rfl) rfl (.arr 4 (.t rfl) rfl (by intro e he; rw [List.mem_singleton.1 he]; rfl)) Tryz.underlying22 ni22 ty3 rfl rfl (by rw [List.length_map]; simp only [List.length_cons, List.length_nil]; omega) rfl ?_ | refine W.app 4 (.t rfl) rfl (.arr 0 (.t rfl) rfl (by intro e he; rw [List.mem_singleton.1 he]; rfl)) Tryz.underlying22 ni22 ty3 rfl rfl (by rw [List.length_map]; simp only [List.length_cons, List.length_nil]; omega) rfl ?_ | refine W.app 4 (.t rfl) rfl (.arr 1 (.t rfl) rfl (by intro e he; rw [List.mem_singleton.1 he]; rfl)) Tryz.underlying22 ni22 ty3 rfl rfl (by rw [List.length_map]; simp only [List.length_cons, List.length_nil]; omega) rfl ?_ | refine W.app 4 (.t rfl) rfl (.arr 2 (.t rfl) rfl (by intro e he; rw [List.mem_singleton.1 he]; rfl)) Tryz.underlying22 ni22 ty3 rfl rfl (by rw [List.length_map]; simp only [List.length_cons, List.length_nil]; omega) rfl ?_ | refine W.app 4 (.t rfl) rfl (.arr 3 (.t rfl) rfl (by intro e he; rw [List.mem_singleton.1 he]; rfl)) Tryz.underlying22 ni22 ty3 rfl rfl (by rw [List.length_map]; simp only [List.length_cons, List.length_nil]; omega) rfl ?_ | refine W.app 4 (.t rfl) rfl (.arr 4 (.t rfl) rfl (by intro e he; rw [List.mem_singleton.1 he]; rfl)) Tryz.underlying22 ni22 ty3 rfl rfl (by rw [List.length_map]; simp only [List.length_cons, List.length_nil]; omega) rfl ?_
     intro v67; refine W.freezeA (M1 := [.arr v 110 2 (Q.map qav), .arr v15 4 1 (rowB a.next.length (fun k => if k = (a.to (m1 : Int) (d : Int)).toNat then true else sn k)), .box b6 110 [.int (m1 : Int), .sl 1 (m2.map AV.int)], .box b1 62 [.sl 1 (a.next.map pav), .sl 1 (a.final.map AV.bool)]]) (M2 := [.arr v 110 2 (Q.map qav), .arr v15 4 1 (rowB a.next.length (fun k => if k = (a.to (m1 : Int) (d : Int)).toNat then true else sn k)), .box b6 110 [.int (m1 : Int), .sl 1 (m2.map AV.int)], .box b1 62 [.sl 1 (a.next.map pav), .sl 1 (a.final.map AV.bool)]]) (D := []) (v := v67) (L' := [(67, true, .sl 1 ((m2 ++ [(d : Int)]).map AV.int))]) (by rw [List.map_append, ← rowB_set]; exact .refl _) ⟨⟨_, rfl, .one .hit⟩, trivial⟩ (FrzMs.refl _) ?_; refine W.q (.build ty110 st110 rfl (fun hg => ⟨_, _, _, rfl, (.t rfl), rfl, rfl, rfl, _, _, _, rfl, (.t rfl), rfl, rfl, rfl, rfl⟩)) rfl ?_; refine W.bs (es := [_]) Tryz.underlying111 ty110 ⟨rfl, (.t rfl), rfl, rfl, trivial⟩ rfl (by decide) rfl rfl ?_
     first | refine W.app 0 (.t rfl) rfl (.sl (.t rfl) (by intro e he; rw [List.mem_singleton.1 he]; rfl)) Tryz.underlying111 ni111 ty110 rfl rfl (by rw [List.length_map]; simp only [List.length_cons, List.length_nil]; omega) rfl ?_ | refine W.app 1 (.t rfl) rfl (.sl (.t rfl) (by intro e he; rw [List.mem_singleton.1 he]; rfl)) Tryz.underlying111 ni111 ty110 rfl rfl (by rw [List.length_map]; simp only [List.length_cons, List.length_nil]; omega) rfl ?_ | refine W.app 2 (.t rfl) rfl (.sl (.t rfl) (by intro e he; rw [List.mem_singleton.1 he]; rfl)) Tryz.underlying111 ni111 ty110 rfl rfl (by rw [List.length_map]; simp only [List.length_cons, List.length_nil]; omega) rfl ?_ | refine W.app 3 (.t rfl) rfl (.sl (.t rfl) (by intro e he; rw [List.mem_singleton.1 he]; rfl)) Tryz.underlying111 ni111 ty110 rfl rfl (by rw [List.length_map]; simp only [List.length_cons, List.length_nil]; omega) rfl ?_ | refine W.app 4 (.t rfl) rfl (.sl (.t rfl) (by intro e he; rw [List.mem_singleton.1 he]; rfl)) Tryz.underlying111 ni111 ty110 rfl rfl (by rw [List.length_map]; simp only [List.length_cons, List.length_nil]; omega) rfl ?_ | refine W.app 0 (.t rfl) rfl (.arr 0 (.t rfl) rfl (by intro e he; rw [List.mem_singleton.1 he]; rfl)) Tryz.underlying111 ni111 ty110 rfl rfl (by rw [List.length_map]; simp only [List.length_cons, List.length_nil]; omega) rfl ?_ | refine W.app 0 (.t rfl) rfl (.arr 1 (.t rfl) rfl (by intro e he; rw [List.mem_singleton.1 he]; rfl)) Tryz.underlying111 ni111 ty110 rfl rfl (by rw [List.length_map]; simp only [List.length_cons, List.length_nil]; omega) rfl ?_ | refine W.app 0 (.t rfl) rfl (.arr 2 (.t rfl) rfl (by intro e he; rw [List.mem_singleton.1 he]; rfl)) Tryz.underlying111 ni111 ty110 rfl rfl (by rw [List.length_map]; simp only [List.length_cons, List.length_nil]; omega) rfl ?_ | refine W.app 0 (.t rfl) rfl (.arr 3 (.t rfl) rfl (by intro e he; rw [List.mem_singleton.1 he]; rfl)) Tryz.underlying111 ni111 ty110 rfl rfl (by rw [List.length_map]; simp only [List.length_cons, List.length_nil]; omega) rfl ?_ | refine W.app 0 (.t rfl) rfl (.arr 4 (.t rfl) rfl (by intro e he; rw [List.mem_singleton.1 he]; rfl)) Tryz.underlying111 ni111 ty110 rfl rfl (by rw [List.length_map]; simp only [List.length_cons, List.length_nil]; omega) rfl ?_ | refine W.app 1 (.t rfl) rfl (.arr 0 (.t rfl) rfl (by intro e he; rw [List.mem_singleton.1 he]; rfl)) Tryz.underlying111 ni111 ty110 rfl rfl (by rw [List.length_map]; simp only [List.length_cons, List.length_nil]; omega) rfl ?_ | refine W.app 1 (.t rfl) rfl (.arr 1 (.t rfl) rfl (by intro e he; rw [List.mem_singleton.1 he]; rfl)) Tryz.underlying111 ni111 ty110 rfl rfl (by rw [List.length_map]; simp only [List.length_cons, List.length_nil]; omega) rfl ?_ | refine W.app 1 (.t rfl) rfl (.arr 2 (.t rfl) rfl (by intro e he; rw [List.mem_singleton.1 he]; rfl)) Tryz.underlying111 ni111 ty110 rfl rfl (by rw [List.length_map]; simp only [List.length_cons, List.length_nil]; omega) rfl ?_ | refine W.app 1 (.t rfl) rfl (.arr 3 (.t rfl) rfl (by intro e he; rw [List.mem_singleton.1 he]; rfl)) Tryz.underlying111 ni111 ty110 rfl rfl (by rw [List.length_map]; simp only [List.length_cons, List.length_nil]; omega) rfl ?_ | refine W.app 1 (.t rfl) rfl (.arr 4 (.t rfl) rfl (by intro e he; rw [List.mem_singleton.1 he]; rfl)) Tryz.underlying111 ni111 ty110 rfl rfl (by rw [List.length_map]; simp only [List.length_cons, List.length_nil]; omega) rfl ?_ | refine W.app 2 (.t rfl) rfl (.arr 0 (.t rfl) rfl (by intro e he; rw [List.mem_singleton.1 he]; rfl)) Tryz.underlying111 ni111 ty110 rfl rfl (by rw [List.length_map]; simp only [List.length_cons, List.length_nil]; omega) rfl ?_ | refine W.app 2 (.t rfl) rfl (.arr 1 (.t rfl) rfl (by intro e he; rw [List.mem_singleton.1 he]; rfl)) Tryz.underlying111 ni111 ty110 rfl rfl (by rw [List.length_map]; simp only [List.length_cons, List.length_nil]; omega) rfl ?_ | refine W.app 2 (.t rfl) rfl (.arr 2 (.t rfl) rfl (by intro e he; rw [List.mem_singleton.1 he]; rfl)) Tryz.underlying111 ni111 ty110 rfl rfl (by rw [List.length_map]; simp only [List.length_cons, List.length_nil]; omega) rfl ?_ | refine W.app 2 (.t rfl) rfl (.arr 3 (.t rfl) rfl (by intro e he; rw [List.mem_singleton.1 he]; rfl)) Tryz.underlying111 ni111 ty110 rfl rfl (by rw [List.length_map]; simp only [List.length_cons, List.length_nil]; omega) rfl ?_ | refine W.app 2 (.t rfl) rfl (.arr 4 (.t rfl) rfl (by intro e he; rw [List.mem_singleton.1 he]; rfl)) Tryz.underlying111 ni111 ty110 rfl rfl (by rw [List.length_map]; simp only [List.length_cons, List.length_nil]; omega) rfl ?_ | refine W.app 3 (.t rfl) rfl (.arr 0 (.t rfl) rfl (by intro e he; rw [List.mem_singleton.1 he]; rfl)) Tryz.underlying111 ni111 ty110 rfl rfl (by rw [List.length_map]; simp only [List.length_cons, List.length_nil]; omega) rfl ?_ | refine W.app 3 (.t rfl) rfl (.arr 1 (.t rfl) rfl (by intro e he; rw [List.mem_singleton.1 he]; rfl)) Tryz.underlying111 ni111 ty110 rfl rfl (by rw [List.length_map]; simp only [List.length_cons, List.length_nil]; omega) rfl ?_ | refine W.app 3 (.t rfl) rfl (.arr 2 (.t rfl) rfl (by intro e he; rw [List.mem_singleton.1 he]; rfl)) Tryz.underlying111 ni111 ty110 rfl rfl (by rw [List.length_map]; simp only [List.length_cons, List.length_nil]; omega) rfl ?_ | refine W.app 3 (.t rfl) rfl (.arr 3 (.t rfl) rfl (by intro e he; rw [List.mem_singleton.1 he]; rfl)) Tryz.underlying111 ni111 ty110 rfl rfl (by rw [List.length_map]; simp only [List.length_cons, List.length_nil]; omega) rfl ?_ | refine W.app 3 (.t rfl) rfl (.arr 4 (.t rfl) rfl (by intro e he; rw [List.mem_singleton.1 he]; rfl)) Tryz.underlying111 ni111 ty110 rfl rfl (by rw [List.length_map]; simp only [List.length_cons, List.length_nil]; omega) rfl ?_ | refine W.app 4 (.t rfl) rfl (.arr 0 (.t rfl) rfl (by intro e he; rw [List.mem_singleton.1 he]; rfl)) Tryz.underlying111 ni111 ty110 rfl rfl (by rw [List.length_map]; simp only [List.length_cons, List.length_nil]; omega) rfl ?_ | refine W.app 4 (.t rfl) rfl (.arr 1 (.t rfl) rfl (by intro e he; rw [List.mem_singleton.1 he]; rfl)) Tryz.underlying111 ni111 ty110 rfl rfl (by rw [List.length_map]; simp only [List.length_cons, List.length_nil]; omega) rfl ?_ | refine W.app 4 (.t rfl) rfl (.arr 2 (.t rfl) rfl (by intro e he; rw [List.mem_singleton.1 he]; rfl)) Tryz.underlying111 ni111 ty110 rfl rfl (by rw [List.length_map]; simp only [List.length_cons, List.length_nil]; omega) rfl ?_ | refine W.app 4 (.t rfl) rfl (.arr 3 (.t rfl) rfl (by intro e he; rw [List.mem_singleton.1 he]; rfl)) Tryz.underlying111 ni111 ty110 rfl rfl (by rw [List.length_map]; simp only [List.length_cons, List.length_nil]; omega) rfl ?_ | refine W.app 4 (.t rfl) rfl (.arr 4 (.t rfl) rfl (by intro e he; rw [List.mem_singleton.1 he]; rfl)) Tryz.underlying111 ni111 ty110 rfl rfl (by rw [List.length_map]; simp only [List.length_cons, List.length_nil]; omega) rfl ?_
     intro v70; refine W.q (.assign (.t rfl)) rfl ?_; refine W.n ?_; refine W.bn ?_; refine W.h ?_; refine W.r ?_
     first | refine W.q (.add (.t rfl) .k (fun _ => by omega)) rfl ?_ | refine W.q (.addw (.t rfl) .k) rfl ?_
     refine W.q (.move (.t rfl)) rfl ?_; refine W.n ?_; refine W.h ?_; refine W.reach (D := []) (d + 1, (fun k => if k = (a.to (m1 : Int) (d : Int)).toNat then true else sn k), Q ++ [((a.to (m1 : Int) (d : Int)).toNat, m2 ++ [(d : Int)])], _) ⟨rfl, rfl, rfl, rfl, rfl, rfl, rfl, trivial⟩ ?_ ⟨⟨?_, hd8, ?_, ?_, ?_⟩, by show 8 - (d + 1) < 8 - d; omega⟩
     ·dsimp only; rw [List.map_append (f := qav), show List.map qav [((a.to (m1 : Int) (d : Int)).toNat, m2 ++ [(d : Int)])] = [AV.agg [.int (a.to (m1 : Int) (d : Int)), .sl 1 ((m2 ++ [(d : Int)]).map AV.int)]] from by show [qav _] = _; unfold qav; rw [Int.toNat_of_nonneg ht1]]; exact .refl _
     ·obtain ⟨Q1, Q2, D, h, hQ, hhd, hL⟩ := hI
      have h9 := hL.push hd8 (t := (a.to (m1 : Int) (d : Int)).toNat) (by omega) (by rw [hhd]; show a.to (m1 : Int) (d : Int) = _; omega)
      rw [hhd] at h9
      exact ⟨Q1, _, D, h, by rw [← List.append_assoc, hQ], hhd, h9⟩
     ·dsimp only; rw [List.length_append, List.length_singleton]; omega
     ·dsimp only; intro q hq; rcases List.mem_append.1 hq with hq | hq
      ·have := hw q hq; omega
      ·rw [List.mem_singleton.1 hq]; show (m2 ++ [(d : Int)]).length + 1 + _ ≤ _; rw [List.length_append, List.length_singleton]; omega
     ·dsimp only; rw [List.length_append, List.length_singleton]; omega
    ·refine W.k ?_
     refine W.bn (.h (.r ?_))
     first | refine W.q (.add (.t rfl) .k (fun _ => by omega)) rfl ?_ | refine W.q (.addw (.t rfl) .k) rfl ?_
     refine W.q (.move (.t rfl)) rfl ?_; refine W.n ?_; refine W.h ?_; refine W.reach (D := []) (d + 1, sn, Q, v) ⟨rfl, rfl, rfl, rfl, rfl, rfl, rfl, trivial⟩ (.refl _) ⟨⟨?_, hd8, hql, hw, hmu2⟩, by show 8 - (d + 1) < 8 - d; omega⟩
     obtain ⟨Q1, Q2, D, h, hQ, hhd, hL⟩ := hI
     refine ⟨Q1, Q2, D, h, hQ, hhd, hL.skip fun t ht => ?_⟩
     rw [hhd] at ht
     replace ht : a.to (m1 : Int) (d : Int) = (t : Int) := ht
     cases hsn : sn t with
     | true => rfl
     | false => exact absurd hc_t56 (by rw [ht, Int.toNat_natCast, hsn]; simp)
   ·subst hend
    refine W.arr_lit 0 rfl (by rw [List.length_map]; omega) ?_; intro g off cq hv hc1 hc2
    rw [List.length_map] at hv hc1
    subst hv
    refine W.s ?_; refine W.r ?_; refine W.q (.lti (.t rfl) (.t rfl)) rfl ?_; refine W.n ?_; refine W.h ?_; refine W.s ?_; refine W.isb 44 false rfl (by rfl) ?_; refine W.condF (.t rfl) ?_; refine W.ex ?_; refine W.he ?_; refine W.he ?_; refine W.bh ?_; refine W.bn ?_; refine W.h ?_; refine W.r ?_; refine W.q (.move (.t rfl)) rfl ?_; refine W.q (.slit (v := tailV g off 2 Q.length cq) (lo := some (.const (.int .i64 1))) (hi := none) (.t rfl) Tryz.underlying111 ty110 (Ov.k (g := true) (L := [])) rfl (fun _ => by omega) (by unfold tailV; rw [show (1 : Int).toNat = 1 from rfl]; split <;> simp [Addr.add_lit])) rfl ?_; refine W.arr_tail 0 rfl (by rw [List.length_map]; omega) ?_; refine W.q (.assign (.t rfl)) rfl ?_; refine W.n ?_; refine W.h ?_
    obtain ⟨Q1, Q2, D, h, hQ, hhd, hL⟩ := hI
    have hp := hL.pop hs (by rw [hhd]; exact hf0)
    have hQd : Q.drop 1 = Q1.drop 1 ++ Q2 := by rw [← hQ, List.drop_append_of_le_length (List.length_pos_iff.2 hL.ne)]
    refine W.reach (D := [.box b6 110 [.int (m1 : Int), .sl 1 (m2.map AV.int)]]) (sn, Q.drop 1, tailV g off 2 Q.length cq) ⟨rfl, rfl, rfl, trivial⟩ ?_ ⟨⟨?_, ?_, ?_, ?_⟩, ?_⟩
    ·dsimp only; rw [List.map_drop]; exact List.Perm.cons _ (List.Perm.cons _ (List.Perm.swap _ _ _))
    ·dsimp only; intro hne; rw [hQd] at hne; obtain ⟨P1, P2, D', h', e, hP⟩ := hp.2 hne; exact ⟨P1, P2, D', h', e.trans hQd.symm, hP⟩
    ·dsimp only; intro he u; exact hp.1 (by rw [← hQd]; exact he) u
    ·dsimp only; rw [List.length_drop]; omega
    ·dsimp only; exact fun q hq => hw q (List.mem_of_mem_drop hq)
    ·show 2 * outs a.next.length sn + (Q.drop 1).length < _; rw [List.length_drop]; omega
 ·subst hQe
  refine W.s (.s (.r (.mv rfl rfl ?_)))
  first | refine W.q (.lensl (.t rfl) Tryz.underlying111) rfl ?_ | refine W.q (.lenar (i := 0) (.t rfl) rfl Tryz.underlying111) rfl ?_ | refine W.q (.lenar (i := 1) (.t rfl) rfl Tryz.underlying111) rfl ?_ | refine W.q (.lenar (i := 2) (.t rfl) rfl Tryz.underlying111) rfl ?_ | refine W.q (.lenar (i := 3) (.t rfl) rfl Tryz.underlying111) rfl ?_ | refine W.q (.lenar (i := 4) (.t rfl) rfl Tryz.underlying111) rfl ?_
  refine W.q (.gti (.t rfl) .k) rfl (.n (.h (.isb 22 false rfl (by rfl) (.condF (.t rfl) (.ex (.he (.he (.bh (.h (.s (.r (.q (.assign .k) rfl (.q (.assign .k) rfl (.n ?_)))))))))))))); refine W.conv (t := 2) (av' := .sl 1 []) rfl (fun w N v h => by rw [Rep.lit_iff.1 h]; exact Rep.nil w N 1) ?_; refine W.h ?_; refine W.ret ?_; refine W.retn (M' := []) (D := _) (rs := [.tmp 2, .tmp 3]) (avs := [_, _]) Tryz.results26 ⟨rfl, rfl, trivial⟩ rfl (.refl _) ?_
  exact ⟨rfl, .inr ⟨hq1 rfl, rfl⟩⟩
end WLeast
end Go.Proofs.YtphlkdbglpcikaaGreatDoor
end
section
namespace Go.Proofs.YtphlkdbglpcikaaGreatDoor
open Go.Vl
open Y
namespace WASame
theorem c_IndexFuncQ (l : List (Int × Int)) (g : Nat) (caps : List Value) (M0 : List ME) (p : (Int × Int) → Bool) (hg : ∀ d ∈ l, FnC Tryz.prog g ([prav d] ++ caps.map .lit) M0 (fun r M => r = .bool (p d) ∧ M = M0)) (hn : l.length ≤ 1099511627776) : FnC Tryz.prog 82 [.sl 2 (l.map prav), .lit (.func (.func g) #[] caps.toArray)] M0 (fun r M => r = .int (idxI p l) ∧ M = M0) :=  by
 refine FnC.mk Tryz.func82 (by kernel_rfl) rfl Tryz.ntmps82 rfl (fun w0 F => ?_)
 have hnl : (l.map prav).length = l.length := List.length_map ..
 refine W.s (.r (.q (.assign .k) rfl (.n (.h (.s (.s (.r (.mv rfl rfl (.q (.lensl (.t rfl) Tryz.underlying103) rfl (.q (.move .k) rfl (.n (.h (.b ?_))))))))))))); refine W.loop (D := []) (ι := Nat) (fun i => [(8, true, .int (i : Int)), (7, true, .int ((l.map prav).length : Int)), (0, true, .sl 2 (l.map prav)), (1, true, .lit (.func (.func g) #[] caps.toArray))]) (fun _ => M0) (fun i => i ≤ l.length ∧ ∀ d ∈ l.take i, p d = false) (fun i => l.length - i) 0 ⟨rfl, rfl, rfl, rfl, trivial⟩ (List.Perm.of_eq (List.append_nil _).symm) ⟨Nat.zero_le _, by simp⟩ ?_
 rintro i ⟨hi1, hi2⟩
 dsimp only at hi1 hi2 ⊢
 rcases (show i < l.length ∨ i = l.length from by omega) with hlt | hend
 ·have hga := getD_mapG prav (0, 0) l i hlt
  refine W.s (.r (.q (.lti (.t rfl) (.t rfl)) rfl (.n (.h (.s ?_))))); refine W.isb 9 true rfl (by simp; omega) ?_; refine W.condT (.t rfl) (.k (.h (.s (.b (.s (.r (.mv rfl rfl (.asg rfl rfl (.n (.h (.s (.r (.mv rfl rfl (.mv rfl rfl (.mv rfl rfl ?_))))))))))))))); refine W.q (.at (E := 107) (.t rfl) (.t rfl) Tryz.underlying103 ty107 (fun _ => ⟨by omega, hga⟩) rfl rfl) rfl ?_; refine W.q (.lden (.t rfl) ag107 ty107 rfl rfl) rfl ?_; refine W.callv (caps := caps) (avs := [_]) (hg (l.getD i (0, 0)) (getD_memG (0, 0) l i hlt)) (.t rfl) ⟨(.t rfl), trivial⟩ rfl ((List.Perm.of_eq (List.append_nil _).symm)) rfl ?_
  rintro _ M' ⟨rfl, hM⟩
  rw [hM, List.append_nil]
  refine W.n ?_; refine W.h ?_; refine W.cond (.t rfl) (fun hc_t16 => ?_) (fun hc_t16 => ?_)
  ·have hq := idxI_hit p (0, 0) l i hlt hi2 hc_t16
   refine W.s (.r (.mv rfl rfl (.asg rfl rfl (.n (.h ?_))))); refine W.ret ?_; refine W.br (.hr (.hr (.br (.hr ?_)))); refine W.retn (M' := M0) (D := []) (rs := [.tmp 4]) (avs := [_]) Tryz.results82 ⟨rfl, trivial⟩ rfl (List.Perm.of_eq (List.append_nil _).symm) ?_
   exact ⟨congrArg AV.int (by rw [hq]), rfl⟩
  ·have hq : p (l.getD i (0, 0)) = false := hc_t16
   refine W.k (.bn (.h (.r (.q (.add (.t rfl) .k (fun _ => by omega)) rfl ?_))))
   refine W.q (.move (.t rfl)) rfl ?_; refine W.n ?_; refine W.h ?_; refine W.reach (D := []) (i + 1) ⟨rfl, rfl, rfl, rfl, trivial⟩ (List.Perm.of_eq (List.append_nil _).symm) ⟨⟨by omega, ?_⟩, by omega⟩
   rw [take_getDG (0, 0) l i hlt]
   intro d hd
   cases List.mem_append.1 hd with
   | inl h => exact hi2 d h
   | inr h => rw [List.mem_singleton.1 h]; exact hq
 ·rw [List.take_of_length_le (by omega)] at hi2
  have hq := idxI_miss p l hi2
  refine W.s (.r (.q (.lti (.t rfl) (.t rfl)) rfl (.n (.h (.s ?_))))); refine W.isb 9 false rfl (by simp; omega) ?_; refine W.condF (.t rfl) (.ex (.he (.he (.bh (.h (.s (.r (.q (.assign .k) rfl (.n (.h ?_)))))))))); refine W.ret ?_; refine W.retn (M' := M0) (D := []) (rs := [.tmp 4]) (avs := [_]) Tryz.results82 ⟨rfl, trivial⟩ rfl (List.Perm.of_eq (List.append_nil _).symm) ?_
  exact ⟨congrArg AV.int (by rw [hq]), rfl⟩
theorem c_ContainsFuncQ (l : List (Int × Int)) (g : Nat) (caps : List Value) (M0 : List ME) (p : (Int × Int) → Bool) (hg : ∀ d ∈ l, FnC Tryz.prog g ([prav d] ++ caps.map .lit) M0 (fun r M => r = .bool (p d) ∧ M = M0)) (hn : l.length ≤ 1099511627776) : FnC Tryz.prog 44 [.sl 2 (l.map prav), .lit (.func (.func g) #[] caps.toArray)] M0 (fun r M => r = .bool (l.any p) ∧ M = M0) :=  by
 refine FnC.mk Tryz.func44 (by kernel_rfl) rfl Tryz.ntmps44 rfl (fun w0 F => ?_)
 refine W.s (.r (.q (.assign .k) rfl (.n (.h (.s (.r (.mv rfl rfl (.mv rfl rfl ?_)))))))); refine W.call (c_IndexFuncQ l g caps M0 p hg hn) ⟨(.t rfl), (.t rfl), trivial⟩ ((List.Perm.of_eq (List.append_nil _).symm)) rfl ?_
 rintro _ M' ⟨rfl, hM⟩
 rw [hM, List.append_nil]
 refine W.q (.gei (.t rfl) .k) rfl (.asg rfl rfl (.n (.h ?_))); refine W.ret ?_; refine W.retn (M' := M0) (D := []) (rs := [.tmp 4]) (avs := [_]) Tryz.results44 ⟨rfl, trivial⟩ rfl (List.Perm.of_eq (List.append_nil _).symm) ?_
 exact ⟨congrArg AV.bool (idxI_any p l), rfl⟩
theorem c_Same1 (a b : Au) (hsa : a.Shape) (hsb : b.Shape) (ha : a.next.length ≤ 40) (hb : b.next.length ≤ 40) (p : Int × Int) (h1 : p.1 < a.next.length) (h2 : p.2 < b.next.length) (b2 b3 : Nat) : FnC Tryz.prog 45 ([prav p] ++ ([.pointer (some ⟨b2, 0, none⟩), .pointer (some ⟨b3, 0, none⟩)] : List Value).map .lit) [.box b3 62 [.sl 1 (b.next.map pav), .sl 1 (b.final.map AV.bool)], .box b2 62 [.sl 1 (a.next.map pav), .sl 1 (a.final.map AV.bool)]] (fun r M => r = .bool (a.fin p.1 != b.fin p.2) ∧ M = [.box b3 62 [.sl 1 (b.next.map pav), .sl 1 (b.final.map AV.bool)], .box b2 62 [.sl 1 (a.next.map pav), .sl 1 (a.final.map AV.bool)]]) :=  by
 refine FnC.mk Tryz.func45 (by kernel_rfl) rfl Tryz.ntmps45 rfl (fun w0 F => ?_)
 refine W.s ?_; refine W.r ?_; refine W.box (.t rfl) rfl rfl ?_; intro b3; refine W.q (.assign .k) rfl ?_; refine W.n ?_; refine W.h ?_; refine W.s ?_; refine W.drawnE (ι := Unit) (fun _ _ => _) 10 () (by kernel_rfl) (by kernel_rfl) rfl ?_
 refine DE.q (fun e c hk => (.ldbn 2 (.t rfl) rfl ag62 ty62 rfl)) rfl (fun _ _ => rfl) (.inr fun _ _ => rfl) (.q (fun e c hk => (.fab (.t rfl) fa107_0)) rfl (fun _ _ => rfl) (.inr fun _ _ => rfl) (.q (fun e c hk => (.ldb1 0 (.t rfl) rfl ag3 rfl)) rfl (fun _ _ => rfl) (.inr fun _ _ => rfl) (.callp (fun c => WFinal.c_final a hsa ha p.1 h1) (fun c => ⟨(.t rfl), (.t rfl), trivial⟩) rfl (fun _ _ => rfl) (.inr fun _ _ => rfl) (.q (fun e c hk => (.ldbn 1 (.t rfl) rfl ag62 ty62 rfl)) rfl (fun _ _ => rfl) (.inr fun _ _ => rfl) (.q (fun e c hk => (.fab (.t rfl) fa107_1)) rfl (fun _ _ => rfl) (.inr fun _ _ => rfl) (.q (fun e c hk => (.ldb1 0 (.t rfl) rfl ag3 rfl)) rfl (fun _ _ => rfl) (.inr fun _ _ => rfl) ?_))))))
 refine DE.callp (fun c => WFinal.c_final b hsb hb p.2 h2) (fun c => ⟨(.t rfl), (.t rfl), trivial⟩) rfl (fun _ _ => rfl) (.inr fun _ _ => rfl) ?_; refine DE.q (fun e c hk => (.neb (.t rfl) (.t rfl) Tryz.underlying4)) rfl (fun _ _ => rfl) (.inr fun _ _ => rfl) ?_; refine DE.q (fun e c hk => (.assign (.t rfl))) rfl (fun _ _ => rfl) (.inr fun _ _ => rfl) ?_; refine DE.nil (fun c_ e_ he_ => ?_)
 dsimp only
 refine W.h ?_; refine W.ret ?_; refine W.retn (M' := [_, _]) (D := _) (rs := [.tmp 4]) (avs := [_]) Tryz.results45 ⟨rfl, trivial⟩ rfl (List.perm_append_comm (l₁ := [_])) ?_
 exact ⟨congrArg AV.bool (by cases a.fin p.1 <;> cases b.fin p.2 <;> rfl), rfl⟩
theorem c_Same (a b : Au) (hsa : a.Shape) (hsb : b.Shape) (ha : a.next.length ≤ 40) (hb : b.next.length ≤ 40) : FnC Tryz.prog 27 [.agg [.sl 1 (a.next.map pav), .sl 1 (a.final.map AV.bool)], .agg [.sl 1 (b.next.map pav), .sl 1 (b.final.map AV.bool)]] [] (fun r M => M = [] ∧ ∃ e : Bool, (e = true ↔ ∀ u, a.acc 0 u ↔ b.acc 0 u) ∧ r = .tup [.bool e, .int 0]) :=  by
 refine FnC.mk Tryz.func27 (by kernel_rfl) rfl Tryz.ntmps27 rfl (fun w0 F => ?_)
 refine W.s ?_; refine W.r ?_; refine W.box (.t rfl) rfl rfl ?_; intro b2; refine W.box (.t rfl) rfl rfl ?_; intro b3; refine W.q (.assign .k) rfl ?_; refine W.q (.assign .k) rfl ?_; refine W.n ?_; refine W.h ?_; refine W.s ?_; refine W.s ?_; refine W.r ?_
 refine W.q (.ldbn 1 (.t rfl) rfl ag62 ty62 rfl) rfl ?_; refine W.callp (WMay.c_May a hsa ha) ⟨(.t rfl), trivial⟩ rfl ?_; refine W.q (.not (.t rfl)) rfl (.mv rfl rfl (.gyes rfl rfl (.q (.ldbn 0 (.t rfl) rfl ag62 ty62 rfl) rfl (.gyes rfl rfl ?_)))); refine W.callp (WMay.c_May b hsb hb) ⟨(.t rfl), trivial⟩ rfl ?_; refine W.gyes rfl rfl (.q (.not (.t rfl)) rfl ?_); refine W.q (.or (.t rfl) ⟨_, _, rfl, rfl, by ((simp; done))⟩) rfl ?_; refine W.n (.h (.isb 15 false rfl (by rfl) (.condF (.t rfl) (.k (.h (.s (.r (.q (.ldbn 1 (.t rfl) rfl ag62 ty62 rfl) rfl (.q (.ldbn 0 (.t rfl) rfl ag62 ty62 rfl) rfl ?_))))))))); refine W.call (WPairs.c_pairs a b hsa hsb ha hb) ⟨(.t rfl), (.t rfl), trivial⟩ (.refl _) rfl ?_
 rintro _ _ ⟨v20, v21, all, T, hP, hl2, rfl, rfl⟩
 have hall : all.length ≤ 41 * 41 := Nat.le_trans hl2 (Nat.mul_le_mul (by omega) (by omega))
 refine W.q (.move (.t rfl)) rfl ?_; refine W.q (.extract (.t rfl) rfl) rfl ?_; refine W.q (.extract (.t rfl) rfl) rfl ?_; refine W.q (.assign (.t rfl)) rfl ?_; refine W.q (.assign (.t rfl)) rfl ?_; refine W.n ?_; refine W.h ?_; refine W.s ?_; refine W.r ?_; refine W.freezeA (M1 := _) (M2 := _) (D := []) (v := v20) (L' := [(6, true, .sl 2 (all.map prav))]) (by rw [List.append_nil] <;> exact List.perm_middle (l₁ := [_])) ⟨⟨_, rfl, .one .hit⟩, trivial⟩ (FrzMs.refl _) ?_; refine W.q (.move (.t rfl)) rfl ?_; refine W.q (.mkfn (caps := [.tmp 2, .tmp 3]) (vs := [_, _]) ⟨(.t rfl), (.t rfl), trivial⟩) rfl ?_; refine W.call (c_ContainsFuncQ all 45 [.pointer (some ⟨b2, 0, none⟩), .pointer (some ⟨b3, 0, none⟩)] [.box b3 62 [.sl 1 (b.next.map pav), .sl 1 (b.final.map AV.bool)], .box b2 62 [.sl 1 (a.next.map pav), .sl 1 (a.final.map AV.bool)]] (fun p => a.fin p.1 != b.fin p.2) (fun p hp => c_Same1 a b hsa hsb ha hb p (hP.rng p hp).u1 (hP.rng p hp).u2 b2 b3) (by omega)) ⟨(.t rfl), (.t rfl), trivial⟩ ((List.perm_append_comm (l₁ := [_]))) rfl ?_
 rintro _ _ ⟨rfl, rfl⟩
 refine W.q (.not (.t rfl)) rfl (.asg rfl rfl (.q (.assign .k) rfl (.n (.h ?_)))); refine W.ret ?_; refine W.retn (M' := []) (D := _) (rs := [.tmp 4, .tmp 5]) (avs := [_, _]) Tryz.results27 ⟨rfl, rfl, trivial⟩ rfl (.refl _) ?_
 refine ⟨rfl, _, ?_, rfl⟩
 rw [← hP.same]
 simp
end WASame
end Go.Proofs.YtphlkdbglpcikaaGreatDoor
end
section
namespace Go.Proofs.YtphlkdbglpcikaaGreatDoor
open Go.Vl
open Y
namespace WTSame
theorem c_sameInts (a b : List Int) (ha : a.length ≤ 1099511627776) : FnP Tryz.prog 28 [.sl 1 (a.map AV.int), .sl 1 (b.map AV.int)] (.bool (decide (a = b))) :=  by
 refine FnC.mk Tryz.func28 (by kernel_rfl) rfl Tryz.ntmps28 rfl (fun w0 F => ?_)
 have hla : (a.map AV.int).length = a.length := List.length_map ..
 have hlb : (b.map AV.int).length = b.length := List.length_map ..
 refine W.s (.r (.q (.assign .k) rfl (.n (.h (.s (.s (.r (.mv rfl rfl (.q (.lensl (.t rfl) Tryz.underlying22) rfl (.mv rfl rfl (.q (.lensl (.t rfl) Tryz.underlying22) rfl ?_)))))))))))
 refine W.q (.nei (.t rfl) (.t rfl)) rfl ?_; refine W.n ?_; refine W.h ?_; refine W.cond (.t rfl) (fun hc_t10 => ?_) (fun hc_t10 => ?_)
 ·have hne : a ≠ b := by rintro rfl; simp at hc_t10
  refine W.s (.r (.q (.assign .k) rfl (.n (.h ?_)))); refine W.ret ?_; refine W.hr ?_; refine W.retn (M' := []) (rs := [.tmp 4]) (avs := [_]) Tryz.results28 ⟨rfl, trivial⟩ rfl (.refl _) ?_
  (exact ⟨congrArg AV.bool (decide_eq_false hne).symm, rfl⟩)
 ·have hlen : a.length = b.length := by simp at hc_t10; omega
  refine W.k (.h (.s (.s (.r (.q (.assign .k) rfl (.n (.h (.b ?_)))))))); refine W.loop (D := []) (ι := Nat) (fun i => [(5, true, .int (i : Int)), (0, true, .sl 1 (a.map AV.int)), (1, true, .sl 1 (b.map AV.int))]) (fun _ => []) (fun i => i ≤ a.length ∧ ∀ j, j < i → a[j]? = b[j]?) (fun i => a.length - i) 0 ⟨rfl, rfl, rfl, trivial⟩ (.refl _) ⟨Nat.zero_le _, by intro j hj; omega⟩ ?_
  rintro i ⟨hi1, hi2⟩
  dsimp only at hi1 hi2 ⊢
  refine W.s (.s (.r (.mv rfl rfl (.mv rfl rfl (.q (.lensl (.t rfl) Tryz.underlying22) rfl ?_)))))
  refine W.q (.lti (.t rfl) (.t rfl)) rfl ?_; refine W.n ?_; refine W.h ?_; refine W.cond (.t rfl) (fun hc_t14 => ?_) (fun hc_t14 => ?_)
  ·have hlt : i < a.length := by simp at hc_t14; omega
   refine W.k (.h (.s (.b (.s ?_)))); refine W.drawn (by kernel_rfl) (by kernel_rfl) ?_
   have hga : (a.map AV.int)[i]? = some (AV.int a[i]) := by rw [List.getElem?_map, List.getElem?_eq_getElem hlt]; rfl
   have hgb : (b.map AV.int)[i]? = some (AV.int (b[i]'(by omega))) := by rw [List.getElem?_map, List.getElem?_eq_getElem (by omega)]; rfl
   refine DP.q (.move (.t rfl)) rfl (.q (.move (.t rfl)) rfl ?_); refine DP.q (.at (E := 3) (.t rfl) (.t rfl) Tryz.underlying22 ty3 (fun _ => ⟨by omega, hga⟩) rfl rfl) rfl ?_; refine DP.q (.lde1 (.t rfl) ag3) rfl (.q (.move (.t rfl)) rfl (.q (.move (.t rfl)) rfl ?_)); refine DP.q (.at (E := 3) (.t rfl) (.t rfl) Tryz.underlying22 ty3 (fun _ => ⟨by omega, hgb⟩) rfl rfl) rfl ?_; refine DP.q (.lde1 (.t rfl) ag3) rfl ?_
   refine DP.q (.nei (.t rfl) (.t rfl)) rfl ?_; refine DP.nil ?_; refine W.h ?_; refine W.cond (.t rfl) (fun hc_t25 => ?_) (fun hc_t25 => ?_)
   ·have hne : a ≠ b := by rintro rfl; simp at hc_t25
    refine W.s (.r (.q (.assign .k) rfl (.n (.h ?_)))); refine W.ret ?_; refine W.br (.hr (.hr (.br (.hr ?_)))); refine W.retn (M' := []) (rs := [.tmp 4]) (avs := [_]) Tryz.results28 ⟨rfl, trivial⟩ rfl (.refl _) ?_
    (exact ⟨congrArg AV.bool (decide_eq_false hne).symm, rfl⟩)
   ·have hsame : a[i]? = b[i]? := by simp at hc_t25; rw [List.getElem?_eq_getElem hlt, List.getElem?_eq_getElem (by omega), hc_t25]
    refine W.k (.bn (.h (.r (.mv rfl rfl (.q (.add (.t rfl) .k (fun _ => by omega)) rfl ?_)))))
    refine W.q (.assign (.t rfl)) rfl ?_; refine W.n ?_; refine W.h ?_; refine W.reach (D := []) (i + 1) ⟨rfl, rfl, rfl, trivial⟩ (.refl _) ⟨⟨by omega, fun j hj => ?_⟩, by omega⟩
    rcases Nat.lt_or_ge j i with h | h
    ·exact hi2 j h
    ·obtain rfl : j = i := by omega
     exact hsame
  ·have hge : i = a.length := by simp at hc_t14; omega
   have heq : a = b := List.ext_getElem? (fun j => by cases Nat.lt_or_ge j a.length with | inl h => exact hi2 j (by omega) | inr h => rw [List.getElem?_eq_none h, List.getElem?_eq_none (by omega)])
   refine W.ex (.he (.he (.bh (.h (.s (.r (.q (.assign .k) rfl (.n (.h ?_))))))))); refine W.ret ?_; refine W.retn (M' := []) (rs := [.tmp 4]) (avs := [_]) Tryz.results28 ⟨rfl, trivial⟩ rfl (.refl _) ?_
   (exact ⟨congrArg AV.bool (decide_eq_true heq).symm, rfl⟩)
end WTSame
end Go.Proofs.YtphlkdbglpcikaaGreatDoor
end
section
namespace Go.Vl
open Go.RowKit (Below)
def tabM (g : Nat) (T : TypeId) (zs : List Int) : ME := .box g T (zs.map fun z => AV.lit (.int .u64 z))
theorem repL_tab {w : World} {N : List Nat} : ∀ {zs : List Int} {row : List Value}, RepL w N (zs.map fun z => AV.lit (.int .u64 z)) row ↔ row = zs.map (Value.int .u64)
 | [], row => by simp [RepL]
 | z :: zs, row => by
  simp only [List.map_cons, RepL]
  constructor
  ·rintro ⟨u, us, rfl, ⟨h1, h2, h3⟩, h4⟩
   rw [lit_cell h1 h3, repL_tab.1 h4]
  ·rintro rfl
   exact ⟨_, _, rfl, ⟨rfl, rfl, by simp only [RepC]; rfl⟩, repL_tab.2 rfl⟩
theorem laid_tl {P : Program} {x : String × DataW Unit} {r : List (String × DataW Unit)} {w : World} (h : laidMet P (x :: r) w) : laidMet P r w := by
 obtain ⟨ps, hv, hnd, hrows⟩ := h
 obtain ⟨n, d⟩ := x
 obtain ⟨g, t, cs, fuel, p, q, _, _, _, _, hq, rfl⟩ := hv
 exact ⟨q, hq, List.Nodup.sublist (List.sublist_append_right _ _) hnd, fun b off hm => hrows b off (List.mem_append_right _ hm)⟩
theorem tab_block {P : Program} {W : World} {name : String} {zs : List Int} {rest : List (String × DataW Unit)} {g : Nat} {t e : TypeId} {n : Nat}
 (hg : P.globalNamed name = some g) (hty : (P.globals[g]?).map (·.type) = some t) (ht : P.underlying t = some (.array n e)) (he : P.underlying e = some (.int .u64)) (hce : P.cellsOf e = 1) (hct : P.cellsOf t = n)
 (hz : 0 < zs.length) (h : laidMet P ((name, Lib.tabData .u64 zs) :: rest) W) : ∃ T, W.heap[g]? = some (.cells (zs.map (Value.int .u64)).toArray T (0, 0)) := by
 have htab := Lib.tabIs_of_head hg hty ht he hce hct h
 obtain ⟨ps, ⟨g', t', cs, fuel, p, q, hg', ht', hvar, hd, _, hps⟩, hnd, hrows⟩ := h
 obtain rfl := Option.some.inj (hg.symm.trans hg')
 have hcs : cs = (zs.map (Value.int .u64)).toArray := Option.some.inj (hvar.symm.trans htab)
 have hsz : 0 < cs.size := by rw [hcs]; simpa using hz
 obtain ⟨⟨c, T, hb⟩, _⟩ := hrows g 0 (by
  rw [hps]
  refine List.mem_append_left _ (List.mem_append_left _ ?_)
  unfold MemPlace.row
  exact List.mem_map.2 ⟨0, List.mem_range.2 hsz, rfl⟩)
 refine ⟨T, ?_⟩
 unfold Lib.TabIs World.var? at htab
 rw [hg, Option.bind_some, hb] at htab
 rw [hb, Option.some.inj htab]
theorem rep_apart {W : World} {g : Nat} {T : TypeId} {fr : Nat × Nat} {zs : List Int} (hg : W.heap[g]? = some (.cells (zs.map (Value.int .u64)).toArray T fr)) {l : List Int} {v : Value} (h : Rep W [] (.sl 1 (l.map AV.int)) v) : Rep W [g] (.sl 1 (l.map AV.int)) v := by
 refine ⟨h.1, ?_⟩
 have h2 := h.2
 simp only [RepC] at h2 ⊢
 obtain ⟨a, cap, e, h3, h4, h5⟩ := h2
 refine ⟨a, cap, e, h3, h4, ?_⟩
 rcases h5 with h5 | ⟨b, off, cur, T', fr', ha, hb, hc, he⟩
 ·exact .inl h5
 ·cases l with
  | nil => exact .inl rfl
  | cons n l =>
   have hi := RepE.toInts he
   refine .inr ⟨b, off, cur, T', fr', ha, ?_, hc, RepE.ints hi⟩
   intro hbg
   have hbg : b = g := by simpa using hbg
   subst hbg
   rw [hg] at hc
   cases hc
   have hmem : (Value.int .i64 n) ∈ ((zs.map (Value.int .u64)).toArray.toList.drop off) := List.mem_of_mem_take (i := (n :: l).length) (by rw [hi]; simp)
   have := List.mem_of_mem_drop hmem
   simp at this
theorem law_callsT {P : Program} {f : FuncId} {avs : List AV} {W : World} {vs : List Value} {g : Nat} {T : TypeId} {zs : List Int} (hg : W.heap[g]? = some (.cells (zs.map (Value.int .u64)).toArray T (0, 0)))
 (h : FnC P f avs [tabM g T zs] (fun r M => r = .lit (.bool true) ∧ M = [tabM g T zs])) (ha : RepT W [g] avs vs) :
 Calls P f vs.toArray W fun e W' => e = .returned (.bool true) ∧ Below W.heap.size W W' := by
 have hm : MOk W [tabM g T zs] [] := ⟨by simp [bl, ME.blks, tabM], by simp, fun m hm => by
  rw [List.mem_singleton.1 hm]
  exact ⟨_, hg, repL_tab.2 (by simp)⟩⟩
 refine (h.2 W [] vs (by simp) hm (by simpa [bl, ME.blks, tabM] using ha)).mono ?_
 rintro e W' ⟨v, r, M', rfl, ⟨rfl, rfl⟩, hm', hr, hf⟩
 have hv := Rep.lit_iff.1 hr
 subst hv
 refine ⟨rfl, hf.os, hf.tape, hf.output, hf.size, fun k hk => ?_⟩
 by_cases hkg : k = g
 ·subst hkg
  obtain ⟨cur, hc, hl⟩ := hm'.holds _ List.mem_cons_self
  rw [hc, hg]
  congr 2
  exact Array.toList_inj.1 (repL_tab.1 hl)
 ·exact (hf.block k hk (by simp [bl, ME.blks, tabM, hkg])).1
end Go.Vl
end
