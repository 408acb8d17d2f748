/-
  Merged: WBoth Law9 WSame.
-/
import Derived.Test.YtacaemfkdieocaaGreatDoorG12

section
set_option linter.unusedVariables false
set_option linter.unusedSimpArgs false
set_option maxRecDepth 100000
namespace Go.Proofs.YtacaemfkdieocaaGreatDoor
open Go.Vl

namespace WBoth
theorem ty3 : Ty Tryz.prog 3 1 8 (.int .i64 0) := Ty.of (by kernel_rfl)
theorem ty4 : Ty Tryz.prog 4 1 1 (.bool false) := Ty.of (by kernel_rfl)
theorem ty26 : Ty Tryz.prog 26 1 24 (.slice none 0 0) := Ty.of (by kernel_rfl)
theorem ty28 : Ty Tryz.prog 28 2 48 (.agg #[.slice none 0 0, .slice none 0 0]) := Ty.of (by kernel_rfl)
theorem ty52 : Ty Tryz.prog 52 1 24 (.slice none 0 0) := Ty.of (by kernel_rfl)
theorem ty57 : Ty Tryz.prog 57 2 16 (.agg #[.int .i64 0, .int .i64 0]) := Ty.of (by kernel_rfl)
theorem ty61 : Ty Tryz.prog 61 2 48 (.agg #[.slice none 0 0, .slice none 0 0]) := Ty.of (by kernel_rfl)
theorem ag3 : IsAgg Tryz.prog 3 false := ⟨_, Tryz.underlying3, rfl⟩
theorem ag26 : IsAgg Tryz.prog 26 false := ⟨_, Tryz.underlying26, rfl⟩
theorem ag28 : IsAgg Tryz.prog 28 true := ⟨_, Tryz.underlying28, rfl⟩
theorem ag57 : IsAgg Tryz.prog 57 true := ⟨_, Tryz.underlying57, rfl⟩
theorem ag61 : IsAgg Tryz.prog 61 true := ⟨_, Tryz.underlying61, rfl⟩
theorem fa57_0 : FieldAt Tryz.prog 57 0 0 1 false := ⟨_, _, Tryz.underlying57, rfl, rfl, ty3.size, ag3, by decide⟩
theorem fa57_1 : FieldAt Tryz.prog 57 1 1 1 false := ⟨_, _, Tryz.underlying57, rfl, rfl, ty3.size, ag3, by decide⟩
theorem fa61_1 : FieldAt Tryz.prog 61 1 1 1 false := ⟨_, _, Tryz.underlying61, rfl, rfl, ty26.size, ag26, by decide⟩
theorem st61 : StructAt Tryz.prog 61 [(0, 1), (1, 1)] := ⟨_, Tryz.underlying61, rfl, ty52.size, rfl, ty26.size, trivial⟩
theorem ni26 : NotInt Tryz.prog 26 := .inl ⟨_, Tryz.underlying26⟩
theorem c_Both (a b : Au) (hsa : a.Shape) (hsb : b.Shape) (ha : a.next.length ≤ 40) (hb : b.next.length ≤ 40) (hab : (a.next.length + 1) * (b.next.length + 1) ≤ 100) (M0 : List ME) (hI : ∀ n : Int, -1 ≤ n → n < 100 → FnC Tryz.prog 68 [.int n] M0 (fun r M => r = .str (itoa n) ∧ M = M0)) (hsz : ∀ d : Au, d.Ord → (∀ u, d.acc 0 u ↔ a.acc 0 u ∧ b.acc 0 u) → d.next.length ≤ 40) : FnC Tryz.prog 10 [.agg [.sl 1 (a.next.map pav), .sl 1 (a.final.map AV.bool)], .agg [.sl 1 (b.next.map pav), .sl 1 (b.final.map AV.bool)]] M0 (fun r M => ∃ d : Au, d.Ord ∧ (∀ u, d.acc 0 u ↔ a.acc 0 u ∧ b.acc 0 u) ∧ r = .tup [.agg [.sl 1 (d.next.map pav), .sl 1 (d.final.map AV.bool)], .int 0] ∧ M = M0) :=  by
  refine FnC.mk Tryz.func10 (by kernel_rfl) rfl Tryz.ntmps10 rfl (fun w0 F => ?_)
  refine W.seq ?_
  refine W.region ?_
  refine W.box (.t rfl) rfl rfl ?_
  intro b2
  refine W.box (.t rfl) rfl rfl ?_
  intro b3
  refine W.alloc ty28 rfl rfl ?_
  intro b4
  refine W.q (Ev.assign .k) rfl ?_
  refine W.nil ?_
  refine W.then ?_
  refine W.seq ?_
  refine W.seq ?_
  refine W.region ?_
  (refine W.q (Ev.ldbn 2 (.t rfl) rfl ag28 ty28 rfl) rfl ?_)
  refine W.callp (WMay.c_May a hsa ha) ⟨(.t rfl), trivial⟩ rfl ?_
  refine W.q (Ev.not (.t rfl)) rfl ?_
  refine W.q (Ev.move (.t rfl)) rfl ?_
  refine W.gyes rfl rfl ?_
  (refine W.q (Ev.ldbn 1 (.t rfl) rfl ag28 ty28 rfl) rfl ?_)
  refine W.gyes rfl rfl ?_
  refine W.callp (WMay.c_May b hsb hb) ⟨(.t rfl), trivial⟩ rfl ?_
  refine W.gyes rfl rfl ?_
  refine W.q (Ev.not (.t rfl)) rfl ?_
  refine W.q (Ev.or (.t rfl) ⟨_, _, rfl, rfl, by ((simp; done))⟩) rfl ?_
  refine W.nil ?_
  refine W.then ?_
  refine W.is (t := 18) (g := true) (av' := .lit (.bool false)) rfl (congrArg (fun b => AV.lit (.bool b)) (by rfl)) ?_
  refine W.condF (.t rfl) ?_
  refine W.skip ?_
  refine W.then ?_
  refine W.seq ?_
  refine W.region ?_
  (refine W.q (Ev.ldbn 2 (.t rfl) rfl ag28 ty28 rfl) rfl ?_)
  (refine W.q (Ev.ldbn 1 (.t rfl) rfl ag28 ty28 rfl) rfl ?_)
  refine W.call (WPairs.c_pairs a b hsa hsb ha hb) ⟨(.t rfl), (.t rfl), trivial⟩ (.refl _) rfl ?_
  rintro _ _ ⟨v24, v25, all, T, hP, hl2, rfl, rfl⟩
  refine W.q (Ev.move (.t rfl)) rfl ?_
  refine W.q (Ev.extract (.t rfl) rfl) rfl ?_
  refine W.q (Ev.extract (.t rfl) rfl) rfl ?_
  refine W.q (Ev.assign (.t rfl)) rfl ?_
  refine W.q (Ev.assign (.t rfl)) rfl ?_
  refine W.nil ?_
  refine W.then ?_
  refine W.seq ?_
  refine W.region ?_
  refine W.freezeA (M1 := .arr v24 57 2 (all.map prav) :: .box b4 28 [.lit (.slice none 0 0), .lit (.slice none 0 0)] :: .box b3 28 [.sl 1 (b.next.map pav), .sl 1 (b.final.map AV.bool)] :: .box b2 28 [.sl 1 (a.next.map pav), .sl 1 (a.final.map AV.bool)] :: M0) (M2 := .arr v24 57 2 (all.map prav) :: .box b4 28 [.lit (.slice none 0 0), .lit (.slice none 0 0)] :: .box b3 28 [.sl 1 (b.next.map pav), .sl 1 (b.final.map AV.bool)] :: .box b2 28 [.sl 1 (a.next.map pav), .sl 1 (a.final.map AV.bool)] :: M0) (D := []) (v := v25) (L' := [(7, true, .sl 8 ((List.range all.length).map fun k => r8av (fun c => (T k c : Int))))]) (by rw [List.append_nil] <;> exact .refl _) ⟨⟨_, rfl, .one .hit⟩, trivial⟩ (FrzMs.refl _) ?_
  refine W.freezeA (M1 := .box b4 28 [.lit (.slice none 0 0), .lit (.slice none 0 0)] :: .box b3 28 [.sl 1 (b.next.map pav), .sl 1 (b.final.map AV.bool)] :: .box b2 28 [.sl 1 (a.next.map pav), .sl 1 (a.final.map AV.bool)] :: M0) (M2 := .box b4 28 [.lit (.slice none 0 0), .lit (.slice none 0 0)] :: .box b3 28 [.sl 1 (b.next.map pav), .sl 1 (b.final.map AV.bool)] :: .box b2 28 [.sl 1 (a.next.map pav), .sl 1 (a.final.map AV.bool)] :: M0) (D := []) (v := v24) (L' := [(6, true, .sl 2 (all.map prav))]) (by rw [List.append_nil] <;> exact .refl _) ⟨⟨_, rfl, .one .hit⟩, trivial⟩ (FrzMs.refl _) ?_
  refine W.q (Ev.move (.t rfl)) rfl ?_
  refine W.q (Ev.build ty61 st61 rfl (fun hg => ⟨_, _, _, rfl, (.t rfl), rfl, rfl, rfl, rfl⟩)) rfl ?_
  refine W.alloc ty61 rfl rfl ?_
  intro b8
  (refine W.stb 0 (.t rfl) (.t rfl) rfl ty61 rfl rfl rfl ?_)
  refine W.nil ?_
  refine W.then ?_
  refine W.seq ?_
  refine W.seq ?_
  refine W.region ?_
  refine W.q (Ev.move (.t rfl)) rfl ?_
  (refine W.q (Ev.lensl (.t rfl) Tryz.underlying51) rfl ?_)
  refine W.q (Ev.move .k) rfl ?_
  refine W.nil ?_
  refine W.then ?_
  refine W.block ?_
  refine W.own_nil 4 1 ?_
  refine W.loop (D := []) (ι := Nat × Value) (fun z => [(30, true, .int (z.1 : Int)), (29, true, .int ((all.map prav).length : Int)), (28, true, .sl 2 (all.map prav)), (8, true, .lit (.pointer (some ⟨b8, 0, none⟩))), (2, true, .lit (.pointer (some ⟨b2, 0, none⟩))), (3, true, .lit (.pointer (some ⟨b3, 0, none⟩))), (4, true, .lit (.pointer (some ⟨b4, 0, none⟩)))]) (fun z => .arr z.2 4 1 ((all.take z.1).map fun p => AV.bool (a.fin p.1 && b.fin p.2)) :: .box b8 61 [.sl 8 ((List.range all.length).map fun k => r8av (fun c => (T k c : Int))), .lit z.2] :: .box b4 28 [.lit (.slice none 0 0), .lit (.slice none 0 0)] :: .box b3 28 [.sl 1 (b.next.map pav), .sl 1 (b.final.map AV.bool)] :: .box b2 28 [.sl 1 (a.next.map pav), .sl 1 (a.final.map AV.bool)] :: M0) (fun z => z.1 ≤ all.length) (fun z => all.length - z.1) (0, .slice none 0 0) ⟨rfl, rfl, rfl, rfl, rfl, rfl, rfl, trivial⟩ (by rw [List.append_nil]; exact .refl _) (Nat.zero_le _) ?_
  rintro ⟨i, vf⟩ hi
  dsimp only at hi ⊢
  have hml : (all.map prav).length = all.length := List.length_map ..
  rcases (show i < all.length ∨ i = all.length from by omega) with hlt | hend
  · have hga := getD_mapG prav (0, 0) all i hlt
    have hpr := hP.rng _ (getD_memG (0, 0) all i hlt)
    have htk := take_getDG (0, 0) all i hlt
    generalize all.getD i (0, 0) = pp at hga hpr htk
    refine W.seq ?_
    refine W.region ?_
    refine W.q (Ev.lti (.t rfl) (.t rfl)) rfl ?_
    refine W.nil ?_
    refine W.then ?_
    refine W.seq ?_
    refine W.is (t := 31) (g := true) (av' := .lit (.bool true)) rfl (congrArg (fun b => AV.lit (.bool b)) (by exact decide_eq_true (by omega))) ?_
    refine W.condT (.t rfl) ?_
    refine W.skip ?_
    refine W.then ?_
    refine W.seq ?_
    refine W.block ?_
    refine W.seq ?_
    refine W.region ?_
    refine W.q (Ev.at (E := 57) (.t rfl) (.t rfl) Tryz.underlying51 ty57 (fun _ => ⟨by omega, hga⟩) rfl rfl) rfl ?_
    (refine W.q (Ev.lden (.t rfl) ag57 ty57 rfl rfl) rfl ?_)
    refine W.alloc ty57 rfl rfl ?_
    intro b10
    (refine W.stb 0 (.t rfl) (.t rfl) rfl ty57 rfl rfl rfl ?_)
    refine W.nil ?_
    refine W.perm (List.Perm.trans (List.Perm.swap _ _ _) (List.Perm.cons _ (List.Perm.swap _ _ _))) ?_
    refine W.then ?_
    refine W.drawnE (ι := Value) (fun ee c => (bif ee 13 then ME.arr c 4 1 (((all.take i).map fun p => AV.bool (a.fin p.1 && b.fin p.2)) ++ [.bool (a.fin pp.1 && b.fin pp.2)]) else ME.arr vf 4 1 ((all.take i).map fun p => AV.bool (a.fin p.1 && b.fin p.2))) :: ME.box b8 61 [.sl 8 ((List.range all.length).map fun k => r8av (fun c => (T k c : Int))), bif ee 15 then .lit c else .lit vf] :: .box b10 57 [.int pp.1, .int pp.2] :: .box b4 28 [.lit (.slice none 0 0), .lit (.slice none 0 0)] :: .box b3 28 [.sl 1 (b.next.map pav), .sl 1 (b.final.map AV.bool)] :: .box b2 28 [.sl 1 (a.next.map pav), .sl 1 (a.final.map AV.bool)] :: M0) 13 vf (by kernel_rfl) (by kernel_rfl) rfl ?_
    (refine DE.q (fun e c hk => (Ev.fab (.t rfl) fa61_1)) rfl (fun _ _ => rfl) (by (exact .inr (fun _ _ => rfl))) ?_)
    refine DE.q (av := fun _ => .lit vf) (fun e c hk => by have h := hk.down 15 (by kernel_rfl); simp only [h, cond_false]; exact Ev.ldb1 1 (.t rfl) rfl ag26 rfl) rfl (fun _ _ => rfl) (by (exact .inr (fun _ _ => rfl))) ?_
    (refine DE.q (fun e c hk => (Ev.ldbn 5 (.t rfl) rfl ag28 ty28 rfl)) rfl (fun _ _ => rfl) (by (exact .inr (fun _ _ => rfl))) ?_)
    (refine DE.q (fun e c hk => (Ev.fab (.t rfl) fa57_0)) rfl (fun _ _ => rfl) (by (exact .inr (fun _ _ => rfl))) ?_)
    (refine DE.q (fun e c hk => (Ev.ldb1 2 (.t rfl) rfl ag3 rfl)) rfl (fun _ _ => rfl) (by (exact .inr (fun _ _ => rfl))) ?_)
    refine DE.callp (fun c => WFinal.c_final a hsa ha pp.1 hpr.u1) (fun c => ⟨(.t rfl), (.t rfl), trivial⟩) rfl (fun _ _ => rfl) (by (exact .inr (fun _ _ => rfl))) ?_
    refine DE.q (fun e c hk => (Ev.move (.t rfl))) rfl (fun _ _ => rfl) (by (exact .inr (fun _ _ => rfl))) ?_
    (refine DE.qg rfl (fun _ => rfl) (fun e c hk => (Ev.ldbn 4 (.t rfl) rfl ag28 ty28 rfl)) rfl (fun _ _ => rfl) (by (exact .inr (fun _ _ => rfl))) ?_)
    (refine DE.qg rfl (fun _ => rfl) (fun e c hk => (Ev.fab (.t rfl) fa57_1)) rfl (fun _ _ => rfl) (by (exact .inr (fun _ _ => rfl))) ?_)
    (refine DE.qg rfl (fun _ => rfl) (fun e c hk => (Ev.ldb1 2 (.c rfl) rfl ag3 rfl)) rfl (fun _ _ => rfl) (by (exact .inr (fun _ _ => rfl))) ?_)
    refine DE.callg rfl (fun _ => rfl) (fun c hg => WFinal.c_final b hsb hb pp.2 hpr.u2) (fun c hg => ⟨(.i rfl (fun _ => hg)), (.i rfl (fun _ => hg)), trivial⟩) rfl (fun _ _ => rfl) (by (exact .inr (fun _ _ => rfl))) ?_
    refine DE.q (fun e c hk => (Ev.and (.t rfl) ⟨_, _, rfl, rfl, by ((simp; done))⟩)) rfl (fun _ _ => rfl) (by (exact .inr (fun _ _ => rfl))) ?_
    refine DE.bs (es := fun _ => [_]) Tryz.underlying26 ty4 (fun c => ⟨rfl, (.t rfl), rfl, rfl, trivial⟩) (fun _ => rfl) (by decide) rfl rfl (fun _ _ => rfl) (by (exact .inr (fun _ _ => rfl))) ?_
    refine DE.eff1 (av := fun v => .lit v) rfl rfl (fun e c hk L_ hs Q h => ?_) ?_
    · have hk_13 := hk.not
      have hk_15 := hk.down 15 (by kernel_rfl)
      simp only [addE, hk_13, hk_15, Nat.reduceAdd, Nat.reduceEqDiff, ↓reduceIte, cond_true, cond_false] at h ⊢
      ((refine W.app 0 (.t (hs _ _ rfl)) rfl (.sl (.t (hs _ _ rfl)) (by intro e he; rw [List.mem_singleton.1 he]; rfl)) Tryz.underlying26 ni26 ty4 rfl rfl (by rw [List.length_map, List.length_take]; simp only [List.length_cons, List.length_nil]; omega) rfl ?_; exact h))
    (refine DE.q (fun e c hk => (Ev.fab (.t rfl) fa61_1)) rfl (fun _ _ => rfl) (by (exact .inr (fun _ _ => rfl))) ?_)
    refine DE.eff0 (fun e c hk L_ hs Q h => ?_) ?_
    · have hk_15 := hk.not
      have hk_13 := hk.up 13 (by kernel_rfl)
      simp only [addE, hk_15, hk_13, Nat.reduceAdd, Nat.reduceEqDiff, ↓reduceIte, cond_true, cond_false] at h ⊢
      refine W.arr_inv 0 rfl (fun a9 n9 c9 h9 => ?_)
      subst h9
      refine W.stb 1 (.t (hs _ _ rfl)) (.t (hs _ _ rfl)) rfl ty26 rfl rfl rfl ?_
      exact h
    refine DE.nil (fun v47 e_ he_ => ?_)
    simp only [he_ 13 (by decide), he_ 15 (by decide), cond_true, cond_false]
    refine W.blk_normal ?_
    refine W.then ?_
    refine W.region ?_
    (refine W.q (Ev.add (.t rfl) .k (fun _ => by omega)) rfl ?_)
    refine W.q (Ev.move (.t rfl)) rfl ?_
    refine W.nil ?_
    refine W.then ?_
    refine W.reach (D := [.box b10 57 [.int pp.1, .int pp.2]]) (i + 1, v47) ⟨rfl, rfl, rfl, rfl, rfl, rfl, rfl, trivial⟩ ?_ ⟨hlt, by show all.length - (i + 1) < all.length - i; omega⟩
    dsimp only
    rw [htk, List.map_append]
    exact List.Perm.cons _ (List.Perm.cons _ (List.perm_append_comm (l₁ := [_])))
  · subst hend
    rw [List.take_length]
    have hw := hP.both (w := (Au.auOf all.length (fun k c => (T k c : Int)) (all.map fun p => a.fin p.1 && b.fin p.2))) (Au.auOf_len _ _ _) rfl (fun k hk => Au.auOf_row _ _ _ k hk) (fun k c hk hc => Au.auOf_to _ _ _ k c hk hc)
    refine W.seq ?_
    refine W.region ?_
    refine W.q (Ev.lti (.t rfl) (.t rfl)) rfl ?_
    refine W.nil ?_
    refine W.then ?_
    refine W.seq ?_
    refine W.is (t := 31) (g := true) (av' := .lit (.bool false)) rfl (congrArg (fun b => AV.lit (.bool b)) (by exact decide_eq_false (by omega))) ?_
    refine W.condF (.t rfl) ?_
    refine W.exit ?_
    refine W.then_exit ?_
    refine W.then_exit ?_
    refine W.blk_hit ?_
    refine W.then ?_
    refine W.seq ?_
    refine W.region ?_
    refine W.freezeA (M1 := .box b8 61 [.sl 8 ((List.range all.length).map fun k => r8av (fun c => (T k c : Int))), .lit vf] :: .box b4 28 [.lit (.slice none 0 0), .lit (.slice none 0 0)] :: .box b3 28 [.sl 1 (b.next.map pav), .sl 1 (b.final.map AV.bool)] :: .box b2 28 [.sl 1 (a.next.map pav), .sl 1 (a.final.map AV.bool)] :: M0) (M2 := .box b8 61 [.sl 8 ((List.range all.length).map fun k => r8av (fun c => (T k c : Int))), .sl 1 (all.map fun p => AV.bool (a.fin p.1 && b.fin p.2))] :: .box b4 28 [.lit (.slice none 0 0), .lit (.slice none 0 0)] :: .box b3 28 [.sl 1 (b.next.map pav), .sl 1 (b.final.map AV.bool)] :: .box b2 28 [.sl 1 (a.next.map pav), .sl 1 (a.final.map AV.bool)] :: M0) (D := []) (v := vf) (L' := []) (by rw [List.append_nil] <;> exact .refl _) trivial (⟨.box ⟨.refl _, .hit, trivial⟩, FrzMs.refl _⟩) ?_
    (refine W.q (Ev.ldbn 0 (.t rfl) rfl ag61 ty61 rfl) rfl ?_)
    refine W.is (t := 50) (g := true) (av' := .agg [.sl 8 ((Au.auOf all.length (fun k c => (T k c : Int)) (all.map fun p => a.fin p.1 && b.fin p.2)).next.map wrow), .sl 1 ((Au.auOf all.length (fun k c => (T k c : Int)) (all.map fun p => a.fin p.1 && b.fin p.2)).final.map AV.bool)]) rfl (by show AV.agg [.sl 8 ((List.range all.length).map fun k => r8av (fun c => (T k c : Int))), .sl 1 (all.map fun p => AV.bool (a.fin p.1 && b.fin p.2))] = _; rw [Au.auOf_wide]; show _ = AV.agg [_, .sl 1 ((all.map fun p => a.fin p.1 && b.fin p.2).map AV.bool)]; rw [List.map_map]; rfl) ?_
    refine W.call (WOrder.c_order (Au.auOf all.length (fun k c => (T k c : Int)) (all.map fun p => a.fin p.1 && b.fin p.2)) hw.1 (by rw [Au.auOf_len]; omega) M0 hI (fun d hd he => hsz d hd fun u => (he u).trans (hw.2 u))) ⟨(.t rfl), trivial⟩ (List.perm_append_comm (l₁ := [_, _, _, _])) rfl ?_
    rintro _ M' ⟨d, hd, hdu, rfl, hM'⟩
    rw [hM']
    refine W.perm (List.perm_append_comm (l₂ := [_, _, _, _])) ?_
    refine W.q (Ev.extract (.t rfl) rfl) rfl ?_
    refine W.q (Ev.extract (.t rfl) rfl) rfl ?_
    (refine W.stb 1 (.t rfl) (.t rfl) rfl ty28 rfl rfl rfl ?_)
    refine W.q (Ev.assign (.t rfl)) rfl ?_
    refine W.nil ?_
    refine W.then ?_
    refine W.ret ?_
    refine W.retn (M' := M0) (D := _) (rs := [.cell 4 28, .tmp 5]) (avs := [_, _]) Tryz.results10 ⟨⟨_, _, _, rfl, by repeat (first | exact List.mem_cons_self | apply List.mem_cons_of_mem), rfl, by funext w; exact ag28.run w, by funext w; exact ty28.size w⟩, rfl, trivial⟩ rfl (List.perm_append_comm (l₁ := [_, _, _, _])) ?_
    exact ⟨d, hd, fun u => (hdu u).trans (hw.2 u), rfl, rfl⟩

end WBoth

end Go.Proofs.YtacaemfkdieocaaGreatDoor
end

section
set_option linter.unusedVariables false
set_option linter.unusedSimpArgs false
namespace Go.Vl
theorem Lg.alt_self (A : Lg) : Lg.alt A A = A := Lg.ext fun w => or_self_iff
namespace Au
theorem acc_app {a : Au} : ∀ (u : List Int) (i : Int) (w : List Int), (∀ c ∈ u, 0 ≤ c ∧ c < 8) → (a.acc i (u ++ w) ↔ a.acc (a.run i u) w)
  | [], i, w, _ => Iff.rfl
  | c :: u, i, w, h => by
    have hc := h c List.mem_cons_self
    by_cases hi : 0 ≤ i
    · rw [List.cons_append, acc_cons hi hc.1 hc.2, run_cons a i c u hi]
      exact acc_app u _ w fun d hd => h d (List.mem_cons_of_mem _ hd)
    · rw [run_neg (by omega)]
      exact ⟨fun h' => absurd h' (acc_neg (by omega) _), fun h' => absurd h' (acc_neg (by omega) _)⟩
theorem Canon.both_size {a b d : Au} (ha : a.Shape) (hb : b.Shape) (hd : d.Canon) (h : ∀ u, d.acc 0 u ↔ a.acc 0 u ∧ b.acc 0 u) : d.next.length ≤ (a.next.length + 1) * (b.next.length + 1) := by
  have hpa := ha.pos
  have hpb := hb.pos
  have hw : ∀ k, k < d.next.length → ∃ u : List Int, (∀ c ∈ u, 0 ≤ c ∧ c < 8) ∧ ∀ w, d.acc (k : Int) w ↔ a.acc (a.run 0 u) w ∧ b.acc (b.run 0 u) w := fun k hk => by
    obtain ⟨u, _, hu⟩ := hd.word k hk
    obtain ⟨v, hv⟩ := hd.live k hk
    have hr : ∀ c ∈ u, 0 ≤ c ∧ c < 8 := fun c hc => acc_over ((hu v).2 hv) c (List.mem_append_left _ hc)
    exact ⟨u, hr, fun w => by rw [← hu w, h, acc_app u 0 w hr, acc_app u 0 w hr]⟩
  obtain ⟨f, hf⟩ : ∃ f : Nat → List Int, ∀ k, k < d.next.length → (∀ c ∈ f k, 0 ≤ c ∧ c < 8) ∧ ∀ w, d.acc (k : Int) w ↔ a.acc (a.run 0 (f k)) w ∧ b.acc (b.run 0 (f k)) w :=
    ⟨fun k => if hk : k < d.next.length then Classical.choose (hw k hk) else [], fun k hk => by dsimp only; rw [dif_pos hk]; exact Classical.choose_spec (hw k hk)⟩
  have hra : ∀ k, k < d.next.length → -1 ≤ a.run 0 (f k) ∧ a.run 0 (f k) < a.next.length := fun k hk => run_range ha (f k) 0 (by decide) (by omega) (hf k hk).1
  have hrb : ∀ k, k < d.next.length → -1 ≤ b.run 0 (f k) ∧ b.run 0 (f k) < b.next.length := fun k hk => run_range hb (f k) 0 (by decide) (by omega) (hf k hk).1
  refine pigeon _ _ (fun k => (b.next.length + 1) * (a.run 0 (f k) + 1).toNat + (b.run 0 (f k) + 1).toNat) (fun k hk => ?_) (fun i j hi hj e => ?_)
  · have h1 := hra k hk
    have h2 := hrb k hk
    have h3 : (b.next.length + 1) * (a.run 0 (f k) + 1).toNat ≤ (b.next.length + 1) * a.next.length := Nat.mul_le_mul_left _ (by omega)
    have h4 : (a.next.length + 1) * (b.next.length + 1) = (b.next.length + 1) * a.next.length + (b.next.length + 1) := by rw [Nat.mul_comm, Nat.mul_succ]
    show (b.next.length + 1) * (a.run 0 (f k) + 1).toNat + (b.run 0 (f k) + 1).toNat < _
    omega
  · have h1 := hra i hi
    have h2 := hrb i hi
    have h3 := hra j hj
    have h4 := hrb j hj
    have e1 := congrArg (· / (b.next.length + 1)) e
    have e2 := congrArg (· % (b.next.length + 1)) e
    simp only [Nat.mul_add_div (Nat.succ_pos b.next.length), Nat.mul_add_mod] at e1 e2
    rw [Nat.div_eq_of_lt (by omega), Nat.div_eq_of_lt (by omega)] at e1
    rw [Nat.mod_eq_of_lt (by omega), Nat.mod_eq_of_lt (by omega)] at e2
    have ea : a.run 0 (f i) = a.run 0 (f j) := by omega
    have eb : b.run 0 (f i) = b.run 0 (f j) := by omega
    exact hd.apart i j hi hj fun w => by rw [(hf i hi).2, (hf j hj).2, ea, eb]
theorem Ord.both_size {a b d : Au} (ha : a.Shape) (hb : b.Shape) (hd : d.Ord) (h : ∀ u, d.acc 0 u ↔ a.acc 0 u ∧ b.acc 0 u) : d.next.length ≤ (a.next.length + 1) * (b.next.length + 1) := by
  rcases hd with hd | rfl
  · exact hd.both_size ha hb h
  · exact Nat.mul_pos (Nat.succ_pos _) (Nat.succ_pos _)
theorem Ord.size_of {a : Au} (h : a.Ord) {L : Lg} {m : Nat} (hu : ∀ u, a.acc 0 u ↔ L u) (hw : Lg.Wid L m) : a.next.length ≤ 2 ^ m := h.size (by rw [show a.acc 0 = L from funext fun u => propext (hu u)]; exact hw)
end Au
end Go.Vl
end

section
set_option linter.unusedVariables false
set_option linter.unusedSimpArgs false
set_option maxRecDepth 100000
namespace Go.Proofs.YtacaemfkdieocaaGreatDoor
open Go.Vl

namespace WSame
theorem ty3 : Ty Tryz.prog 3 1 8 (.int .i64 0) := Ty.of (by kernel_rfl)
theorem ty28 : Ty Tryz.prog 28 2 48 (.agg #[.slice none 0 0, .slice none 0 0]) := Ty.of (by kernel_rfl)
theorem ty57 : Ty Tryz.prog 57 2 16 (.agg #[.int .i64 0, .int .i64 0]) := Ty.of (by kernel_rfl)
theorem ag3 : IsAgg Tryz.prog 3 false := ⟨_, Tryz.underlying3, rfl⟩
theorem ag28 : IsAgg Tryz.prog 28 true := ⟨_, Tryz.underlying28, rfl⟩
theorem ag57 : IsAgg Tryz.prog 57 true := ⟨_, Tryz.underlying57, rfl⟩
theorem fa57_0 : FieldAt Tryz.prog 57 0 0 1 false := ⟨_, _, Tryz.underlying57, rfl, rfl, ty3.size, ag3, by decide⟩
theorem fa57_1 : FieldAt Tryz.prog 57 1 1 1 false := ⟨_, _, Tryz.underlying57, rfl, rfl, ty3.size, ag3, by decide⟩
theorem c_IndexFuncQ (l : List (Int × Int)) (g : Nat) (caps : List Value) (M0 : List ME) (p : (Int × Int) → Bool) (hg : ∀ d ∈ l, FnC Tryz.prog g ([prav d] ++ caps.map .lit) M0 (fun r M => r = .bool (p d) ∧ M = M0)) (hn : l.length ≤ 1099511627776) : FnC Tryz.prog 34 [.sl 2 (l.map prav), .lit (.func (.func g) #[] caps.toArray)] M0 (fun r M => r = .int (idxI p l) ∧ M = M0) :=  by
  refine FnC.mk Tryz.func34 (by kernel_rfl) rfl Tryz.ntmps34 rfl (fun w0 F => ?_)
  have hnl : (l.map prav).length = l.length := List.length_map ..
  refine W.seq ?_
  refine W.region ?_
  refine W.q (Ev.assign .k) rfl ?_
  refine W.nil ?_
  refine W.then ?_
  refine W.seq ?_
  refine W.seq ?_
  refine W.region ?_
  refine W.q (Ev.move (.t rfl)) rfl ?_
  (refine W.q (Ev.lensl (.t rfl) Tryz.underlying51) rfl ?_)
  refine W.q (Ev.move .k) rfl ?_
  refine W.nil ?_
  refine W.then ?_
  refine W.block ?_
  refine W.loop (D := []) (ι := Nat) (fun i => [(8, true, .int (i : Int)), (7, true, .int ((l.map prav).length : Int)), (0, true, .sl 2 (l.map prav)), (1, true, .lit (.func (.func g) #[] caps.toArray))]) (fun _ => M0) (fun i => i ≤ l.length ∧ ∀ d ∈ l.take i, p d = false) (fun i => l.length - i) 0 ⟨rfl, rfl, rfl, rfl, trivial⟩ (List.Perm.of_eq (List.append_nil _).symm) ⟨Nat.zero_le _, by simp⟩ ?_
  rintro i ⟨hi1, hi2⟩
  dsimp only at hi1 hi2 ⊢
  rcases (show i < l.length ∨ i = l.length from by omega) with hlt | hend
  · have hga := getD_mapG prav (0, 0) l i hlt
    refine W.seq ?_
    refine W.region ?_
    refine W.q (Ev.lti (.t rfl) (.t rfl)) rfl ?_
    refine W.nil ?_
    refine W.then ?_
    refine W.seq ?_
    refine W.is (t := 9) (g := true) (av' := .lit (.bool true)) rfl (congrArg (fun b => AV.lit (.bool b)) (by simp; omega)) ?_
    refine W.condT (.t rfl) ?_
    refine W.skip ?_
    refine W.then ?_
    refine W.seq ?_
    refine W.block ?_
    refine W.seq ?_
    refine W.region ?_
    refine W.q (Ev.move (.t rfl)) rfl ?_
    refine W.q (Ev.assign (.t rfl)) rfl ?_
    refine W.nil ?_
    refine W.then ?_
    refine W.seq ?_
    refine W.region ?_
    refine W.q (Ev.move (.t rfl)) rfl ?_
    refine W.q (Ev.move (.t rfl)) rfl ?_
    refine W.q (Ev.move (.t rfl)) rfl ?_
    refine W.q (Ev.at (E := 57) (.t rfl) (.t rfl) Tryz.underlying51 ty57 (fun _ => ⟨by omega, hga⟩) rfl rfl) rfl ?_
    (refine W.q (Ev.lden (.t rfl) ag57 ty57 rfl rfl) rfl ?_)
    refine W.callv (caps := caps) (avs := [_]) (hg (l.getD i (0, 0)) (getD_memG (0, 0) l i hlt)) (.t rfl) ⟨(.t rfl), trivial⟩ rfl ((List.Perm.of_eq (List.append_nil _).symm)) rfl ?_
    rintro _ M' ⟨rfl, hM⟩
    rw [hM, List.append_nil]
    refine W.nil ?_
    refine W.then ?_
    refine W.cond (.t rfl) (fun hc_t16 => ?_) (fun hc_t16 => ?_)
    · have hq := idxI_hit p (0, 0) l i hlt hi2 hc_t16
      refine W.seq ?_
      refine W.region ?_
      refine W.q (Ev.move (.t rfl)) rfl ?_
      refine W.q (Ev.assign (.t rfl)) rfl ?_
      refine W.nil ?_
      refine W.then ?_
      refine W.ret ?_
      refine W.blk_ret ?_
      refine W.then_ret ?_
      refine W.then_ret ?_
      refine W.blk_ret ?_
      refine W.then_ret ?_
      refine W.retn (M' := M0) (D := []) (rs := [.tmp 4]) (avs := [_]) Tryz.results34 ⟨rfl, trivial⟩ rfl (List.Perm.of_eq (List.append_nil _).symm) ?_
      exact ⟨congrArg AV.int (by rw [hq]), rfl⟩
    · have hq : p (l.getD i (0, 0)) = false := hc_t16
      refine W.skip ?_
      refine W.blk_normal ?_
      refine W.then ?_
      refine W.region ?_
      (refine W.q (Ev.add (.t rfl) .k (fun _ => by omega)) rfl ?_)
      refine W.q (Ev.move (.t rfl)) rfl ?_
      refine W.nil ?_
      refine W.then ?_
      refine W.reach (D := []) (i + 1) ⟨rfl, rfl, rfl, rfl, trivial⟩ (List.Perm.of_eq (List.append_nil _).symm) ⟨⟨by omega, ?_⟩, by omega⟩
      rw [take_getDG (0, 0) l i hlt]
      intro d hd
      cases List.mem_append.1 hd with
      | inl h => exact hi2 d h
      | inr h => rw [List.mem_singleton.1 h]; exact hq
  · rw [List.take_of_length_le (by omega)] at hi2
    have hq := idxI_miss p l hi2
    refine W.seq ?_
    refine W.region ?_
    refine W.q (Ev.lti (.t rfl) (.t rfl)) rfl ?_
    refine W.nil ?_
    refine W.then ?_
    refine W.seq ?_
    refine W.is (t := 9) (g := true) (av' := .lit (.bool false)) rfl (congrArg (fun b => AV.lit (.bool b)) (by simp; omega)) ?_
    refine W.condF (.t rfl) ?_
    refine W.exit ?_
    refine W.then_exit ?_
    refine W.then_exit ?_
    refine W.blk_hit ?_
    refine W.then ?_
    refine W.seq ?_
    refine W.region ?_
    refine W.q (Ev.assign .k) rfl ?_
    refine W.nil ?_
    refine W.then ?_
    refine W.ret ?_
    refine W.retn (M' := M0) (D := []) (rs := [.tmp 4]) (avs := [_]) Tryz.results34 ⟨rfl, trivial⟩ rfl (List.Perm.of_eq (List.append_nil _).symm) ?_
    exact ⟨congrArg AV.int (by rw [hq]), rfl⟩

theorem c_ContainsFuncQ (l : List (Int × Int)) (g : Nat) (caps : List Value) (M0 : List ME) (p : (Int × Int) → Bool) (hg : ∀ d ∈ l, FnC Tryz.prog g ([prav d] ++ caps.map .lit) M0 (fun r M => r = .bool (p d) ∧ M = M0)) (hn : l.length ≤ 1099511627776) : FnC Tryz.prog 19 [.sl 2 (l.map prav), .lit (.func (.func g) #[] caps.toArray)] M0 (fun r M => r = .bool (l.any p) ∧ M = M0) :=  by
  refine FnC.mk Tryz.func19 (by kernel_rfl) rfl Tryz.ntmps19 rfl (fun w0 F => ?_)
  refine W.seq ?_
  refine W.region ?_
  refine W.q (Ev.assign .k) rfl ?_
  refine W.nil ?_
  refine W.then ?_
  refine W.seq ?_
  refine W.region ?_
  refine W.q (Ev.move (.t rfl)) rfl ?_
  refine W.q (Ev.move (.t rfl)) rfl ?_
  refine W.call (c_IndexFuncQ l g caps M0 p hg hn) ⟨(.t rfl), (.t rfl), trivial⟩ ((List.Perm.of_eq (List.append_nil _).symm)) rfl ?_
  rintro _ M' ⟨rfl, hM⟩
  rw [hM, List.append_nil]
  refine W.q (Ev.gei (.t rfl) .k) rfl ?_
  refine W.q (Ev.assign (.t rfl)) rfl ?_
  refine W.nil ?_
  refine W.then ?_
  refine W.ret ?_
  refine W.retn (M' := M0) (D := []) (rs := [.tmp 4]) (avs := [_]) Tryz.results19 ⟨rfl, trivial⟩ rfl (List.Perm.of_eq (List.append_nil _).symm) ?_
  exact ⟨congrArg AV.bool (idxI_any p l), rfl⟩

theorem c_Same1 (a b : Au) (hsa : a.Shape) (hsb : b.Shape) (ha : a.next.length ≤ 40) (hb : b.next.length ≤ 40) (p : Int × Int) (h1 : p.1 < a.next.length) (h2 : p.2 < b.next.length) (b2 b3 : Nat) : FnC Tryz.prog 20 ([prav p] ++ ([.pointer (some ⟨b2, 0, none⟩), .pointer (some ⟨b3, 0, none⟩)] : List Value).map .lit) [.box b3 28 [.sl 1 (b.next.map pav), .sl 1 (b.final.map AV.bool)], .box b2 28 [.sl 1 (a.next.map pav), .sl 1 (a.final.map AV.bool)]] (fun r M => r = .bool (a.fin p.1 != b.fin p.2) ∧ M = [.box b3 28 [.sl 1 (b.next.map pav), .sl 1 (b.final.map AV.bool)], .box b2 28 [.sl 1 (a.next.map pav), .sl 1 (a.final.map AV.bool)]]) :=  by
  refine FnC.mk Tryz.func20 (by kernel_rfl) rfl Tryz.ntmps20 rfl (fun w0 F => ?_)
  refine W.seq ?_
  refine W.region ?_
  refine W.box (.t rfl) rfl rfl ?_
  intro b3
  refine W.q (Ev.assign .k) rfl ?_
  refine W.nil ?_
  refine W.then ?_
  refine W.seq ?_
  refine W.drawnE (ι := Unit) (fun _ _ => _) 10 () (by kernel_rfl) (by kernel_rfl) rfl ?_
  (refine DE.q (fun e c hk => (Ev.ldbn 2 (.t rfl) rfl ag28 ty28 rfl)) rfl (fun _ _ => rfl) (by (exact .inr (fun _ _ => rfl))) ?_)
  (refine DE.q (fun e c hk => (Ev.fab (.t rfl) fa57_0)) rfl (fun _ _ => rfl) (by (exact .inr (fun _ _ => rfl))) ?_)
  (refine DE.q (fun e c hk => (Ev.ldb1 0 (.t rfl) rfl ag3 rfl)) rfl (fun _ _ => rfl) (by (exact .inr (fun _ _ => rfl))) ?_)
  refine DE.callp (fun c => WFinal.c_final a hsa ha p.1 h1) (fun c => ⟨(.t rfl), (.t rfl), trivial⟩) rfl (fun _ _ => rfl) (by (exact .inr (fun _ _ => rfl))) ?_
  (refine DE.q (fun e c hk => (Ev.ldbn 1 (.t rfl) rfl ag28 ty28 rfl)) rfl (fun _ _ => rfl) (by (exact .inr (fun _ _ => rfl))) ?_)
  (refine DE.q (fun e c hk => (Ev.fab (.t rfl) fa57_1)) rfl (fun _ _ => rfl) (by (exact .inr (fun _ _ => rfl))) ?_)
  (refine DE.q (fun e c hk => (Ev.ldb1 0 (.t rfl) rfl ag3 rfl)) rfl (fun _ _ => rfl) (by (exact .inr (fun _ _ => rfl))) ?_)
  refine DE.callp (fun c => WFinal.c_final b hsb hb p.2 h2) (fun c => ⟨(.t rfl), (.t rfl), trivial⟩) rfl (fun _ _ => rfl) (by (exact .inr (fun _ _ => rfl))) ?_
  refine DE.q (fun e c hk => (Ev.neb (.t rfl) (.t rfl) Tryz.underlying4)) rfl (fun _ _ => rfl) (by (exact .inr (fun _ _ => rfl))) ?_
  refine DE.q (fun e c hk => (Ev.assign (.t rfl))) rfl (fun _ _ => rfl) (by (exact .inr (fun _ _ => rfl))) ?_
  refine DE.nil (fun c_ e_ he_ => ?_)
  dsimp only
  refine W.then ?_
  refine W.ret ?_
  refine W.retn (M' := [_, _]) (D := _) (rs := [.tmp 4]) (avs := [_]) Tryz.results20 ⟨rfl, trivial⟩ rfl (List.perm_append_comm (l₁ := [_])) ?_
  exact ⟨congrArg AV.bool (by cases a.fin p.1 <;> cases b.fin p.2 <;> rfl), rfl⟩

theorem c_Same (a b : Au) (hsa : a.Shape) (hsb : b.Shape) (ha : a.next.length ≤ 40) (hb : b.next.length ≤ 40) : FnC Tryz.prog 8 [.agg [.sl 1 (a.next.map pav), .sl 1 (a.final.map AV.bool)], .agg [.sl 1 (b.next.map pav), .sl 1 (b.final.map AV.bool)]] [] (fun r M => M = [] ∧ ∃ e : Bool, (e = true ↔ ∀ u, a.acc 0 u ↔ b.acc 0 u) ∧ r = .tup [.bool e, .int 0]) :=  by
  refine FnC.mk Tryz.func8 (by kernel_rfl) rfl Tryz.ntmps8 rfl (fun w0 F => ?_)
  refine W.seq ?_
  refine W.region ?_
  refine W.box (.t rfl) rfl rfl ?_
  intro b2
  refine W.box (.t rfl) rfl rfl ?_
  intro b3
  refine W.q (Ev.assign .k) rfl ?_
  refine W.q (Ev.assign .k) rfl ?_
  refine W.nil ?_
  refine W.then ?_
  refine W.seq ?_
  refine W.seq ?_
  refine W.region ?_
  (refine W.q (Ev.ldbn 1 (.t rfl) rfl ag28 ty28 rfl) rfl ?_)
  refine W.callp (WMay.c_May a hsa ha) ⟨(.t rfl), trivial⟩ rfl ?_
  refine W.q (Ev.not (.t rfl)) rfl ?_
  refine W.q (Ev.move (.t rfl)) rfl ?_
  refine W.gyes rfl rfl ?_
  (refine W.q (Ev.ldbn 0 (.t rfl) rfl ag28 ty28 rfl) rfl ?_)
  refine W.gyes rfl rfl ?_
  refine W.callp (WMay.c_May b hsb hb) ⟨(.t rfl), trivial⟩ rfl ?_
  refine W.gyes rfl rfl ?_
  refine W.q (Ev.not (.t rfl)) rfl ?_
  refine W.q (Ev.or (.t rfl) ⟨_, _, rfl, rfl, by ((simp; done))⟩) rfl ?_
  refine W.nil ?_
  refine W.then ?_
  refine W.is (t := 15) (g := true) (av' := .lit (.bool false)) rfl (congrArg (fun b => AV.lit (.bool b)) (by rfl)) ?_
  refine W.condF (.t rfl) ?_
  refine W.skip ?_
  refine W.then ?_
  refine W.seq ?_
  refine W.region ?_
  (refine W.q (Ev.ldbn 1 (.t rfl) rfl ag28 ty28 rfl) rfl ?_)
  (refine W.q (Ev.ldbn 0 (.t rfl) rfl ag28 ty28 rfl) rfl ?_)
  refine W.call (WPairs.c_pairs a b hsa hsb ha hb) ⟨(.t rfl), (.t rfl), trivial⟩ (.refl _) rfl ?_
  rintro _ _ ⟨v20, v21, all, T, hP, hl2, rfl, rfl⟩
  have hall : all.length ≤ 41 * 41 := Nat.le_trans hl2 (Nat.mul_le_mul (by omega) (by omega))
  refine W.q (Ev.move (.t rfl)) rfl ?_
  refine W.q (Ev.extract (.t rfl) rfl) rfl ?_
  refine W.q (Ev.extract (.t rfl) rfl) rfl ?_
  refine W.q (Ev.assign (.t rfl)) rfl ?_
  refine W.q (Ev.assign (.t rfl)) rfl ?_
  refine W.nil ?_
  refine W.then ?_
  refine W.seq ?_
  refine W.region ?_
  refine W.freezeA (M1 := _) (M2 := _) (D := []) (v := v20) (L' := [(6, true, .sl 2 (all.map prav))]) (by rw [List.append_nil] <;> exact List.perm_middle (l₁ := [_])) ⟨⟨_, rfl, .one .hit⟩, trivial⟩ (FrzMs.refl _) ?_
  refine W.q (Ev.move (.t rfl)) rfl ?_
  refine W.q (Ev.mkfn (caps := [.tmp 2, .tmp 3]) (vs := [_, _]) ⟨(.t rfl), (.t rfl), trivial⟩) rfl ?_
  refine W.call (c_ContainsFuncQ all 20 [.pointer (some ⟨b2, 0, none⟩), .pointer (some ⟨b3, 0, none⟩)] [.box b3 28 [.sl 1 (b.next.map pav), .sl 1 (b.final.map AV.bool)], .box b2 28 [.sl 1 (a.next.map pav), .sl 1 (a.final.map AV.bool)]] (fun p => a.fin p.1 != b.fin p.2) (fun p hp => c_Same1 a b hsa hsb ha hb p (hP.rng p hp).u1 (hP.rng p hp).u2 b2 b3) (by omega)) ⟨(.t rfl), (.t rfl), trivial⟩ ((List.perm_append_comm (l₁ := [_]))) rfl ?_
  rintro _ _ ⟨rfl, rfl⟩
  refine W.q (Ev.not (.t rfl)) rfl ?_
  refine W.q (Ev.assign (.t rfl)) rfl ?_
  refine W.q (Ev.assign .k) rfl ?_
  refine W.nil ?_
  refine W.then ?_
  refine W.ret ?_
  refine W.retn (M' := []) (D := _) (rs := [.tmp 4, .tmp 5]) (avs := [_, _]) Tryz.results8 ⟨rfl, rfl, trivial⟩ rfl (.refl _) ?_
  refine ⟨rfl, _, ?_, rfl⟩
  rw [← hP.same]
  simp

end WSame

end Go.Proofs.YtacaemfkdieocaaGreatDoor
end
