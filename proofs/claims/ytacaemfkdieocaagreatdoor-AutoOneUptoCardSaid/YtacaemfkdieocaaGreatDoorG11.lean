/-
  Merged: WClasses WRepeat WOrder WConts WMay Law8 WMake.
-/
import Derived.Test.YtacaemfkdieocaaGreatDoorG10

section
set_option linter.unusedVariables false
set_option linter.unusedSimpArgs false
set_option maxRecDepth 100000
namespace Go.Proofs.YtacaemfkdieocaaGreatDoor
open Go.Vl

namespace WClasses
theorem ty3 : Ty Tryz.prog 3 1 8 (.int .i64 0) := Ty.of (by kernel_rfl)
theorem ty4 : Ty Tryz.prog 4 1 1 (.bool false) := Ty.of (by kernel_rfl)
theorem ty26 : Ty Tryz.prog 26 1 24 (.slice none 0 0) := Ty.of (by kernel_rfl)
theorem ty52 : Ty Tryz.prog 52 1 24 (.slice none 0 0) := Ty.of (by kernel_rfl)
theorem ty61 : Ty Tryz.prog 61 2 48 (.agg #[.slice none 0 0, .slice none 0 0]) := Ty.of (by kernel_rfl)
theorem ty75 : Ty Tryz.prog 75 8 64 (.agg #[.int .i64 0, .int .i64 0, .int .i64 0, .int .i64 0, .int .i64 0, .int .i64 0, .int .i64 0, .int .i64 0]) := Ty.of (by kernel_rfl)
theorem ag3 : IsAgg Tryz.prog 3 false := ⟨_, Tryz.underlying3, rfl⟩
theorem ag4 : IsAgg Tryz.prog 4 false := ⟨_, Tryz.underlying4, rfl⟩
theorem ag26 : IsAgg Tryz.prog 26 false := ⟨_, Tryz.underlying26, rfl⟩
theorem ag52 : IsAgg Tryz.prog 52 false := ⟨_, Tryz.underlying52, rfl⟩
theorem ag61 : IsAgg Tryz.prog 61 true := ⟨_, Tryz.underlying61, rfl⟩
theorem ag75 : IsAgg Tryz.prog 75 true := ⟨_, Tryz.underlying75, rfl⟩
theorem fa61_0 : FieldAt Tryz.prog 61 0 0 1 false := ⟨_, _, Tryz.underlying61, rfl, rfl, ty52.size, ag52, by decide⟩
theorem fa61_1 : FieldAt Tryz.prog 61 1 1 1 false := ⟨_, _, Tryz.underlying61, rfl, rfl, ty26.size, ag26, by decide⟩
theorem ni22 : NotInt Tryz.prog 22 := .inl ⟨_, Tryz.underlying22⟩
theorem c_classes (w : Au) (hs : w.Shape) (hn : w.next.length ≤ 100) (M0 : List ME) (hI : ∀ n : Int, -1 ≤ n → n < 100 → FnC Tryz.prog 68 [.int n] M0 (fun r M => r = .str (itoa n) ∧ M = M0)) : FnC Tryz.prog 35 [.agg [.sl 8 (w.next.map wrow), .sl 1 (w.final.map AV.bool)]] M0 (fun r M => ∃ v cl, r = .lit v ∧ M = .arr v 3 1 (rowI w.next.length cl) :: M0 ∧ w.Cls cl ∧ ∀ k, k < w.next.length → -1 ≤ cl k ∧ cl k < 100) :=  by
  refine FnC.mk Tryz.func35 (by kernel_rfl) rfl Tryz.ntmps35 rfl (fun w0 F => ?_)
  have hfin := hs.fin
  have hpos := hs.pos
  have hnl : (w.next.map wrow).length = w.next.length := List.length_map ..
  have hfl : (w.final.map AV.bool).length = w.final.length := List.length_map ..
  refine W.seq ?_
  refine W.region ?_
  refine W.box (.t rfl) rfl rfl ?_
  intro b1
  refine W.q (Ev.assign .k) rfl ?_
  refine W.nil ?_
  refine W.then ?_
  refine W.seq ?_
  refine W.region ?_
  (refine W.q (Ev.ldbn 0 (.t rfl) rfl ag61 ty61 rfl) rfl ?_)
  refine W.call (WLive.c_live w hs (by omega)) ⟨(.t rfl), trivial⟩ (.refl _) rfl ?_
  rintro _ _ ⟨v19, f, rfl, rfl, hf⟩
  refine W.q (Ev.assign (.t rfl)) rfl ?_
  refine W.nil ?_
  refine W.then ?_
  refine W.seq ?_
  refine W.region ?_
  (refine W.q (Ev.fab (.t rfl) fa61_0) rfl ?_)
  (refine W.q (Ev.ldb1 1 (.t rfl) rfl ag52 rfl) rfl ?_)
  (refine W.q (Ev.lensl (.t rfl) Tryz.underlying52) rfl ?_)
  refine W.mk (.t rfl) (.t rfl) Tryz.underlying22 ty3 rfl rfl rfl rfl rfl (by omega) rfl ?_
  intro v23
  refine W.q (Ev.assign (.t rfl)) rfl ?_
  refine W.nil ?_
  refine W.then ?_
  refine W.seq ?_
  refine W.seq ?_
  refine W.region ?_
  refine W.q (Ev.move (.t rfl)) rfl ?_
  (refine W.q (Ev.lenar (i := 0) (.t rfl) rfl Tryz.underlying22) rfl ?_)
  refine W.q (Ev.move .k) rfl ?_
  refine W.nil ?_
  refine W.then ?_
  refine W.block ?_
  refine W.loop (D := []) (ι := Nat) (fun i => [(26, true, .int (i : Int)), (25, true, .int ((List.replicate (w.next.map wrow).length (AV.int 0)).length : Int)), (3, true, .lit v19), (4, true, .lit v23), (1, true, .lit (.pointer (some ⟨b1, 0, none⟩)))]) (fun i => .arr v23 3 1 (rowI w.next.length (clsI w f i)) :: .arr v19 4 1 (rowB w.next.length f) :: .box b1 61 [.sl 8 (w.next.map wrow), .sl 1 (w.final.map AV.bool)] :: M0) (fun i => i ≤ w.next.length) (fun i => w.next.length - i) 0 ⟨rfl, rfl, rfl, rfl, rfl, trivial⟩ (by rw [List.append_nil]; (try dsimp only); rw [← clsI_start, hnl]; exact .refl _) (Nat.zero_le _) ?_
  intro i hi
  dsimp only at hi ⊢
  have hrl : (List.replicate (w.next.map wrow).length (AV.int 0)).length = w.next.length := by rw [List.length_replicate, hnl]
  rcases (show i < w.next.length ∨ i = w.next.length from by omega) with hi | hend
  · skip
    refine W.seq ?_
    refine W.region ?_
    refine W.q (Ev.lti (.t rfl) (.t rfl)) rfl ?_
    refine W.nil ?_
    refine W.then ?_
    refine W.seq ?_
    refine W.is (t := 27) (g := true) (av' := .lit (.bool true)) rfl (congrArg (fun b => AV.lit (.bool b)) (by exact decide_eq_true (by omega))) ?_
    refine W.condT (.t rfl) ?_
    refine W.skip ?_
    refine W.then ?_
    refine W.seq ?_
    refine W.block ?_
    refine W.seq ?_
    refine W.region ?_
    refine W.q (Ev.move (.t rfl)) rfl ?_
    refine W.q (Ev.assign (.t rfl)) rfl ?_
    refine W.nil ?_
    refine W.then ?_
    refine W.block ?_
    refine W.seq ?_
    refine W.region ?_
    refine W.q (Ev.move (.t rfl)) rfl ?_
    refine W.q (Ev.move (.t rfl)) rfl ?_
    refine W.q (Ev.ata 1 (.t rfl) rfl (.t rfl) Tryz.underlying26 ty4 (fun _ => by ((rw [rowB_len]; omega)))) rfl ?_
    refine W.q (Ev.lda1 1 i 0 (.t rfl) rfl (rowB_at _ f i hi) (by omega) rfl rfl rfl ag4) rfl ?_
    refine W.q (Ev.not (.t rfl)) rfl ?_
    refine W.q (Ev.assign (.t rfl)) rfl ?_
    refine W.nil ?_
    refine W.then ?_
    refine W.cond (.t rfl) (fun hc_t29 => ?_) (fun hc_t29 => ?_)
    · have h29 : f i = false := by simpa using hc_t29
      have hx : Au.cls0 w f i = -1 := by unfold Au.cls0; rw [if_neg (by rw [h29]; decide)]
      refine W.region ?_
      refine W.q (Ev.move (.t rfl)) rfl ?_
      refine W.q (Ev.move (.t rfl)) rfl ?_
      refine W.q (Ev.ata 0 (.t rfl) rfl (.t rfl) Tryz.underlying22 ty3 (fun _ => by ((rw [rowI_len]; omega)))) rfl ?_
      refine W.sta 0 i 0 (e := AV.int (clsI w f i i)) (e' := AV.int (-1)) (.t rfl) .k rfl (rowI_get hi) (by omega) ty3 rfl rfl rfl rfl rfl rfl rfl ?_
      refine W.nil ?_
      refine W.blk_normal ?_
      refine W.blk_normal ?_
      refine W.then ?_
      refine W.region ?_
      (refine W.q (Ev.add (.t rfl) .k (fun _ => by omega)) rfl ?_)
      refine W.q (Ev.move (.t rfl)) rfl ?_
      refine W.nil ?_
      refine W.then ?_
      refine W.reach (D := []) (i + 1) ⟨rfl, rfl, rfl, rfl, rfl, trivial⟩ (by rw [List.append_nil]; (try dsimp only); rw [← clsI_set w.next.length i hx]; exact .refl _) ⟨hi, by show w.next.length - (i + 1) < w.next.length - i; omega⟩
    · have h29 : f i = true := by simpa using hc_t29
      have hgf := getD_mapG AV.bool false w.final i (by omega)
      refine W.seq ?_
      refine W.region ?_
      (refine W.q (Ev.fab (.t rfl) fa61_1) rfl ?_)
      (refine W.q (Ev.ldb1 2 (.t rfl) rfl ag26 rfl) rfl ?_)
      refine W.q (Ev.move (.t rfl)) rfl ?_
      refine W.q (Ev.at (E := 4) (.t rfl) (.t rfl) Tryz.underlying26 ty4 (fun _ => ⟨by omega, hgf⟩) rfl rfl) rfl ?_
      (refine W.q (Ev.lde1 (.t rfl) ag4) rfl ?_)
      refine W.q (Ev.assign (.t rfl)) rfl ?_
      refine W.nil ?_
      refine W.then ?_
      refine W.cond (.t rfl) (fun hc_t38 => ?_) (fun hc_t38 => ?_)
      · have hx : Au.cls0 w f i = 1 := by unfold Au.cls0; rw [if_pos h29, if_pos hc_t38]
        refine W.region ?_
        refine W.q (Ev.move (.t rfl)) rfl ?_
        refine W.q (Ev.move (.t rfl)) rfl ?_
        refine W.q (Ev.ata 0 (.t rfl) rfl (.t rfl) Tryz.underlying22 ty3 (fun _ => by ((rw [rowI_len]; omega)))) rfl ?_
        refine W.sta 0 i 0 (e := AV.int (clsI w f i i)) (e' := AV.int (1)) (.t rfl) .k rfl (rowI_get hi) (by omega) ty3 rfl rfl rfl rfl rfl rfl rfl ?_
        refine W.nil ?_
        refine W.blk_normal ?_
        refine W.blk_normal ?_
        refine W.then ?_
        refine W.region ?_
        (refine W.q (Ev.add (.t rfl) .k (fun _ => by omega)) rfl ?_)
        refine W.q (Ev.move (.t rfl)) rfl ?_
        refine W.nil ?_
        refine W.then ?_
        refine W.reach (D := []) (i + 1) ⟨rfl, rfl, rfl, rfl, rfl, trivial⟩ (by rw [List.append_nil]; (try dsimp only); rw [← clsI_set w.next.length i hx]; exact .refl _) ⟨hi, by show w.next.length - (i + 1) < w.next.length - i; omega⟩
      · have hx : Au.cls0 w f i = 0 := by unfold Au.cls0; rw [if_pos h29, if_neg (by rw [hc_t38]; decide)]
        refine W.skip ?_
        refine W.blk_normal ?_
        refine W.blk_normal ?_
        refine W.then ?_
        refine W.region ?_
        (refine W.q (Ev.add (.t rfl) .k (fun _ => by omega)) rfl ?_)
        refine W.q (Ev.move (.t rfl)) rfl ?_
        refine W.nil ?_
        refine W.then ?_
        refine W.reach (D := []) (i + 1) ⟨rfl, rfl, rfl, rfl, rfl, trivial⟩ (by rw [List.append_nil]; (try dsimp only); rw [← clsI_zero w.next.length i hx]) ⟨hi, by show w.next.length - (i + 1) < w.next.length - i; omega⟩
  · subst hend
    rw [clsI_done]
    refine W.seq ?_
    refine W.region ?_
    refine W.q (Ev.lti (.t rfl) (.t rfl)) rfl ?_
    refine W.nil ?_
    refine W.then ?_
    refine W.seq ?_
    refine W.is (t := 27) (g := true) (av' := .lit (.bool false)) rfl (congrArg (fun b => AV.lit (.bool b)) (by exact decide_eq_false (by omega))) ?_
    refine W.condF (.t rfl) ?_
    refine W.exit ?_
    refine W.then_exit ?_
    refine W.then_exit ?_
    refine W.blk_hit ?_
    refine W.then ?_
    refine W.seq ?_
    refine W.region ?_
    refine W.q (Ev.assign .k) rfl ?_
    refine W.nil ?_
    refine W.then ?_
    refine W.block ?_
    refine W.loop (D := [.arr v19 4 1 (rowB w.next.length f)]) (ι := Nat × Value × (Nat → Int)) (fun z => [(6, true, .int (z.1 : Int)), (4, true, .lit z.2.1), (1, true, .lit (.pointer (some ⟨b1, 0, none⟩)))]) (fun z => .arr z.2.1 3 1 (rowI w.next.length z.2.2) :: .box b1 61 [.sl 8 (w.next.map wrow), .sl 1 (w.final.map AV.bool)] :: M0) (fun z => w.Moore z.2.2 z.1 ∧ ∀ k, k < w.next.length → -1 ≤ z.2.2 k ∧ z.2.2 k < 100) (fun z => w.next.length + 1 - z.1) (0, v23, Au.cls0 w f) ⟨rfl, rfl, rfl, trivial⟩ (by dsimp only; exact List.Perm.cons _ (List.perm_append_comm (l₁ := [_]))) ⟨Au.Moore.start hf, fun k _ => Au.cls0_rng w f k⟩ ?_
    rintro ⟨many, vo, out⟩ ⟨hM, hrg⟩
    dsimp only at hM hrg ⊢
    refine W.block ?_
    refine W.seq ?_
    refine W.region ?_
    refine W.mkmap rfl ?_
    intro b48
    refine W.q (Ev.assign (.t rfl)) rfl ?_
    refine W.nil ?_
    refine W.then ?_
    refine W.seq ?_
    refine W.region ?_
    refine W.q (Ev.move (.t rfl)) rfl ?_
    (refine W.q (Ev.lenar (i := 1) (.t rfl) rfl Tryz.underlying22) rfl ?_)
    refine W.is (t := 50) (g := true) (av' := .int (w.next.length : Int)) rfl (by rw [rowI_len]) ?_
    refine W.mk (.t rfl) (.t rfl) Tryz.underlying22 ty3 rfl rfl rfl rfl rfl (by omega) rfl ?_
    intro v51
    refine W.q (Ev.assign (.t rfl)) rfl ?_
    refine W.nil ?_
    refine W.then ?_
    refine W.seq ?_
    refine W.seq ?_
    refine W.region ?_
    (refine W.q (Ev.fab (.t rfl) fa61_0) rfl ?_)
    (refine W.q (Ev.ldb1 3 (.t rfl) rfl ag52 rfl) rfl ?_)
    (refine W.q (Ev.lensl (.t rfl) Tryz.underlying52) rfl ?_)
    refine W.q (Ev.move .k) rfl ?_
    refine W.nil ?_
    refine W.then ?_
    refine W.block ?_
    refine W.loop (D := []) (ι := Nat × List (List Int) × (Nat → Int)) (fun z => [(55, true, .int (z.1 : Int)), (54, true, .int ((w.next.map wrow).length : Int)), (53, true, .sl 8 (w.next.map wrow)), (7, true, .lit (.map (some b48))), (8, true, .lit v51), (6, true, .int (many : Int)), (4, true, .lit vo), (1, true, .lit (.pointer (some ⟨b1, 0, none⟩)))]) (fun z => .arr v51 3 1 (rowI w.next.length z.2.2) :: .obj b48 (mObj (((z.2.1).map keyL).map fun s : List UInt8 => Value.string ⟨s.toArray⟩)) :: .arr vo 3 1 (rowI w.next.length out) :: .box b1 61 [.sl 8 (w.next.map wrow), .sl 1 (w.final.map AV.bool)] :: M0) (fun z => Au.Dv w out z.2.1 z.2.2 z.1 ∧ z.1 ≤ w.next.length) (fun z => w.next.length - z.1) (0, [], fun _ => 0) ⟨rfl, rfl, rfl, rfl, rfl, rfl, rfl, rfl, trivial⟩ (by rw [List.append_nil]; (try dsimp only); rw [← rowI_rep]; exact .refl _) ⟨Au.Dv.start _, Nat.zero_le _⟩ ?_
    rintro ⟨i, K, next⟩ ⟨hD, hi⟩
    dsimp only at hD hi ⊢
    have hKl := hD.len
    rcases (show i < w.next.length ∨ i = w.next.length from by omega) with hi | hend
    · have hga := wrow_get hs hi
      have hplc := hD.plc hrg hs hi
      have hsml := Au.lst_sml hrg hs hi
      refine W.seq ?_
      refine W.region ?_
      refine W.q (Ev.lti (.t rfl) (.t rfl)) rfl ?_
      refine W.nil ?_
      refine W.then ?_
      refine W.seq ?_
      refine W.is (t := 56) (g := true) (av' := .lit (.bool true)) rfl (congrArg (fun b => AV.lit (.bool b)) (by exact decide_eq_true (by omega))) ?_
      refine W.condT (.t rfl) ?_
      refine W.skip ?_
      refine W.then ?_
      refine W.seq ?_
      refine W.block ?_
      refine W.seq ?_
      refine W.region ?_
      refine W.q (Ev.move (.t rfl)) rfl ?_
      refine W.q (Ev.at (E := 75) (.t rfl) (.t rfl) Tryz.underlying52 ty75 (fun _ => ⟨by omega, hga⟩) rfl rfl) rfl ?_
      (refine W.q (Ev.lden (.t rfl) ag75 ty75 rfl rfl) rfl ?_)
      refine W.alloc ty75 rfl rfl ?_
      intro b10
      refine W.q (Ev.assign (.t rfl)) rfl ?_
      (refine W.stb 0 (.t rfl) (.t rfl) rfl ty75 rfl rfl rfl ?_)
      refine W.nil ?_
      refine W.then ?_
      refine W.seq ?_
      refine W.seq ?_
      refine W.region ?_
      refine W.q (Ev.move (.t rfl)) rfl ?_
      refine W.q (Ev.move (.t rfl)) rfl ?_
      refine W.q (Ev.ata 3 (.t rfl) rfl (.t rfl) Tryz.underlying22 ty3 (fun _ => by ((rw [rowI_len]; omega)))) rfl ?_
      refine W.q (Ev.lda1 3 i 0 (.t rfl) rfl (rowI_get hi) (by omega) rfl rfl rfl ag3) rfl ?_
      refine W.q (Ev.lti (.t rfl) .k) rfl ?_
      refine W.nil ?_
      refine W.then ?_
      refine W.cond (.t rfl) (fun hc_t64 => ?_) (fun hc_t64 => ?_)
      · have ho : out i < 0 := of_decide_eq_true hc_t64
        refine W.seq ?_
        refine W.region ?_
        refine W.q (Ev.move (.t rfl)) rfl ?_
        refine W.q (Ev.move (.t rfl)) rfl ?_
        refine W.q (Ev.ata 1 (.t rfl) rfl (.t rfl) Tryz.underlying22 ty3 (fun _ => by ((rw [rowI_len]; omega)))) rfl ?_
        refine W.sta 1 i 0 (e := AV.int (next i)) (e' := AV.int (-1)) (.t rfl) .k rfl (rowI_get hi) (by omega) ty3 rfl rfl rfl rfl rfl rfl rfl ?_
        refine W.nil ?_
        refine W.then ?_
        refine W.exit ?_
        refine W.then_exit ?_
        refine W.blk_hit ?_
        refine W.then ?_
        refine W.region ?_
        (refine W.q (Ev.add (.t rfl) .k (fun _ => by omega)) rfl ?_)
        refine W.q (Ev.move (.t rfl)) rfl ?_
        refine W.nil ?_
        refine W.then ?_
        refine W.reach (D := [.box b10 75 (row8 (fun c => w.to (i : Int) (c : Int)))] ) (i + 1, K, (fun k => if k = i then -1 else next k)) ⟨rfl, rfl, rfl, rfl, rfl, rfl, rfl, rfl, trivial⟩ ?_ ⟨⟨hD.none ho, hi⟩, by show w.next.length - (i + 1) < w.next.length - i; omega⟩
        dsimp only
        rw [← rowI_set]
        exact List.perm_append_comm (l₁ := [_])
      · have ho : 0 ≤ out i := Int.not_lt.1 (of_decide_eq_false hc_t64)
        refine W.skip ?_
        refine W.then ?_
        refine W.seq ?_
        refine W.region ?_
        refine W.q (Ev.move (.t rfl)) rfl ?_
        refine W.q (Ev.move (.t rfl)) rfl ?_
        refine W.q (Ev.ata 3 (.t rfl) rfl (.t rfl) Tryz.underlying22 ty3 (fun _ => by ((rw [rowI_len]; omega)))) rfl ?_
        refine W.q (Ev.lda1 3 i 0 (.t rfl) rfl (rowI_get hi) (by omega) rfl rfl rfl ag3) rfl ?_
        refine W.bso (es := [_]) Tryz.underlying22 ty3 ⟨rfl, (.t rfl), rfl, rfl, trivial⟩ rfl (by decide) rfl rfl ?_
        intro v72
        refine W.q (Ev.assign (.t rfl)) rfl ?_
        refine W.nil ?_
        refine W.then ?_
        refine W.seq ?_
        refine W.seq ?_
        refine W.region ?_
        (refine W.q (Ev.ldbn 1 (.t rfl) rfl ag75 ty75 rfl) rfl ?_)
        refine W.is (t := 73) (g := true) (av' := r8av (fun c => w.to (i : Int) (c : Int))) rfl rfl ?_
        refine W.q (Ev.move .k) rfl ?_
        refine W.nil ?_
        refine W.then ?_
        refine W.block ?_
        refine W.loop (D := [.box b10 75 (row8 (fun c => w.to (i : Int) (c : Int)))]) (ι := Nat × Value) (fun z => [(74, true, .int (z.1 : Int)), (73, true, r8av (fun c => w.to (i : Int) (c : Int))), (9, true, .int (i : Int)), (11, true, .lit z.2), (55, true, .int (i : Int)), (54, true, .int ((w.next.map wrow).length : Int)), (53, true, .sl 8 (w.next.map wrow)), (7, true, .lit (.map (some b48))), (8, true, .lit v51), (6, true, .int (many : Int)), (4, true, .lit vo), (1, true, .lit (.pointer (some ⟨b1, 0, none⟩)))]) (fun z => .arr z.2 3 1 (((Au.lst w out i).take (z.1 + 1)).map AV.int) :: .arr v51 3 1 (rowI w.next.length next) :: .obj b48 (mObj (((K).map keyL).map fun s : List UInt8 => Value.string ⟨s.toArray⟩)) :: .arr vo 3 1 (rowI w.next.length out) :: .box b1 61 [.sl 8 (w.next.map wrow), .sl 1 (w.final.map AV.bool)] :: M0) (fun z => z.1 ≤ 8) (fun z => 8 - z.1) (0, v72) ⟨rfl, rfl, rfl, rfl, rfl, rfl, rfl, rfl, rfl, rfl, rfl, rfl, trivial⟩ (List.Perm.cons _ (List.perm_append_comm (l₁ := [_]))) (Nat.zero_le _) ?_
        rintro ⟨d, v11⟩ hd
        dsimp only at hd ⊢
        rcases (show d < 8 ∨ d = 8 from by omega) with hd8 | hend
        · have hto := Au.to_range hs (i := (i : Int)) (c := (d : Int)) (by omega) (by omega) (by omega) (by omega)
          have hsn := Au.lst_snoc w out i d hd8
          refine W.seq ?_
          refine W.region ?_
          refine W.q (Ev.lti (.t rfl) .k) rfl ?_
          refine W.nil ?_
          refine W.then ?_
          refine W.seq ?_
          refine W.is (t := 75) (g := true) (av' := .lit (.bool true)) rfl (congrArg (fun b => AV.lit (.bool b)) (by exact decide_eq_true (by omega))) ?_
          refine W.condT (.t rfl) ?_
          refine W.skip ?_
          refine W.then ?_
          refine W.seq ?_
          refine W.block ?_
          refine W.seq ?_
          refine W.region ?_
          refine W.q (Ev.arrat (.t rfl) (.t rfl) Tryz.underlying75 Tryz.underlying3 (fun _ => ⟨by omega, by omega, row8_get _ d hd8⟩) ty3) rfl ?_
          refine W.q (Ev.assign (.t rfl)) rfl ?_
          refine W.nil ?_
          refine W.then ?_
          refine W.seq ?_
          refine W.region ?_
          refine W.q (Ev.assign .k) rfl ?_
          refine W.nil ?_
          refine W.then ?_
          refine W.seq ?_
          refine W.seq ?_
          refine W.region ?_
          refine W.q (Ev.move (.t rfl)) rfl ?_
          refine W.q (Ev.gei (.t rfl) .k) rfl ?_
          refine W.nil ?_
          refine W.then ?_
          refine W.cond (.t rfl) (fun hc_t78 => ?_) (fun hc_t78 => ?_)
          · have h78 : 0 ≤ w.to (i : Int) (d : Int) := of_decide_eq_true hc_t78
            have hcx : w.cto out i d = out (w.to (i : Int) (d : Int)).toNat := by unfold Au.cto; rw [if_pos h78]
            refine W.region ?_
            refine W.q (Ev.move (.t rfl)) rfl ?_
            refine W.q (Ev.move (.t rfl)) rfl ?_
            refine W.q (Ev.ata 3 (.t rfl) rfl (.t rfl) Tryz.underlying22 ty3 (fun _ => by rw [rowI_len]; omega)) rfl ?_
            refine W.q (Ev.lda1 3 (w.to (i : Int) (d : Int)).toNat 0 (.t rfl) rfl (rowI_get (by omega)) (by omega) rfl rfl rfl ag3) rfl ?_
            refine W.q (Ev.assign (.t rfl)) rfl ?_
            refine W.nil ?_
            refine W.then ?_
            refine W.region ?_
            refine W.q (Ev.move (.t rfl)) rfl ?_
            refine W.q (Ev.move (.t rfl)) rfl ?_
            refine W.bs (es := [_]) Tryz.underlying22 ty3 ⟨rfl, (.t rfl), rfl, rfl, trivial⟩ rfl (by decide) rfl rfl ?_
            (refine W.app 0 (.t rfl) rfl (.sl (.t rfl) (by intro e he; rw [List.mem_singleton.1 he]; rfl)) Tryz.underlying22 ni22 ty3 rfl rfl (by rw [List.length_map, List.length_take]; simp only [List.length_cons, List.length_nil]; omega) rfl ?_)
            intro v86
            refine W.q (Ev.assign (.t rfl)) rfl ?_
            refine W.nil ?_
            refine W.blk_normal ?_
            refine W.then ?_
            refine W.region ?_
            (refine W.q (Ev.add (.t rfl) .k (fun _ => by omega)) rfl ?_)
            refine W.q (Ev.move (.t rfl)) rfl ?_
            refine W.nil ?_
            refine W.then ?_
            refine W.reach (D := []) (d + 1, _) ⟨rfl, rfl, rfl, rfl, rfl, rfl, rfl, rfl, rfl, rfl, rfl, rfl, trivial⟩ (by rw [List.append_nil]; (try dsimp only); rw [hsn, List.map_append, hcx]; exact .refl _) ⟨hd8, by show 8 - (d + 1) < 8 - d; omega⟩
          · have h78 : ¬ 0 ≤ w.to (i : Int) (d : Int) := of_decide_eq_false hc_t78
            have hcx : w.cto out i d = -1 := by unfold Au.cto; rw [if_neg h78]
            refine W.skip ?_
            refine W.then ?_
            refine W.region ?_
            refine W.q (Ev.move (.t rfl)) rfl ?_
            refine W.q (Ev.move (.t rfl)) rfl ?_
            refine W.bs (es := [_]) Tryz.underlying22 ty3 ⟨rfl, (.t rfl), rfl, rfl, trivial⟩ rfl (by decide) rfl rfl ?_
            (refine W.app 0 (.t rfl) rfl (.sl (.t rfl) (by intro e he; rw [List.mem_singleton.1 he]; rfl)) Tryz.underlying22 ni22 ty3 rfl rfl (by rw [List.length_map, List.length_take]; simp only [List.length_cons, List.length_nil]; omega) rfl ?_)
            intro v86
            refine W.q (Ev.assign (.t rfl)) rfl ?_
            refine W.nil ?_
            refine W.blk_normal ?_
            refine W.then ?_
            refine W.region ?_
            (refine W.q (Ev.add (.t rfl) .k (fun _ => by omega)) rfl ?_)
            refine W.q (Ev.move (.t rfl)) rfl ?_
            refine W.nil ?_
            refine W.then ?_
            refine W.reach (D := []) (d + 1, _) ⟨rfl, rfl, rfl, rfl, rfl, rfl, rfl, rfl, rfl, rfl, rfl, rfl, trivial⟩ (by rw [List.append_nil]; (try dsimp only); rw [hsn, List.map_append, hcx]; exact .refl _) ⟨hd8, by show 8 - (d + 1) < 8 - d; omega⟩
        · subst hend
          refine W.seq ?_
          refine W.region ?_
          refine W.q (Ev.lti (.t rfl) .k) rfl ?_
          refine W.nil ?_
          refine W.then ?_
          refine W.seq ?_
          refine W.is (t := 75) (g := true) (av' := .lit (.bool false)) rfl (congrArg (fun b => AV.lit (.bool b)) (by rfl)) ?_
          refine W.condF (.t rfl) ?_
          refine W.exit ?_
          refine W.then_exit ?_
          refine W.then_exit ?_
          refine W.blk_hit ?_
          refine W.then ?_
          refine W.seq ?_
          refine W.region ?_
          refine W.freezeA (M1 := .arr v51 3 1 (rowI w.next.length next) :: .obj b48 (mObj (((K).map keyL).map fun s : List UInt8 => Value.string ⟨s.toArray⟩)) :: .arr vo 3 1 (rowI w.next.length out) :: .box b1 61 [.sl 8 (w.next.map wrow), .sl 1 (w.final.map AV.bool)] :: M0) (M2 := .arr v51 3 1 (rowI w.next.length next) :: .obj b48 (mObj (((K).map keyL).map fun s : List UInt8 => Value.string ⟨s.toArray⟩)) :: .arr vo 3 1 (rowI w.next.length out) :: .box b1 61 [.sl 8 (w.next.map wrow), .sl 1 (w.final.map AV.bool)] :: M0) (D := []) (v := v11) (L' := [(11, true, .sl 1 ((Au.lst w out i).map AV.int))]) (by rw [List.append_nil]; exact .refl _) ⟨⟨_, rfl, .one .hit⟩, trivial⟩ (FrzMs.refl _) ?_
          refine W.q (Ev.move (.t rfl)) rfl ?_
          refine W.call (WKey.c_key (Au.lst w out i) (by show 9 ≤ 100000; decide) M0 (fun n hn => hI n (hsml n hn).1 (hsml n hn).2)) ⟨(.t rfl), trivial⟩ (List.perm_append_comm (l₁ := [_, _, _, _])) rfl ?_
          rintro _ _ ⟨rfl, rfl⟩
          refine W.perm (List.perm_append_comm (l₂ := [_, _, _, _])) ?_
          refine W.q (Ev.assign (.t rfl)) rfl ?_
          refine W.nil ?_
          refine W.then ?_
          refine W.seq ?_
          refine W.seq ?_
          refine W.region ?_
          refine W.q (Ev.move (.t rfl)) rfl ?_
          refine W.q (Ev.move (.t rfl)) rfl ?_
          (refine W.q (Ev.look2 1 (.t rfl) rfl (.t rfl) Tryz.underlying93 (KeyKind.str Tryz.underlying9) ty3) rfl ?_)
          refine W.q (Ev.move (.t rfl)) rfl ?_
          refine W.q (Ev.extract (.t rfl) rfl) rfl ?_
          refine W.q (Ev.extract (.t rfl) rfl) rfl ?_
          refine W.q (Ev.assign (.t rfl)) rfl ?_
          refine W.q (Ev.assign (.t rfl)) rfl ?_
          refine W.nil ?_
          refine W.then ?_
          refine W.seq ?_
          refine W.region ?_
          refine W.q (Ev.move (.t rfl)) rfl ?_
          refine W.q (Ev.not (.t rfl)) rfl ?_
          refine W.nil ?_
          refine W.then ?_
          refine W.cond (.t rfl) (fun hc_t97 => ?_) (fun hc_t97 => ?_)
          · have hnew : keyL (Au.lst w out i) ∉ K.map keyL := by
              rw [← place_none]
              cases hp : place (keyL (Au.lst w out i)) (K.map keyL) with
              | none => rfl
              | some j => rw [hp] at hc_t97; simp at hc_t97
            have hnewK : Au.lst w out i ∉ K := by rw [← place_none, ← hplc]; exact place_none.2 hnew
            refine W.region ?_
            refine W.q (Ev.move (.t rfl)) rfl ?_
            refine W.q (Ev.move (.t rfl)) rfl ?_
            refine W.q (Ev.move (.t rfl)) rfl ?_
            (refine W.q (Ev.lenmap 1 (.t rfl) rfl Tryz.underlying93) rfl ?_)
            refine W.is (t := 101) (g := true) (av' := .int ((K.map keyL).length : Int)) rfl (by rw [List.length_map]) ?_
            (refine W.mapnew 1 (.t rfl) rfl (.t rfl) (.t rfl) Tryz.underlying93 (KeyKind.str Tryz.underlying9) (hnew) _ (.inl rfl) ?_)
            refine W.nil ?_
            refine W.then ?_
            refine W.region ?_
            refine W.q (Ev.move (.t rfl)) rfl ?_
            refine W.q (Ev.move (.t rfl)) rfl ?_
            refine W.q (Ev.move (.t rfl)) rfl ?_
            refine W.q (Ev.move (.t rfl)) rfl ?_
            (refine W.q (Ev.look1 1 (.t rfl) rfl (.t rfl) Tryz.underlying93 (KeyKind.str Tryz.underlying9) ty3) rfl ?_)
            refine W.is (t := 106) (g := true) (av' := .int (K.length : Int)) rfl (by rw [place_new hnew, List.length_map]; rfl) ?_
            refine W.q (Ev.ata 0 (.t rfl) rfl (.t rfl) Tryz.underlying22 ty3 (fun _ => by ((rw [rowI_len]; omega)))) rfl ?_
            refine W.sta 0 i 0 (e := AV.int (next i)) (e' := AV.int ((K.length : Int))) (.t rfl) (.t rfl) rfl (rowI_get hi) (by omega) ty3 rfl rfl rfl rfl rfl rfl rfl ?_
            refine W.nil ?_
            refine W.blk_normal ?_
            refine W.then ?_
            refine W.region ?_
            (refine W.q (Ev.add (.t rfl) .k (fun _ => by omega)) rfl ?_)
            refine W.q (Ev.move (.t rfl)) rfl ?_
            refine W.nil ?_
            refine W.then ?_
            refine W.reach (D := [] ) (i + 1, K ++ [Au.lst w out i], (fun k => if k = i then (K.length : Int) else next k)) ⟨rfl, rfl, rfl, rfl, rfl, rfl, rfl, rfl, trivial⟩ ?_ ⟨⟨hD.new ho hnewK, hi⟩, by show w.next.length - (i + 1) < w.next.length - i; omega⟩
            rw [List.append_nil]
            (try dsimp only)
            simp only [← rowI_set, List.map_append]
            exact List.Perm.refl _
          · obtain ⟨j, hj⟩ : ∃ j, place (keyL (Au.lst w out i)) (K.map keyL) = some j := by
              cases hp : place (keyL (Au.lst w out i)) (K.map keyL) with
              | none => rw [hp] at hc_t97; simp at hc_t97
              | some j => exact ⟨j, rfl⟩
            have hjg := place_some (hplc ▸ hj)
            refine W.skip ?_
            refine W.then ?_
            refine W.region ?_
            refine W.q (Ev.move (.t rfl)) rfl ?_
            refine W.q (Ev.move (.t rfl)) rfl ?_
            refine W.q (Ev.move (.t rfl)) rfl ?_
            refine W.q (Ev.move (.t rfl)) rfl ?_
            (refine W.q (Ev.look1 1 (.t rfl) rfl (.t rfl) Tryz.underlying93 (KeyKind.str Tryz.underlying9) ty3) rfl ?_)
            refine W.is (t := 106) (g := true) (av' := .int (j : Int)) rfl (by rw [hj]; rfl) ?_
            refine W.q (Ev.ata 0 (.t rfl) rfl (.t rfl) Tryz.underlying22 ty3 (fun _ => by ((rw [rowI_len]; omega)))) rfl ?_
            refine W.sta 0 i 0 (e := AV.int (next i)) (e' := AV.int ((j : Int))) (.t rfl) (.t rfl) rfl (rowI_get hi) (by omega) ty3 rfl rfl rfl rfl rfl rfl rfl ?_
            refine W.nil ?_
            refine W.blk_normal ?_
            refine W.then ?_
            refine W.region ?_
            (refine W.q (Ev.add (.t rfl) .k (fun _ => by omega)) rfl ?_)
            refine W.q (Ev.move (.t rfl)) rfl ?_
            refine W.nil ?_
            refine W.then ?_
            refine W.reach (D := [] ) (i + 1, K, (fun k => if k = i then (j : Int) else next k)) ⟨rfl, rfl, rfl, rfl, rfl, rfl, rfl, rfl, trivial⟩ ?_ ⟨⟨hD.old ho hjg, hi⟩, by show w.next.length - (i + 1) < w.next.length - i; omega⟩
            rw [List.append_nil]
            (try dsimp only)
            rw [← rowI_set]
            exact List.Perm.refl _
    · subst hend
      have hdiv := hD.div
      refine W.seq ?_
      refine W.region ?_
      refine W.q (Ev.lti (.t rfl) (.t rfl)) rfl ?_
      refine W.nil ?_
      refine W.then ?_
      refine W.seq ?_
      refine W.is (t := 56) (g := true) (av' := .lit (.bool false)) rfl (congrArg (fun b => AV.lit (.bool b)) (by exact decide_eq_false (by omega))) ?_
      refine W.condF (.t rfl) ?_
      refine W.exit ?_
      refine W.then_exit ?_
      refine W.then_exit ?_
      refine W.blk_hit ?_
      refine W.then ?_
      refine W.seq ?_
      refine W.region ?_
      refine W.q (Ev.move (.t rfl)) rfl ?_
      refine W.q (Ev.assign (.t rfl)) rfl ?_
      refine W.nil ?_
      refine W.then ?_
      refine W.seq ?_
      refine W.seq ?_
      refine W.region ?_
      refine W.q (Ev.move (.t rfl)) rfl ?_
      (refine W.q (Ev.lenmap 1 (.t rfl) rfl Tryz.underlying93) rfl ?_)
      refine W.is (t := 111) (g := true) (av' := .int (K.length : Int)) rfl (by rw [List.length_map, List.length_map]) ?_
      refine W.q (Ev.move (.t rfl)) rfl ?_
      refine W.q (Ev.eqi (.t rfl) (.t rfl)) rfl ?_
      refine W.nil ?_
      refine W.then ?_
      refine W.cond (.t rfl) (fun hc_t113 => ?_) (fun hc_t113 => ?_)
      · have hKm : K.length = many := by have := eq_of_beq hc_t113; omega
        subst hKm
        have hcl := hM.cls hs (fun k hk h => by have := (hrg k hk).1; omega) hdiv
        refine W.seq ?_
        refine W.region ?_
        refine W.q (Ev.move (.t rfl)) rfl ?_
        refine W.q (Ev.assign (.t rfl)) rfl ?_
        refine W.nil ?_
        refine W.then ?_
        refine W.ret ?_
        refine W.then_ret ?_
        refine W.blk_ret ?_
        refine W.then_ret ?_
        refine W.blk_ret ?_
        refine W.retn (M' := (.arr v51 3 1 (rowI w.next.length next) :: M0)) (D := _) (rs := [.tmp 2]) (avs := [_]) Tryz.results35 ⟨rfl, trivial⟩ rfl (List.Perm.cons _ (List.perm_append_comm (l₁ := [_, _, _]))) ?_
        exact ⟨_, next, rfl, rfl, hcl, hD.rng (by omega)⟩
      · have hKm : K.length ≠ many := by intro h; apply Bool.eq_false_iff.1 hc_t113; rw [h]; simp
        have hgr := hM.grows hdiv
        have hml := hdiv.most
        refine W.skip ?_
        refine W.then ?_
        refine W.region ?_
        refine W.q (Ev.move (.t rfl)) rfl ?_
        (refine W.q (Ev.lenmap 1 (.t rfl) rfl Tryz.underlying93) rfl ?_)
        refine W.is (t := 116) (g := true) (av' := .int (K.length : Int)) rfl (by rw [List.length_map, List.length_map]) ?_
        refine W.q (Ev.assign (.t rfl)) rfl ?_
        refine W.nil ?_
        refine W.blk_normal ?_
        refine W.then ?_
        refine W.reach (D := [.obj b48 (mObj (((K).map keyL).map fun s : List UInt8 => Value.string ⟨s.toArray⟩)), .arr vo 3 1 (rowI w.next.length out)]) (K.length, v51, next) ⟨rfl, rfl, rfl, trivial⟩ ?_ ⟨⟨hM.div hs (fun k hk h => by have := (hrg k hk).1; omega) hdiv, hD.rng (by omega)⟩, by show w.next.length + 1 - K.length < w.next.length + 1 - many; omega⟩
        dsimp only
        refine List.Perm.cons _ ?_
        exact (List.perm_append_comm (l₁ := [_, _]) (l₂ := _ :: M0))

end WClasses

end Go.Proofs.YtacaemfkdieocaaGreatDoor
end

section
set_option linter.unusedVariables false
set_option linter.unusedSimpArgs false
set_option maxRecDepth 100000
namespace Go.Proofs.YtacaemfkdieocaaGreatDoor
open Go.Vl

namespace WRepeat
theorem ty3 : Ty Tryz.prog 3 1 8 (.int .i64 0) := Ty.of (by kernel_rfl)
theorem c_Mul (x y : Nat) (hx : x < 18446744073709551616) (hy : y < 18446744073709551616) : FnP Tryz.prog 53 [.lit (.int .u64 (x : Int)), .lit (.int .u64 (y : Int))] (.tup [.lit (.int .u64 ((x * y / 18446744073709551616 : Nat) : Int)), .lit (.int .u64 ((x * y % 18446744073709551616 : Nat) : Int))]) := by
  refine FnP.of_below (CallOk.of Tryz.func53 (by kernel_rfl) (by kernel_rfl)) fun w F vs ha => ?_
  simp only [RepT] at ha
  obtain ⟨v0, _, rfl, ⟨h1, h2⟩, v1, _, rfl, ⟨h3, h4⟩, rfl⟩ := ha
  have e0 : v0 = _ := Rep.lit_iff.1 (show Rep w F (.lit (.int .u64 (x : Int))) v0 from ⟨h1, h2⟩)
  have e1 : v1 = _ := Rep.lit_iff.1 (show Rep w F (.lit (.int .u64 (y : Int))) v1 from ⟨h3, h4⟩)
  subst e0
  subst e1
  refine (Go.Proofs.Tryz.bits_Mul x y hx hy w).mono ?_
  rintro e w' ⟨h5, rfl⟩
  refine ⟨_, h5, ⟨rfl, ?_⟩, Go.RowKit.Below.refl _ _⟩
  simp only [RepC]
  exact ⟨_, rfl, by simp only [RepT]; exact ⟨_, _, rfl, Rep.lit _, _, _, rfl, Rep.lit _, rfl⟩⟩

theorem c_Repeat8 : FnC Tryz.prog 36 [.sl 1 [AV.int (-1)], .int 8] [] (fun r M => ∃ v, r = .lit v ∧ M = [.arr v 3 1 (List.replicate 8 (AV.int (-1)))]) :=  by
  refine FnC.mk Tryz.func36 (by kernel_rfl) rfl Tryz.ntmps36 rfl (fun w0 F => ?_)
  refine W.seq ?_
  refine W.region ?_
  refine W.q (Ev.assign .k) rfl ?_
  refine W.nil ?_
  refine W.then ?_
  refine W.seq ?_
  refine W.seq ?_
  refine W.region ?_
  refine W.q (Ev.move (.t rfl)) rfl ?_
  refine W.q (Ev.lti (.t rfl) .k) rfl ?_
  refine W.nil ?_
  refine W.then ?_
  refine W.is (t := 10) (g := true) (av' := .lit (.bool false)) rfl (congrArg (fun b => AV.lit (.bool b)) (by decide)) ?_
  refine W.condF (.t rfl) ?_
  refine W.skip ?_
  refine W.then ?_
  refine W.seq ?_
  refine W.region ?_
  refine W.q (Ev.move (.t rfl)) rfl ?_
  (refine W.q (Ev.lensl (.t rfl) Tryz.underlying22) rfl ?_)
  refine W.q (Ev.conv (.t rfl) ⟨_, Tryz.underlying3⟩ Tryz.underlying105) rfl ?_
  refine W.is (t := 15) (g := true) (av' := .lit (.int .u64 ((1 : Nat) : Int))) rfl rfl ?_
  refine W.q (Ev.move (.t rfl)) rfl ?_
  refine W.q (Ev.conv (.t rfl) ⟨_, Tryz.underlying3⟩ Tryz.underlying105) rfl ?_
  refine W.is (t := 17) (g := true) (av' := .lit (.int .u64 ((8 : Nat) : Int))) rfl rfl ?_
  refine W.callp (c_Mul 1 8 (by decide) (by decide)) ⟨(.t rfl), (.t rfl), trivial⟩ rfl ?_
  refine W.q (Ev.move (.t rfl)) rfl ?_
  refine W.q (Ev.extract (.t rfl) rfl) rfl ?_
  refine W.q (Ev.extract (.t rfl) rfl) rfl ?_
  refine W.q (Ev.assign (.t rfl)) rfl ?_
  refine W.q (Ev.assign (.t rfl)) rfl ?_
  refine W.nil ?_
  refine W.is (t := 5) (g := true) (av' := .lit (.int .u64 0)) rfl rfl ?_
  refine W.is (t := 6) (g := true) (av' := .lit (.int .u64 8)) rfl rfl ?_
  refine W.then ?_
  refine W.seq ?_
  refine W.seq ?_
  refine W.region ?_
  refine W.q (Ev.move (.t rfl)) rfl ?_
  refine W.q (Ev.gti (.t rfl) .k) rfl ?_
  refine W.q (Ev.move (.t rfl)) rfl ?_
  refine W.qgF rfl rfl (Ev.move (.t rfl)) rfl ?_
  refine W.qgF rfl rfl (Ev.gti (.c rfl) .k) rfl ?_
  refine W.q (Ev.or (.t rfl) ⟨_, _, rfl, rfl, by ((simp; done))⟩) rfl ?_
  refine W.nil ?_
  refine W.then ?_
  refine W.is (t := 26) (g := true) (av' := .lit (.bool false)) rfl (congrArg (fun b => AV.lit (.bool b)) (by rfl)) ?_
  refine W.condF (.t rfl) ?_
  refine W.skip ?_
  refine W.then ?_
  refine W.seq ?_
  refine W.region ?_
  refine W.q (Ev.move (.t rfl)) rfl ?_
  (refine W.q (Ev.conv64 (.t rfl) ⟨_, Tryz.underlying105⟩ Tryz.underlying3 (fun _ => by omega)) rfl ?_)
  refine W.is (t := 29) (g := true) (av' := .int ((8 : Nat) : Int)) rfl rfl ?_
  refine W.mk (.t rfl) (.t rfl) Tryz.underlying22 ty3 rfl rfl rfl rfl rfl (by omega) rfl ?_
  intro v30
  refine W.arr_lit 0 rfl (by decide) ?_
  intro g off cq hv hc1 hc2
  subst hv
  have hc8 : 8 ≤ cq := hc1
  refine W.q (Ev.assign (.t rfl)) rfl ?_
  refine W.nil ?_
  refine W.then ?_
  refine W.seq ?_
  refine W.region ?_
  refine W.q (Ev.move (.t rfl)) rfl ?_
  refine W.q (Ev.move (.t rfl)) rfl ?_
  refine W.copy 0 (j := 0) (xs := [AV.int (-1)]) (sn := 1) (es' := List.replicate 1 (AV.int (-1)) ++ List.replicate 7 (AV.int 0)) (n' := 8) (.t rfl) rfl (.src (.sl (xs := [AV.int (-1)]) (.t rfl) (by simp [AV.okc, shV]))) Tryz.underlying22 ty3 (by decide) (by decide) (by show 1 ≤ cq; omega) (by rfl) (by rfl) rfl ?_
  refine W.q (Ev.assign (.t rfl)) rfl ?_
  refine W.nil ?_
  refine W.then ?_
  refine W.seq ?_
  refine W.block ?_
  refine W.loop (D := []) (ι := Nat × List AV) (fun z => [(8, true, .int (z.1 : Int)), (7, true, .lit (.slice (some ⟨g, off, none⟩) 8 cq))]) (fun z => [.arr (.slice (some ⟨g, off, none⟩) 8 cq) 3 1 z.2]) (fun z => (z.1 = 1 ∨ z.1 = 2 ∨ z.1 = 4 ∨ z.1 = 8) ∧ z.2 = List.replicate z.1 (AV.int (-1)) ++ List.replicate (8 - z.1) (AV.int 0)) (fun z => 8 - z.1) (1, List.replicate 1 (AV.int (-1)) ++ List.replicate 7 (AV.int 0)) ⟨rfl, rfl, trivial⟩ (.refl _) ⟨.inl rfl, rfl⟩ ?_
  rintro ⟨n, es⟩ ⟨hn, he⟩
  dsimp only at hn he ⊢
  subst he
  rcases hn with rfl | rfl | rfl | rfl
  · skip
    refine W.seq ?_
    refine W.seq ?_
    refine W.region ?_
    refine W.q (Ev.move (.t rfl)) rfl ?_
    refine W.q (Ev.move (.t rfl)) rfl ?_
    (refine W.q (Ev.lenar (i := 0) (.t rfl) rfl Tryz.underlying22) rfl ?_)
    refine W.q (Ev.lti (.t rfl) (.t rfl)) rfl ?_
    refine W.nil ?_
    refine W.then ?_
    refine W.is (t := 37) (g := true) (av' := .lit (.bool true)) rfl (congrArg (fun b => AV.lit (.bool b)) (by rfl)) ?_
    refine W.condT (.t rfl) ?_
    refine W.skip ?_
    refine W.then ?_
    refine W.block ?_
    refine W.drawnE (ι := Unit) (fun ee _ => [bif ee 7 then ME.arr (.slice (some ⟨g, off, none⟩) 8 cq) 3 1 (List.replicate 2 (AV.int (-1)) ++ List.replicate 6 (AV.int 0)) else ME.arr (.slice (some ⟨g, off, none⟩) 8 cq) 3 1 (List.replicate 1 (AV.int (-1)) ++ List.replicate 7 (AV.int 0))]) 7 () (by kernel_rfl) (by kernel_rfl) rfl ?_
    refine DE.q (fun e c hk => (Ev.move (.t rfl))) rfl (fun _ _ => rfl) (by (exact .inr (fun _ _ => rfl))) ?_
    refine DE.q (fun e c hk => (Ev.move (.t rfl))) rfl (fun _ _ => rfl) (by (exact .inr (fun _ _ => rfl))) ?_
    refine DE.q (fun e c hk => (Ev.move (.t rfl))) rfl (fun _ _ => rfl) (by (exact .inr (fun _ _ => rfl))) ?_
    refine DE.q (fun e c hk => (Ev.slitp (p := 1) (q := 8) (lo := some (.tmp 40)) (hi := none) (.t rfl) Tryz.underlying22 ty3 (.t rfl) rfl (by (rfl)) (by (rfl)) (by omega))) rfl (fun _ _ => rfl) (by (exact .inr (fun _ _ => rfl))) ?_
    refine DE.q (fun e c hk => (Ev.move (.t rfl))) rfl (fun _ _ => rfl) (by (exact .inr (fun _ _ => rfl))) ?_
    refine DE.q (fun e c hk => (Ev.move (.t rfl))) rfl (fun _ _ => rfl) (by (exact .inr (fun _ _ => rfl))) ?_
    refine DE.q (fun e c hk => (Ev.slit0 (q := 1) (hi := some (.tmp 43)) (.t rfl) Tryz.underlying22 ty3 (.t rfl) (by (rfl)) (by omega))) rfl (fun _ _ => rfl) (by (exact .inr (fun _ _ => rfl))) ?_
    refine DE.effc (av := fun _ => .lit (.int .i64 ((1 : Nat) : Int))) rfl (.inr fun _ _ => rfl) (fun e c hk L_ hs Q h => ?_) ?_
    · have hk_7 := hk.not
      simp only [addE, hk_7, Nat.reduceAdd, Nat.reduceEqDiff, ↓reduceIte, cond_true, cond_false] at h ⊢
      exact W.copy 0 (j := 1) (xs := List.replicate 1 (AV.int (-1))) (sn := 1) (es' := List.replicate 2 (AV.int (-1)) ++ List.replicate 6 (AV.int 0)) (n' := 8) (.t (hs _ _ rfl)) rfl (.own 0 (.t (hs _ _ rfl)) (p := 0) (.inr rfl) rfl rfl (by decide) (by decide) (fun e he => by rw [(List.mem_replicate.1 he).2]; rfl)) Tryz.underlying22 ty3 (by decide) (by decide) (by show 2 ≤ cq; omega) (by rfl) (by rfl) rfl h
    (refine DE.q (fun e c hk => (Ev.add (.t rfl) (.t rfl) (fun _ => by omega))) rfl (fun _ _ => rfl) (by (exact .inr (fun _ _ => rfl))) ?_)
    refine DE.q (fun e c hk => (Ev.assign (.t rfl))) rfl (fun _ _ => rfl) (by (exact .inr (fun _ _ => rfl))) ?_
    refine DE.nil (fun c_ e_ he_ => ?_)
    simp only [he_ 7 (by decide), cond_true, cond_false]
    refine W.blk_normal ?_
    refine W.then ?_
    refine W.reach (D := []) (2, List.replicate 2 (AV.int (-1)) ++ List.replicate 6 (AV.int 0)) ⟨rfl, rfl, trivial⟩ (.refl _) ⟨⟨.inr (.inl rfl), rfl⟩, by decide⟩
  · skip
    refine W.seq ?_
    refine W.seq ?_
    refine W.region ?_
    refine W.q (Ev.move (.t rfl)) rfl ?_
    refine W.q (Ev.move (.t rfl)) rfl ?_
    (refine W.q (Ev.lenar (i := 0) (.t rfl) rfl Tryz.underlying22) rfl ?_)
    refine W.q (Ev.lti (.t rfl) (.t rfl)) rfl ?_
    refine W.nil ?_
    refine W.then ?_
    refine W.is (t := 37) (g := true) (av' := .lit (.bool true)) rfl (congrArg (fun b => AV.lit (.bool b)) (by rfl)) ?_
    refine W.condT (.t rfl) ?_
    refine W.skip ?_
    refine W.then ?_
    refine W.block ?_
    refine W.drawnE (ι := Unit) (fun ee _ => [bif ee 7 then ME.arr (.slice (some ⟨g, off, none⟩) 8 cq) 3 1 (List.replicate 4 (AV.int (-1)) ++ List.replicate 4 (AV.int 0)) else ME.arr (.slice (some ⟨g, off, none⟩) 8 cq) 3 1 (List.replicate 2 (AV.int (-1)) ++ List.replicate 6 (AV.int 0))]) 7 () (by kernel_rfl) (by kernel_rfl) rfl ?_
    refine DE.q (fun e c hk => (Ev.move (.t rfl))) rfl (fun _ _ => rfl) (by (exact .inr (fun _ _ => rfl))) ?_
    refine DE.q (fun e c hk => (Ev.move (.t rfl))) rfl (fun _ _ => rfl) (by (exact .inr (fun _ _ => rfl))) ?_
    refine DE.q (fun e c hk => (Ev.move (.t rfl))) rfl (fun _ _ => rfl) (by (exact .inr (fun _ _ => rfl))) ?_
    refine DE.q (fun e c hk => (Ev.slitp (p := 2) (q := 8) (lo := some (.tmp 40)) (hi := none) (.t rfl) Tryz.underlying22 ty3 (.t rfl) rfl (by (rfl)) (by (rfl)) (by omega))) rfl (fun _ _ => rfl) (by (exact .inr (fun _ _ => rfl))) ?_
    refine DE.q (fun e c hk => (Ev.move (.t rfl))) rfl (fun _ _ => rfl) (by (exact .inr (fun _ _ => rfl))) ?_
    refine DE.q (fun e c hk => (Ev.move (.t rfl))) rfl (fun _ _ => rfl) (by (exact .inr (fun _ _ => rfl))) ?_
    refine DE.q (fun e c hk => (Ev.slit0 (q := 2) (hi := some (.tmp 43)) (.t rfl) Tryz.underlying22 ty3 (.t rfl) (by (rfl)) (by omega))) rfl (fun _ _ => rfl) (by (exact .inr (fun _ _ => rfl))) ?_
    refine DE.effc (av := fun _ => .lit (.int .i64 ((2 : Nat) : Int))) rfl (.inr fun _ _ => rfl) (fun e c hk L_ hs Q h => ?_) ?_
    · have hk_7 := hk.not
      simp only [addE, hk_7, Nat.reduceAdd, Nat.reduceEqDiff, ↓reduceIte, cond_true, cond_false] at h ⊢
      exact W.copy 0 (j := 2) (xs := List.replicate 2 (AV.int (-1))) (sn := 2) (es' := List.replicate 4 (AV.int (-1)) ++ List.replicate 4 (AV.int 0)) (n' := 8) (.t (hs _ _ rfl)) rfl (.own 0 (.t (hs _ _ rfl)) (p := 0) (.inr rfl) rfl rfl (by decide) (by decide) (fun e he => by rw [(List.mem_replicate.1 he).2]; rfl)) Tryz.underlying22 ty3 (by decide) (by decide) (by show 4 ≤ cq; omega) (by rfl) (by rfl) rfl h
    (refine DE.q (fun e c hk => (Ev.add (.t rfl) (.t rfl) (fun _ => by omega))) rfl (fun _ _ => rfl) (by (exact .inr (fun _ _ => rfl))) ?_)
    refine DE.q (fun e c hk => (Ev.assign (.t rfl))) rfl (fun _ _ => rfl) (by (exact .inr (fun _ _ => rfl))) ?_
    refine DE.nil (fun c_ e_ he_ => ?_)
    simp only [he_ 7 (by decide), cond_true, cond_false]
    refine W.blk_normal ?_
    refine W.then ?_
    refine W.reach (D := []) (4, List.replicate 4 (AV.int (-1)) ++ List.replicate 4 (AV.int 0)) ⟨rfl, rfl, trivial⟩ (.refl _) ⟨⟨.inr (.inr (.inl rfl)), rfl⟩, by decide⟩
  · skip
    refine W.seq ?_
    refine W.seq ?_
    refine W.region ?_
    refine W.q (Ev.move (.t rfl)) rfl ?_
    refine W.q (Ev.move (.t rfl)) rfl ?_
    (refine W.q (Ev.lenar (i := 0) (.t rfl) rfl Tryz.underlying22) rfl ?_)
    refine W.q (Ev.lti (.t rfl) (.t rfl)) rfl ?_
    refine W.nil ?_
    refine W.then ?_
    refine W.is (t := 37) (g := true) (av' := .lit (.bool true)) rfl (congrArg (fun b => AV.lit (.bool b)) (by rfl)) ?_
    refine W.condT (.t rfl) ?_
    refine W.skip ?_
    refine W.then ?_
    refine W.block ?_
    refine W.drawnE (ι := Unit) (fun ee _ => [bif ee 7 then ME.arr (.slice (some ⟨g, off, none⟩) 8 cq) 3 1 (List.replicate 8 (AV.int (-1)) ++ List.replicate 0 (AV.int 0)) else ME.arr (.slice (some ⟨g, off, none⟩) 8 cq) 3 1 (List.replicate 4 (AV.int (-1)) ++ List.replicate 4 (AV.int 0))]) 7 () (by kernel_rfl) (by kernel_rfl) rfl ?_
    refine DE.q (fun e c hk => (Ev.move (.t rfl))) rfl (fun _ _ => rfl) (by (exact .inr (fun _ _ => rfl))) ?_
    refine DE.q (fun e c hk => (Ev.move (.t rfl))) rfl (fun _ _ => rfl) (by (exact .inr (fun _ _ => rfl))) ?_
    refine DE.q (fun e c hk => (Ev.move (.t rfl))) rfl (fun _ _ => rfl) (by (exact .inr (fun _ _ => rfl))) ?_
    refine DE.q (fun e c hk => (Ev.slitp (p := 4) (q := 8) (lo := some (.tmp 40)) (hi := none) (.t rfl) Tryz.underlying22 ty3 (.t rfl) rfl (by (rfl)) (by (rfl)) (by omega))) rfl (fun _ _ => rfl) (by (exact .inr (fun _ _ => rfl))) ?_
    refine DE.q (fun e c hk => (Ev.move (.t rfl))) rfl (fun _ _ => rfl) (by (exact .inr (fun _ _ => rfl))) ?_
    refine DE.q (fun e c hk => (Ev.move (.t rfl))) rfl (fun _ _ => rfl) (by (exact .inr (fun _ _ => rfl))) ?_
    refine DE.q (fun e c hk => (Ev.slit0 (q := 4) (hi := some (.tmp 43)) (.t rfl) Tryz.underlying22 ty3 (.t rfl) (by (rfl)) (by omega))) rfl (fun _ _ => rfl) (by (exact .inr (fun _ _ => rfl))) ?_
    refine DE.effc (av := fun _ => .lit (.int .i64 ((4 : Nat) : Int))) rfl (.inr fun _ _ => rfl) (fun e c hk L_ hs Q h => ?_) ?_
    · have hk_7 := hk.not
      simp only [addE, hk_7, Nat.reduceAdd, Nat.reduceEqDiff, ↓reduceIte, cond_true, cond_false] at h ⊢
      exact W.copy 0 (j := 4) (xs := List.replicate 4 (AV.int (-1))) (sn := 4) (es' := List.replicate 8 (AV.int (-1)) ++ List.replicate 0 (AV.int 0)) (n' := 8) (.t (hs _ _ rfl)) rfl (.own 0 (.t (hs _ _ rfl)) (p := 0) (.inr rfl) rfl rfl (by decide) (by decide) (fun e he => by rw [(List.mem_replicate.1 he).2]; rfl)) Tryz.underlying22 ty3 (by decide) (by decide) (by show 8 ≤ cq; omega) (by rfl) (by rfl) rfl h
    (refine DE.q (fun e c hk => (Ev.add (.t rfl) (.t rfl) (fun _ => by omega))) rfl (fun _ _ => rfl) (by (exact .inr (fun _ _ => rfl))) ?_)
    refine DE.q (fun e c hk => (Ev.assign (.t rfl))) rfl (fun _ _ => rfl) (by (exact .inr (fun _ _ => rfl))) ?_
    refine DE.nil (fun c_ e_ he_ => ?_)
    simp only [he_ 7 (by decide), cond_true, cond_false]
    refine W.blk_normal ?_
    refine W.then ?_
    refine W.reach (D := []) (8, List.replicate 8 (AV.int (-1)) ++ List.replicate 0 (AV.int 0)) ⟨rfl, rfl, trivial⟩ (.refl _) ⟨⟨.inr (.inr (.inr rfl)), rfl⟩, by decide⟩
  · skip
    refine W.seq ?_
    refine W.seq ?_
    refine W.region ?_
    refine W.q (Ev.move (.t rfl)) rfl ?_
    refine W.q (Ev.move (.t rfl)) rfl ?_
    (refine W.q (Ev.lenar (i := 0) (.t rfl) rfl Tryz.underlying22) rfl ?_)
    refine W.q (Ev.lti (.t rfl) (.t rfl)) rfl ?_
    refine W.nil ?_
    refine W.then ?_
    refine W.is (t := 37) (g := true) (av' := .lit (.bool false)) rfl (congrArg (fun b => AV.lit (.bool b)) (by rfl)) ?_
    refine W.condF (.t rfl) ?_
    refine W.exit ?_
    refine W.then_exit ?_
    refine W.then_exit ?_
    refine W.blk_hit ?_
    refine W.then ?_
    refine W.seq ?_
    refine W.region ?_
    refine W.q (Ev.move (.t rfl)) rfl ?_
    refine W.q (Ev.assign (.t rfl)) rfl ?_
    refine W.nil ?_
    refine W.then ?_
    refine W.ret ?_
    refine W.retn (M' := [.arr _ 3 1 _]) (D := _) (rs := [.tmp 4]) (avs := [_]) Tryz.results36 ⟨rfl, trivial⟩ rfl (.refl _) ?_
    exact ⟨_, rfl, rfl⟩

end WRepeat

end Go.Proofs.YtacaemfkdieocaaGreatDoor
end

section
set_option linter.unusedVariables false
set_option linter.unusedSimpArgs false
set_option maxRecDepth 100000
namespace Go.Proofs.YtacaemfkdieocaaGreatDoor
open Go.Vl

namespace WOrder
theorem ty3 : Ty Tryz.prog 3 1 8 (.int .i64 0) := Ty.of (by kernel_rfl)
theorem ty4 : Ty Tryz.prog 4 1 1 (.bool false) := Ty.of (by kernel_rfl)
theorem ty22 : Ty Tryz.prog 22 1 24 (.slice none 0 0) := Ty.of (by kernel_rfl)
theorem ty25 : Ty Tryz.prog 25 1 24 (.slice none 0 0) := Ty.of (by kernel_rfl)
theorem ty26 : Ty Tryz.prog 26 1 24 (.slice none 0 0) := Ty.of (by kernel_rfl)
theorem ty28 : Ty Tryz.prog 28 2 48 (.agg #[.slice none 0 0, .slice none 0 0]) := Ty.of (by kernel_rfl)
theorem ty52 : Ty Tryz.prog 52 1 24 (.slice none 0 0) := Ty.of (by kernel_rfl)
theorem ty61 : Ty Tryz.prog 61 2 48 (.agg #[.slice none 0 0, .slice none 0 0]) := Ty.of (by kernel_rfl)
theorem ty75 : Ty Tryz.prog 75 8 64 (.agg #[.int .i64 0, .int .i64 0, .int .i64 0, .int .i64 0, .int .i64 0, .int .i64 0, .int .i64 0, .int .i64 0]) := Ty.of (by kernel_rfl)
theorem ag3 : IsAgg Tryz.prog 3 false := ⟨_, Tryz.underlying3, rfl⟩
theorem ag4 : IsAgg Tryz.prog 4 false := ⟨_, Tryz.underlying4, rfl⟩
theorem ag25 : IsAgg Tryz.prog 25 false := ⟨_, Tryz.underlying25, rfl⟩
theorem ag26 : IsAgg Tryz.prog 26 false := ⟨_, Tryz.underlying26, rfl⟩
theorem ag28 : IsAgg Tryz.prog 28 true := ⟨_, Tryz.underlying28, rfl⟩
theorem ag52 : IsAgg Tryz.prog 52 false := ⟨_, Tryz.underlying52, rfl⟩
theorem ag61 : IsAgg Tryz.prog 61 true := ⟨_, Tryz.underlying61, rfl⟩
theorem ag75 : IsAgg Tryz.prog 75 true := ⟨_, Tryz.underlying75, rfl⟩
theorem fa28_0 : FieldAt Tryz.prog 28 0 0 1 false := ⟨_, _, Tryz.underlying28, rfl, rfl, ty25.size, ag25, by decide⟩
theorem fa28_1 : FieldAt Tryz.prog 28 1 1 1 false := ⟨_, _, Tryz.underlying28, rfl, rfl, ty26.size, ag26, by decide⟩
theorem fa61_0 : FieldAt Tryz.prog 61 0 0 1 false := ⟨_, _, Tryz.underlying61, rfl, rfl, ty52.size, ag52, by decide⟩
theorem fa61_1 : FieldAt Tryz.prog 61 1 1 1 false := ⟨_, _, Tryz.underlying61, rfl, rfl, ty26.size, ag26, by decide⟩
theorem st28 : StructAt Tryz.prog 28 [(0, 1), (1, 1)] := ⟨_, Tryz.underlying28, rfl, ty25.size, rfl, ty26.size, trivial⟩
theorem ni22 : NotInt Tryz.prog 22 := .inl ⟨_, Tryz.underlying22⟩
theorem ni25 : NotInt Tryz.prog 25 := .inl ⟨_, Tryz.underlying25⟩
theorem ni26 : NotInt Tryz.prog 26 := .inl ⟨_, Tryz.underlying26⟩
theorem c_order (w : Au) (hs : w.Shape) (hn : w.next.length ≤ 100) (M0 : List ME) (hI : ∀ n : Int, -1 ≤ n → n < 100 → FnC Tryz.prog 68 [.int n] M0 (fun r M => r = .str (itoa n) ∧ M = M0)) (hsz : ∀ a : Au, a.Ord → (∀ u, a.acc 0 u ↔ w.acc 0 u) → a.next.length ≤ 40) : FnC Tryz.prog 23 [.agg [.sl 8 (w.next.map wrow), .sl 1 (w.final.map AV.bool)]] M0 (fun r M => ∃ a : Au, a.Ord ∧ (∀ u, a.acc 0 u ↔ w.acc 0 u) ∧ r = .tup [.agg [.sl 1 (a.next.map pav), .sl 1 (a.final.map AV.bool)], .int 0] ∧ M = M0) :=  by
  refine FnC.mk Tryz.func23 (by kernel_rfl) rfl Tryz.ntmps23 rfl (fun w0 F => ?_)
  have hfin := hs.fin
  have hpos := hs.pos
  have hnl : (w.next.map wrow).length = w.next.length := List.length_map ..
  have hfl : (w.final.map AV.bool).length = w.final.length := List.length_map ..
  refine W.seq ?_
  refine W.region ?_
  refine W.box (.t rfl) rfl rfl ?_
  intro b1
  refine W.alloc ty28 rfl rfl ?_
  intro b2
  refine W.q (Ev.assign .k) rfl ?_
  refine W.nil ?_
  refine W.then ?_
  refine W.seq ?_
  refine W.region ?_
  (refine W.q (Ev.ldbn 1 (.t rfl) rfl ag61 ty61 rfl) rfl ?_)
  refine W.call (WClasses.c_classes w hs hn M0 hI) ⟨(.t rfl), trivial⟩ (List.perm_append_comm (l₁ := [_, _])) rfl ?_
  rintro _ _ ⟨v16, cl, rfl, rfl, hcls, hrg⟩
  refine W.perm (List.Perm.cons _ (List.perm_append_comm (l₂ := [_, _]))) ?_
  refine W.q (Ev.assign (.t rfl)) rfl ?_
  refine W.nil ?_
  refine W.then ?_
  refine W.seq ?_
  refine W.seq ?_
  refine W.region ?_
  refine W.q (Ev.move (.t rfl)) rfl ?_
  refine W.q (Ev.ata 0 (.t rfl) rfl .k Tryz.underlying22 ty3 (fun _ => by rw [rowI_len]; omega)) rfl ?_
  refine W.q (Ev.lda1 0 0 0 (.t rfl) rfl (rowI_get hpos) rfl rfl rfl rfl ag3) rfl ?_
  refine W.q (Ev.lti (.t rfl) .k) rfl ?_
  refine W.nil ?_
  refine W.then ?_
  refine W.cond (.t rfl) (fun hc_t20 => ?_) (fun hc_t20 => ?_)
  · have h20 := of_decide_eq_true hc_t20
    have hdl := (hcls.neg 0 hpos).1 h20
    refine W.seq ?_
    refine W.region ?_
    refine W.bs (es := [_]) Tryz.underlying22 ty3 ⟨rfl, .k, rfl, rfl, trivial⟩ rfl (by decide) rfl rfl ?_
    refine W.call (WRepeat.c_Repeat8) ⟨(.t rfl), .k, trivial⟩ (.refl _) rfl ?_
    rintro _ _ ⟨v22, rfl, rfl⟩
    refine W.q (Ev.assign (.t rfl)) rfl ?_
    refine W.nil ?_
    refine W.then ?_
    refine W.seq ?_
    refine W.region ?_
    refine W.freezeA (M1 := .arr v16 3 1 (rowI w.next.length cl) :: .box b2 28 [.lit (.slice none 0 0), .lit (.slice none 0 0)] :: .box b1 61 [.sl 8 (w.next.map wrow), .sl 1 (w.final.map AV.bool)] :: M0) (M2 := .arr v16 3 1 (rowI w.next.length cl) :: .box b2 28 [.lit (.slice none 0 0), .lit (.slice none 0 0)] :: .box b1 61 [.sl 8 (w.next.map wrow), .sl 1 (w.final.map AV.bool)] :: M0) (D := []) (v := v22) (L' := [(5, true, .sl 1 (List.replicate 8 (AV.int (-1))))]) (by rw [List.append_nil] <;> exact .refl _) ⟨⟨_, rfl, .one .hit⟩, trivial⟩ (FrzMs.refl _) ?_
    refine W.q (Ev.move (.t rfl)) rfl ?_
    refine W.bs (es := [_]) Tryz.underlying25 ty22 ⟨rfl, (.t rfl), rfl, rfl, trivial⟩ rfl (by decide) rfl rfl ?_
    refine W.bs (es := [_]) Tryz.underlying26 ty4 ⟨rfl, .k, rfl, rfl, trivial⟩ rfl (by decide) rfl rfl ?_
    refine W.q (Ev.build ty28 st28 rfl (fun hg => ⟨_, _, _, rfl, (.t rfl), rfl, rfl, rfl, _, _, _, rfl, (.t rfl), rfl, rfl, rfl, rfl⟩)) rfl ?_
    (refine W.stb 1 (.t rfl) (.t rfl) rfl ty28 rfl rfl rfl ?_)
    refine W.q (Ev.assign .k) rfl ?_
    refine W.nil ?_
    refine W.then ?_
    refine W.ret ?_
    refine W.then_ret ?_
    refine W.retn (M' := M0) (D := _) (rs := [.cell 2 28, .tmp 3]) (avs := [_, _]) Tryz.results23 ⟨⟨_, _, _, rfl, by repeat (first | exact List.mem_cons_self | apply List.mem_cons_of_mem), rfl, by funext w; exact ag28.run w, by funext w; exact ty28.size w⟩, rfl, trivial⟩ rfl (List.perm_append_comm (l₁ := [_, _, _])) ?_
    refine ⟨Au.dead, .inr rfl, fun u => ⟨fun h => absurd h (Au.dead_acc u), fun h => absurd ⟨u, h⟩ hdl⟩, rfl, rfl⟩
  · have h20 : 0 ≤ cl 0 := Int.not_lt.1 (of_decide_eq_false hc_t20)
    refine W.skip ?_
    refine W.then ?_
    refine W.seq ?_
    refine W.region ?_
    refine W.mkmap rfl ?_
    intro b27
    refine W.q (Ev.move (.t rfl)) rfl ?_
    refine W.q (Ev.ata 1 (.t rfl) rfl .k Tryz.underlying22 ty3 (fun _ => by rw [rowI_len]; omega)) rfl ?_
    refine W.q (Ev.lda1 1 0 0 (.t rfl) rfl (rowI_get hpos) rfl rfl rfl rfl ag3) rfl ?_
    refine W.mapnew 0 (ks := []) (k := cl 0) (f := fun n : Int => Value.int .i64 n) (.t rfl) rfl (.t rfl) .k Tryz.underlying80 (KeyKind.int Tryz.underlying3) (by simp) _ (.inr rfl) ?_
    refine W.q (Ev.move (.t rfl)) rfl ?_
    refine W.q (Ev.assign (.t rfl)) rfl ?_
    refine W.nil ?_
    refine W.then ?_
    refine W.seq ?_
    refine W.region ?_
    refine W.bso (es := [_]) Tryz.underlying22 ty3 ⟨rfl, .k, rfl, rfl, trivial⟩ rfl (by decide) rfl rfl ?_
    intro v32
    refine W.q (Ev.assign (.t rfl)) rfl ?_
    refine W.nil ?_
    refine W.then ?_
    refine W.seq ?_
    refine W.region ?_
    refine W.alloc ty28 rfl rfl ?_
    intro b8
    refine W.nil ?_
    refine W.then ?_
    refine W.seq ?_
    refine W.seq ?_
    refine W.region ?_
    refine W.q (Ev.assign .k) rfl ?_
    refine W.nil ?_
    refine W.then ?_
    refine W.block ?_
    refine W.own_nil 4 1 ?_
    refine W.own_nil 22 1 ?_
    refine W.loop (D := []) (ι := Nat × List Nat × (Nat → Nat → Int) × List (List Int) × List Bool × Value × Value × Value) (fun z => [(9, true, .int (z.1 : Int)), (7, true, .lit z.2.2.2.2.2.1), (1, true, .lit (.pointer (some ⟨b1, 0, none⟩))), (2, true, .lit (.pointer (some ⟨b2, 0, none⟩))), (4, true, .lit v16), (6, true, .lit (.map (some b27))), (8, true, .lit (.pointer (some ⟨b8, 0, none⟩)))]) (fun z => .arr z.2.2.2.2.2.2.1 22 1 (z.2.2.2.1.map pav) :: .arr z.2.2.2.2.2.2.2 4 1 (z.2.2.2.2.1.map AV.bool) :: .box b8 28 [.lit z.2.2.2.2.2.2.1, .lit z.2.2.2.2.2.2.2] :: .arr z.2.2.2.2.2.1 3 1 (z.2.1.map fun s : Nat => AV.int (s : Int)) :: .obj b27 (mObj ((z.2.1.map cl).map fun n : Int => Value.int .i64 n)) :: .arr v16 3 1 (rowI w.next.length cl) :: .box b2 28 [.lit (.slice none 0 0), .lit (.slice none 0 0)] :: .box b1 61 [.sl 8 (w.next.map wrow), .sl 1 (w.final.map AV.bool)] :: M0) (fun z => Au.Bfs w cl z.2.1 z.2.2.1 z.1 0 ∧ z.1 ≤ z.2.1.length ∧ z.2.2.2.1 = Au.rowsL z.1 z.2.2.1 ∧ z.2.2.2.2.1 = (z.2.1.take z.1).map fun k => w.final.getD k false) (fun z => 101 - z.1) (0, [0], (fun _ _ => 0), [], [], v32, .slice none 0 0, .slice none 0 0) ⟨rfl, rfl, rfl, rfl, rfl, rfl, rfl, trivial⟩ (by rw [List.append_nil]; exact .refl _) ⟨Au.Bfs.start _ hs h20, Nat.zero_le _, rfl, rfl⟩ ?_
    rintro ⟨i, S, T, Ns, Fs, vs, vn, vf⟩ ⟨hB, hi, hNs, hFs⟩
    dsimp only at hB hi hNs hFs ⊢
    have hSl := hB.len
    have hml : (S.map fun s : Nat => AV.int (s : Int)).length = S.length := List.length_map ..
    have hNl : Ns.length = i := by rw [hNs, Au.rowsL_len]
    have hFl : Fs.length = i := by rw [hFs, List.length_map, List.length_take]; omega
    rcases (show i < S.length ∨ i = S.length from by omega) with hi | hend
    · have hgS := getD_mapG (fun s : Nat => AV.int (s : Int)) 0 S i hi
      have hlt := (hB.lt i hi).1
      have hga := wrow_get hs hlt
      refine W.seq ?_
      refine W.seq ?_
      refine W.region ?_
      refine W.q (Ev.move (.t rfl)) rfl ?_
      refine W.q (Ev.move (.t rfl)) rfl ?_
      (refine W.q (Ev.lenar (i := 3) (.t rfl) rfl Tryz.underlying22) rfl ?_)
      refine W.q (Ev.lti (.t rfl) (.t rfl)) rfl ?_
      refine W.nil ?_
      refine W.then ?_
      refine W.is (t := 36) (g := true) (av' := .lit (.bool true)) rfl (congrArg (fun b => AV.lit (.bool b)) (by exact decide_eq_true (by omega))) ?_
      refine W.condT (.t rfl) ?_
      refine W.skip ?_
      refine W.then ?_
      refine W.seq ?_
      refine W.block ?_
      refine W.seq ?_
      refine W.region ?_
      refine W.mk (n := 8) .k .k Tryz.underlying22 ty3 rfl rfl rfl rfl rfl (by omega) rfl ?_
      intro v39
      refine W.q (Ev.assign (.t rfl)) rfl ?_
      refine W.nil ?_
      refine W.then ?_
      refine W.seq ?_
      refine W.seq ?_
      refine W.drawn (by kernel_rfl) (by kernel_rfl) ?_
      (refine DP.q (Ev.fab (.t rfl) fa61_0) rfl ?_)
      (refine DP.q (Ev.ldb1 8 (.t rfl) rfl ag52 rfl) rfl ?_)
      refine DP.q (Ev.move (.t rfl)) rfl ?_
      refine DP.q (Ev.move (.t rfl)) rfl ?_
      refine DP.q (Ev.ata 4 (.t rfl) rfl (.t rfl) Tryz.underlying22 ty3 (fun _ => by rw [List.length_map]; omega)) rfl ?_
      refine DP.q (Ev.lda1 4 i 0 (.t rfl) rfl hgS (by omega) rfl rfl rfl ag3) rfl ?_
      refine DP.q (Ev.at (E := 75) (.t rfl) (.t rfl) Tryz.underlying52 ty75 (fun _ => ⟨by omega, hga⟩) rfl rfl) rfl ?_
      (refine DP.q (Ev.lden (.t rfl) ag75 ty75 rfl rfl) rfl ?_)
      refine DP.q (Ev.move .k) rfl ?_
      refine DP.nil ?_
      refine W.is (t := 47) (g := true) (av' := r8av (fun c => w.to ((S.getD i 0 : Nat) : Int) (c : Int))) rfl rfl ?_
      refine W.then ?_
      refine W.block ?_
      obtain ⟨St, hSt⟩ : ∃ St, S.take (i + 1) = St := ⟨_, rfl⟩
      have hFs1 : Fs = (St.take i).map fun k => w.final.getD k false := by rw [hFs, ← hSt, List.take_take, Nat.min_eq_left (by omega)]
      have hS0 : ∀ R : List Nat, R.take (i + 1) = St → i < R.length → R.getD i 0 = S.getD i 0 ∧ R.take i = St.take i := by
        intro R hR hl
        refine ⟨?_, by rw [← hR, List.take_take, Nat.min_eq_left (by omega)]⟩
        have := congrArg (fun l => l.getD i 0) (hR.trans hSt.symm)
        simp only [List.getD_eq_getElem?_getD, List.getElem?_take, if_pos (Nat.lt_succ_self i)] at this
        rw [List.getD_eq_getElem?_getD, List.getD_eq_getElem?_getD]; exact this
      generalize hs0 : S.getD i 0 = s0 at hS0 hgS hlt hga ⊢
      refine W.loop (D := []) (ι := Nat × List Nat × (Nat → Nat → Int) × Value) (fun z => [(48, true, .int (z.1 : Int)), (47, true, r8av (fun c => w.to (s0 : Int) (c : Int))), (10, true, .lit v39), (9, true, .int (i : Int)), (7, true, .lit z.2.2.2), (1, true, .lit (.pointer (some ⟨b1, 0, none⟩))), (2, true, .lit (.pointer (some ⟨b2, 0, none⟩))), (4, true, .lit v16), (6, true, .lit (.map (some b27))), (8, true, .lit (.pointer (some ⟨b8, 0, none⟩)))]) (fun z => .arr v39 3 1 (Au.rowV z.2.2.1 i z.1) :: .arr vn 22 1 (Ns.map pav) :: .arr vf 4 1 (Fs.map AV.bool) :: .box b8 28 [.lit vn, .lit vf] :: .arr z.2.2.2 3 1 (z.2.1.map fun s : Nat => AV.int (s : Int)) :: .obj b27 (mObj ((z.2.1.map cl).map fun n : Int => Value.int .i64 n)) :: .arr v16 3 1 (rowI w.next.length cl) :: .box b2 28 [.lit (.slice none 0 0), .lit (.slice none 0 0)] :: .box b1 61 [.sl 8 (w.next.map wrow), .sl 1 (w.final.map AV.bool)] :: M0) (fun z => Au.Bfs w cl z.2.1 z.2.2.1 i z.1 ∧ Ns = Au.rowsL i z.2.2.1 ∧ i < z.2.1.length ∧ z.1 ≤ 8 ∧ z.2.1.take (i + 1) = St) (fun z => 8 - z.1) (0, S, T, vs) ⟨rfl, rfl, rfl, rfl, rfl, rfl, rfl, rfl, rfl, rfl, trivial⟩ (by rw [List.append_nil]; exact .refl _) ⟨hB, hNs, hi, Nat.zero_le _, hSt⟩ ?_
      clear hB hi hml hSl hgS hs0 hSt hFs hNs
      clear hi
      clear S T vs
      rintro ⟨d, S, T, vs⟩ ⟨hB, hNs, hi, hd, hS⟩
      dsimp only at hB hNs hi hd hS ⊢
      obtain ⟨hs0, hSi⟩ := hS0 S hS hi
      have hFs : Fs = (S.take i).map fun k => w.final.getD k false := by rw [hSi]; exact hFs1
      have hSl := hB.len
      have hml : (S.map fun s : Nat => AV.int (s : Int)).length = S.length := List.length_map ..
      rcases (show d < 8 ∨ d = 8 from by omega) with hd8 | hend
      · have hto := Au.to_range hs (i := (s0 : Int)) (c := (d : Int)) (by omega) (by omega) (by omega) (by omega)
        refine W.seq ?_
        refine W.region ?_
        refine W.q (Ev.lti (.t rfl) .k) rfl ?_
        refine W.nil ?_
        refine W.then ?_
        refine W.seq ?_
        refine W.is (t := 49) (g := true) (av' := .lit (.bool true)) rfl (congrArg (fun b => AV.lit (.bool b)) (by exact decide_eq_true (by omega))) ?_
        refine W.condT (.t rfl) ?_
        refine W.skip ?_
        refine W.then ?_
        refine W.seq ?_
        refine W.block ?_
        refine W.seq ?_
        refine W.region ?_
        refine W.q (Ev.move (.t rfl)) rfl ?_
        refine W.q (Ev.arrat (.t rfl) (.t rfl) Tryz.underlying75 Tryz.underlying3 (fun _ => ⟨by omega, by omega, row8_get _ d hd8⟩) ty3) rfl ?_
        refine W.q (Ev.assign (.t rfl)) rfl ?_
        refine W.q (Ev.assign (.t rfl)) rfl ?_
        refine W.nil ?_
        refine W.then ?_
        refine W.seq ?_
        refine W.region ?_
        refine W.q (Ev.move (.t rfl)) rfl ?_
        refine W.q (Ev.move (.t rfl)) rfl ?_
        refine W.q (Ev.ata 0 (.t rfl) rfl (.t rfl) Tryz.underlying22 ty3 (fun hg => by rw [Au.rowV_len]; omega)) rfl ?_
        refine W.sta 0 d 0 (e := AV.int _) (e' := AV.int (-1)) (.t rfl) .k rfl (row8_get _ d hd8) (by omega) ty3 rfl rfl rfl rfl rfl rfl rfl ?_
        refine W.nil ?_
        refine W.then ?_
        refine W.seq ?_
        refine W.seq ?_
        refine W.region ?_
        refine W.q (Ev.move (.t rfl)) rfl ?_
        refine W.q (Ev.lti (.t rfl) .k) rfl ?_
        refine W.q (Ev.move (.t rfl)) rfl ?_
        refine W.qgF rfl rfl (Ev.move (.t rfl)) rfl ?_
        refine W.qgF rfl rfl (Ev.move (.t rfl)) rfl ?_
        refine W.qgF rfl rfl (Ev.ata 6 (.c rfl) rfl (.c rfl) Tryz.underlying22 ty3 (fun hg => ⟨by simpa using hg, by rw [rowI_len]; omega⟩)) rfl ?_
        refine W.qgF rfl rfl (Ev.lda1 6 (w.to (s0 : Int) (d : Int)).toNat 0 (.c rfl) rfl (rowI_get (by omega)) (by omega) rfl rfl rfl ag3) rfl ?_
        refine W.qgF rfl rfl (Ev.lti (.c rfl) .k) rfl ?_
        refine W.q (Ev.or (.t rfl) ⟨_, _, rfl, rfl, by ((simp; done))⟩) rfl ?_
        refine W.nil ?_
        refine W.then ?_
        refine W.cond (.t rfl) (fun hc_t63 => ?_) (fun hc_t63 => ?_)
        · have hneg : w.cto cl (S.getD i 0) d < 0 := by
            rw [hs0]
            unfold Au.cto
            by_cases h0 : 0 ≤ w.to (s0 : Int) (d : Int)
            · rw [if_pos h0]
              simpa [show ¬ (w.to (s0 : Int) (d : Int) < 0) from by omega] using hc_t63
            · rw [if_neg h0]; decide
          refine W.exit ?_
          refine W.then_exit ?_
          refine W.blk_hit ?_
          refine W.then ?_
          refine W.region ?_
          (refine W.q (Ev.add (.t rfl) .k (fun _ => by omega)) rfl ?_)
          refine W.q (Ev.move (.t rfl)) rfl ?_
          refine W.nil ?_
          refine W.then ?_
          have h9 := (hB.setI (-1)).none (Au.setI_at _ _ _ _) hneg
          refine W.reach (D := []) (d + 1, S, Au.setI T i d (-1), vs) ⟨rfl, rfl, rfl, rfl, rfl, rfl, rfl, rfl, rfl, rfl, trivial⟩ ?_ ⟨⟨h9, ?_, ?_, hd8, ?_⟩, by show 8 - (d + 1) < 8 - d; omega⟩
          · rw [List.append_nil]; (try dsimp only); rw [← Au.rowV_step T i d _ hd8]; exact .refl _
          · dsimp only; rw [Au.rowsL_set]; exact hNs
          · dsimp only; exact hi
          · dsimp only; exact hS
        · obtain ⟨hto0, hcl0⟩ : 0 ≤ w.to (s0 : Int) (d : Int) ∧ 0 ≤ cl (w.to (s0 : Int) (d : Int)).toNat := by
            have h := hc_t63
            simp only [Bool.or_eq_false_iff, decide_eq_false_iff_not] at h
            omega
          have hset : ∀ x : Int, ((Au.rowV T i d).set d (AV.int (-1))).set d (AV.int x) = (Au.rowV T i d).set d (AV.int x) := fun x => List.set_set ..
          refine W.skip ?_
          refine W.then ?_
          refine W.seq ?_
          refine W.region ?_
          refine W.q (Ev.move (.t rfl)) rfl ?_
          refine W.q (Ev.move (.t rfl)) rfl ?_
          refine W.q (Ev.move (.t rfl)) rfl ?_
          refine W.q (Ev.ata 6 (.t rfl) rfl (.t rfl) Tryz.underlying22 ty3 (fun hg => by rw [rowI_len]; omega)) rfl ?_
          refine W.q (Ev.lda1 6 (w.to (s0 : Int) (d : Int)).toNat 0 (.t rfl) rfl (rowI_get (by omega)) (by omega) rfl rfl rfl ag3) rfl ?_
          (refine W.q (Ev.look2 5 (.t rfl) rfl (.t rfl) Tryz.underlying80 (KeyKind.int Tryz.underlying3) ty3) rfl ?_)
          refine W.q (Ev.move (.t rfl)) rfl ?_
          refine W.q (Ev.extract (.t rfl) rfl) rfl ?_
          refine W.q (Ev.extract (.t rfl) rfl) rfl ?_
          refine W.q (Ev.assign (.t rfl)) rfl ?_
          refine W.q (Ev.assign (.t rfl)) rfl ?_
          refine W.nil ?_
          refine W.then ?_
          refine W.seq ?_
          refine W.seq ?_
          refine W.region ?_
          refine W.q (Ev.move (.t rfl)) rfl ?_
          refine W.q (Ev.not (.t rfl)) rfl ?_
          refine W.nil ?_
          refine W.then ?_
          refine W.cond (.t rfl) (fun hc_t74 => ?_) (fun hc_t74 => ?_)
          · have hnew : cl (w.to (s0 : Int) (d : Int)).toNat ∉ S.map cl := by
              rw [← place_none]
              cases hp : place (cl (w.to (s0 : Int) (d : Int)).toNat) (S.map cl) with
              | none => rfl
              | some j => rw [hp] at hc_t74; simp at hc_t74
            have hnewk := Au.Bfs.fresh hnew
            have hsnoc : (S ++ [(w.to (s0 : Int) (d : Int)).toNat]).map (fun s : Nat => AV.int (s : Int)) = S.map (fun s : Nat => AV.int (s : Int)) ++ [AV.int (w.to (s0 : Int) (d : Int))] := by rw [List.map_append]; show _ ++ [AV.int (((w.to (s0 : Int) (d : Int)).toNat : Nat) : Int)] = _; rw [Int.toNat_of_nonneg hto0]
            have hkey : S.map cl ++ [cl (w.to (s0 : Int) (d : Int)).toNat] = (S ++ [(w.to (s0 : Int) (d : Int)).toNat]).map cl := by rw [List.map_append]; rfl
            refine W.seq ?_
            refine W.region ?_
            refine W.q (Ev.move (.t rfl)) rfl ?_
            (refine W.q (Ev.lenar (i := 4) (.t rfl) rfl Tryz.underlying22) rfl ?_)
            refine W.is (t := 76) (g := true) (av' := .int (S.length : Int)) rfl (by rw [List.length_map]) ?_
            refine W.q (Ev.assign (.t rfl)) rfl ?_
            refine W.nil ?_
            refine W.then ?_
            refine W.seq ?_
            refine W.region ?_
            refine W.q (Ev.move (.t rfl)) rfl ?_
            refine W.q (Ev.move (.t rfl)) rfl ?_
            refine W.q (Ev.move (.t rfl)) rfl ?_
            refine W.q (Ev.ata 6 (.t rfl) rfl (.t rfl) Tryz.underlying22 ty3 (fun hg => by rw [rowI_len]; omega)) rfl ?_
            refine W.q (Ev.lda1 6 (w.to (s0 : Int) (d : Int)).toNat 0 (.t rfl) rfl (rowI_get (by omega)) (by omega) rfl rfl rfl ag3) rfl ?_
            refine W.q (Ev.move (.t rfl)) rfl ?_
            refine W.is (t := 82) (g := true) (av' := .int ((S.map cl).length : Int)) rfl (by rw [List.length_map]) ?_
            refine W.mapnew 5 (ks := S.map cl) (k := cl (w.to (s0 : Int) (d : Int)).toNat) (f := fun n : Int => Value.int .i64 n) (.t rfl) rfl (.t rfl) (.t rfl) Tryz.underlying80 (KeyKind.int Tryz.underlying3) hnew _ (.inl rfl) ?_
            refine W.nil ?_
            refine W.then ?_
            refine W.region ?_
            refine W.q (Ev.move (.t rfl)) rfl ?_
            refine W.q (Ev.move (.t rfl)) rfl ?_
            refine W.bs (es := [_]) Tryz.underlying22 ty3 ⟨rfl, (.t rfl), rfl, rfl, trivial⟩ rfl (by decide) rfl rfl ?_
            (refine W.app 4 (.t rfl) rfl (.sl (.t rfl) (by intro e he; rw [List.mem_singleton.1 he]; rfl)) Tryz.underlying22 ni22 ty3 rfl rfl (by rw [List.length_map]; simp only [List.length_cons, List.length_nil]; omega) rfl ?_)
            intro v86
            refine W.q (Ev.assign (.t rfl)) rfl ?_
            refine W.nil ?_
            refine W.then ?_
            refine W.region ?_
            refine W.q (Ev.move (.t rfl)) rfl ?_
            refine W.q (Ev.move (.t rfl)) rfl ?_
            refine W.q (Ev.move (.t rfl)) rfl ?_
            refine W.q (Ev.ata 0 (.t rfl) rfl (.t rfl) Tryz.underlying22 ty3 (fun hg => by rw [List.length_set, Au.rowV_len]; omega)) rfl ?_
            refine W.sta 0 d 0 (e := AV.int (-1)) (e' := AV.int _) (.t rfl) (.t rfl) rfl (by rw [List.getElem?_set_self (by rw [Au.rowV_len]; exact hd8)]) (by omega) ty3 rfl rfl rfl rfl rfl rfl rfl ?_
            refine W.nil ?_
            refine W.blk_normal ?_
            refine W.then ?_
            refine W.region ?_
            (refine W.q (Ev.add (.t rfl) .k (fun _ => by omega)) rfl ?_)
            refine W.q (Ev.move (.t rfl)) rfl ?_
            refine W.nil ?_
            refine W.then ?_
            have h9 := (hB.setI (S.length : Int)).new (Au.setI_at _ _ _ _) hi hd8 (t := (w.to (s0 : Int) (d : Int)).toNat) (by omega) (by rw [hs0]; omega) (by omega) hnewk
            refine W.reach (D := []) (d + 1, S ++ [(w.to (s0 : Int) (d : Int)).toNat], Au.setI T i d (S.length : Int), _) ⟨rfl, rfl, rfl, rfl, rfl, rfl, rfl, rfl, rfl, rfl, trivial⟩ ?_ ⟨⟨h9, ?_, ?_, hd8, ?_⟩, by show 8 - (d + 1) < 8 - d; omega⟩
            · rw [List.append_nil]; (try dsimp only); rw [← Au.rowV_step T i d _ hd8, hsnoc, ← hkey, ← hset (S.length : Int)]; exact .refl _
            · dsimp only; rw [Au.rowsL_set]; exact hNs
            · dsimp only; rw [List.length_append]; omega
            · dsimp only; rw [← hS, List.take_append_of_le_length (by omega)]
          · obtain ⟨j, hj⟩ : ∃ j, place (cl (w.to (s0 : Int) (d : Int)).toNat) (S.map cl) = some j := by
              cases hp : place (cl (w.to (s0 : Int) (d : Int)).toNat) (S.map cl) with
              | none => rw [hp] at hc_t74; simp at hc_t74
              | some j => exact ⟨j, rfl⟩
            obtain ⟨hjl, hje⟩ := hB.plc hj
            refine W.is (t := 13) (g := true) (av' := .int (j : Int)) rfl (by rw [hj]; rfl) ?_
            refine W.skip ?_
            refine W.then ?_
            refine W.region ?_
            refine W.q (Ev.move (.t rfl)) rfl ?_
            refine W.q (Ev.move (.t rfl)) rfl ?_
            refine W.q (Ev.move (.t rfl)) rfl ?_
            refine W.q (Ev.ata 0 (.t rfl) rfl (.t rfl) Tryz.underlying22 ty3 (fun hg => by rw [List.length_set, Au.rowV_len]; omega)) rfl ?_
            refine W.sta 0 d 0 (e := AV.int (-1)) (e' := AV.int _) (.t rfl) (.t rfl) rfl (by rw [List.getElem?_set_self (by rw [Au.rowV_len]; exact hd8)]) (by omega) ty3 rfl rfl rfl rfl rfl rfl rfl ?_
            refine W.nil ?_
            refine W.blk_normal ?_
            refine W.then ?_
            refine W.region ?_
            (refine W.q (Ev.add (.t rfl) .k (fun _ => by omega)) rfl ?_)
            refine W.q (Ev.move (.t rfl)) rfl ?_
            refine W.nil ?_
            refine W.then ?_
            have h9 := (hB.setI (j : Int)).old (Au.setI_at _ _ _ _) hjl (by rw [hs0]; unfold Au.cto; rw [if_pos hto0]; exact hje)
            refine W.reach (D := []) (d + 1, S, Au.setI T i d (j : Int), vs) ⟨rfl, rfl, rfl, rfl, rfl, rfl, rfl, rfl, rfl, rfl, trivial⟩ ?_ ⟨⟨h9, ?_, ?_, hd8, ?_⟩, by show 8 - (d + 1) < 8 - d; omega⟩
            · rw [List.append_nil]; (try dsimp only); rw [← Au.rowV_step T i d _ hd8, ← hset (j : Int)]; exact .refl _
            · dsimp only; rw [Au.rowsL_set]; exact hNs
            · dsimp only; exact hi
            · dsimp only; exact hS
      · subst hend
        have hgS := getD_mapG (fun s : Nat => AV.int (s : Int)) 0 S i hi
        have hgF := getD_mapG AV.bool false w.final (S.getD i 0) (by omega)
        rw [Au.rowV_done]
        refine W.freezeA (M1 := .arr vn 22 1 (Ns.map pav) :: .arr vf 4 1 (Fs.map AV.bool) :: .box b8 28 [.lit vn, .lit vf] :: .arr vs 3 1 (S.map fun s : Nat => AV.int (s : Int)) :: .obj b27 (mObj ((S.map cl).map fun n : Int => Value.int .i64 n)) :: .arr v16 3 1 (rowI w.next.length cl) :: .box b2 28 [.lit (.slice none 0 0), .lit (.slice none 0 0)] :: .box b1 61 [.sl 8 (w.next.map wrow), .sl 1 (w.final.map AV.bool)] :: M0) (M2 := .arr vn 22 1 (Ns.map pav) :: .arr vf 4 1 (Fs.map AV.bool) :: .box b8 28 [.lit vn, .lit vf] :: .arr vs 3 1 (S.map fun s : Nat => AV.int (s : Int)) :: .obj b27 (mObj ((S.map cl).map fun n : Int => Value.int .i64 n)) :: .arr v16 3 1 (rowI w.next.length cl) :: .box b2 28 [.lit (.slice none 0 0), .lit (.slice none 0 0)] :: .box b1 61 [.sl 8 (w.next.map wrow), .sl 1 (w.final.map AV.bool)] :: M0) (D := []) (v := v39) (L' := [(10, true, .sl 1 (row8 (T i)))]) (by rw [List.append_nil] <;> exact .refl _) ⟨⟨_, rfl, .one .hit⟩, trivial⟩ (FrzMs.refl _) ?_
        refine W.seq ?_
        refine W.region ?_
        refine W.q (Ev.lti (.t rfl) .k) rfl ?_
        refine W.nil ?_
        refine W.then ?_
        refine W.seq ?_
        refine W.is (t := 49) (g := true) (av' := .lit (.bool false)) rfl (congrArg (fun b => AV.lit (.bool b)) (by rfl)) ?_
        refine W.condF (.t rfl) ?_
        refine W.exit ?_
        refine W.then_exit ?_
        refine W.then_exit ?_
        refine W.blk_hit ?_
        refine W.then ?_
        refine W.drawnM (fun ee c_ => (bif ee 4 then ME.arr (c_ 4).2 22 1 (Ns.map pav ++ [.sl 1 (row8 (T i))]) else ME.arr vn 22 1 (Ns.map pav)) :: (bif ee 16 then ME.arr (c_ 16).2 4 1 (Fs.map AV.bool ++ [.bool (w.final.getD (S.getD i 0) false)]) else ME.arr vf 4 1 (Fs.map AV.bool)) :: ME.box b8 28 [bif ee 18 then .lit (c_ 4).2 else .lit vn, bif ee 20 then .lit (c_ 16).2 else .lit vf] :: .arr vs 3 1 (S.map fun s : Nat => AV.int (s : Int)) :: .obj b27 (mObj ((S.map cl).map fun n : Int => Value.int .i64 n)) :: .arr v16 3 1 (rowI w.next.length cl) :: .box b2 28 [.lit (.slice none 0 0), .lit (.slice none 0 0)] :: .box b1 61 [.sl 8 (w.next.map wrow), .sl 1 (w.final.map AV.bool)] :: M0) (c0 := ks0) (by kernel_rfl) (by kernel_rfl) rfl ?_
        (refine DM.q (fun e c hk => (Ev.fab (.t rfl) fa28_0)) rfl (fun _ _ => rfl) (fun c c_ h => by first | rfl) ?_)
        refine DM.q (av := fun _ => .lit vn) (fun e c hk => by have h := hk.down 18 (by kernel_rfl); simp only [h, cond_false]; exact Ev.ldb1 2 (.t rfl) rfl ag25 rfl) rfl (fun _ _ => rfl) (fun _ _ _ => rfl) ?_
        refine DM.q (fun e c hk => (Ev.move (.t rfl))) rfl (fun _ _ => rfl) (fun c c_ h => by first | rfl) ?_
        refine DM.bs (es := fun _ => [_]) Tryz.underlying25 ty22 (fun c => ⟨rfl, (.t rfl), rfl, rfl, trivial⟩) (fun _ => rfl) (by decide) rfl rfl (fun _ _ => rfl) (fun c c_ h => by first | rfl) ?_
        refine DM.eff1 (av := fun c => .lit (c 4).2) rfl (fun c c_ h => by (simp only [h 4 (by (exact .inl rfl))])) (fun e c hk L_ hs Q h => ?_) ?_
        · have hk_4 := hk.not
          have hk_16 := hk.down 16 (by kernel_rfl)
          have hk_18 := hk.down 18 (by kernel_rfl)
          have hk_20 := hk.down 20 (by kernel_rfl)
          simp only [addE, upd, eq_self, List.nil_append, List.cons_append, List.append_nil, hk_4, hk_16, hk_18, hk_20, Nat.reduceAdd, Nat.reduceEqDiff, ↓reduceIte, cond_true, cond_false] at h ⊢
          ((refine W.app 0 (.t (hs _ _ rfl)) rfl (.sl (.t (hs _ _ rfl)) (by intro e he; rw [List.mem_singleton.1 he]; rfl)) Tryz.underlying25 ni25 ty22 rfl rfl (by rw [List.length_map]; simp only [List.length_cons, List.length_nil]; omega) rfl ?_; exact fun v => h (0, v) _ (by (exact .refl _))))
        (refine DM.q (fun e c hk => (Ev.fab (.t rfl) fa28_1)) rfl (fun _ _ => rfl) (fun c c_ h => by first | rfl) ?_)
        refine DM.q (av := fun _ => .lit vf) (fun e c hk => by have h := hk.down 20 (by kernel_rfl); simp only [h, cond_false]; exact Ev.ldb1 2 (.t rfl) rfl ag26 rfl) rfl (fun _ _ => rfl) (fun _ _ _ => rfl) ?_
        (refine DM.q (fun e c hk => (Ev.fab (.t rfl) fa61_1)) rfl (fun _ _ => rfl) (fun c c_ h => by first | rfl) ?_)
        (refine DM.q (fun e c hk => (Ev.ldb1 7 (.t rfl) rfl ag26 rfl)) rfl (fun _ _ => rfl) (fun c c_ h => by first | rfl) ?_)
        refine DM.q (fun e c hk => (Ev.move (.t rfl))) rfl (fun _ _ => rfl) (fun c c_ h => by first | rfl) ?_
        refine DM.q (fun e c hk => (Ev.move (.t rfl))) rfl (fun _ _ => rfl) (fun c c_ h => by first | rfl) ?_
        refine DM.q (fun e c hk => Ev.ata 3 (.t rfl) rfl (.t rfl) Tryz.underlying22 ty3 (fun _ => by rw [List.length_map]; omega)) rfl (fun _ _ => rfl) (fun _ _ _ => rfl) ?_
        refine DM.q (fun e c hk => Ev.lda1 3 i 0 (.t rfl) rfl hgS (by omega) rfl rfl rfl ag3) rfl (fun _ _ => rfl) (fun _ _ _ => rfl) ?_
        refine DM.q (fun e c hk => Ev.at (E := 4) (.t rfl) (.t rfl) Tryz.underlying26 ty4 (fun _ => ⟨by omega, hgF⟩) rfl rfl) rfl (fun _ _ => rfl) (fun _ _ _ => rfl) ?_
        (refine DM.q (fun e c hk => (Ev.lde1 (.t rfl) ag4)) rfl (fun _ _ => rfl) (fun c c_ h => by first | rfl) ?_)
        refine DM.bs (es := fun _ => [_]) Tryz.underlying26 ty4 (fun c => ⟨rfl, (.t rfl), rfl, rfl, trivial⟩) (fun _ => rfl) (by decide) rfl rfl (fun _ _ => rfl) (fun c c_ h => by first | rfl) ?_
        refine DM.eff1 (av := fun c => .lit (c 16).2) rfl (fun c c_ h => by (simp only [h 4 (by (exact .inr (by kernel_rfl))), h 16 (by (exact .inl rfl))])) (fun e c hk L_ hs Q h => ?_) ?_
        · have hk_16 := hk.not
          have hk_4 := hk.up 4 (by kernel_rfl)
          have hk_18 := hk.down 18 (by kernel_rfl)
          have hk_20 := hk.down 20 (by kernel_rfl)
          simp only [addE, upd, eq_self, List.nil_append, List.cons_append, List.append_nil, hk_16, hk_4, hk_18, hk_20, Nat.reduceAdd, Nat.reduceEqDiff, ↓reduceIte, cond_true, cond_false] at h ⊢
          ((refine W.app 1 (.t (hs _ _ rfl)) rfl (.sl (.t (hs _ _ rfl)) (by intro e he; rw [List.mem_singleton.1 he]; rfl)) Tryz.underlying26 ni26 ty4 rfl rfl (by rw [List.length_map]; simp only [List.length_cons, List.length_nil]; omega) rfl ?_; exact fun v => h (0, v) _ (by (exact .refl _))))
        (refine DM.q (fun e c hk => (Ev.fab (.t rfl) fa28_0)) rfl (fun _ _ => rfl) (fun c c_ h => by (rfl)) ?_)
        refine DM.eff0 (fun e c hk L_ hs Q h => ?_) ?_
        · have hk_18 := hk.not
          have hk_4 := hk.up 4 (by kernel_rfl)
          have hk_16 := hk.up 16 (by kernel_rfl)
          have hk_20 := hk.down 20 (by kernel_rfl)
          simp only [addE, upd, eq_self, List.nil_append, List.cons_append, List.append_nil, hk_18, hk_4, hk_16, hk_20, Nat.reduceAdd, Nat.reduceEqDiff, ↓reduceIte, cond_true, cond_false] at h ⊢
          refine W.arr_inv 0 rfl (fun a9 n9 c9 h9 => ?_)
          rw [h9] at h ⊢
          refine W.stb 2 (.t (hs _ _ rfl)) (.t ((hs _ _ rfl).trans (congrArg (fun v => some (true, AV.lit v)) h9))) rfl ty25 rfl rfl rfl ?_
          exact h
        (refine DM.q (fun e c hk => (Ev.fab (.t rfl) fa28_1)) rfl (fun _ _ => rfl) (fun c c_ h => by (rfl)) ?_)
        refine DM.eff0 (fun e c hk L_ hs Q h => ?_) ?_
        · have hk_20 := hk.not
          have hk_4 := hk.up 4 (by kernel_rfl)
          have hk_16 := hk.up 16 (by kernel_rfl)
          have hk_18 := hk.up 18 (by kernel_rfl)
          simp only [addE, upd, eq_self, List.nil_append, List.cons_append, List.append_nil, hk_20, hk_4, hk_16, hk_18, Nat.reduceAdd, Nat.reduceEqDiff, ↓reduceIte, cond_true, cond_false] at h ⊢
          refine W.arr_inv 1 rfl (fun a9 n9 c9 h9 => ?_)
          rw [h9] at h ⊢
          refine W.stb 2 (.t (hs _ _ rfl)) (.t ((hs _ _ rfl).trans (congrArg (fun v => some (true, AV.lit v)) h9))) rfl ty26 rfl rfl rfl ?_
          exact h
        refine DM.nil (fun cc e_ he_ => ?_)
        simp only [he_ 4 (by decide), he_ 16 (by decide), he_ 18 (by decide), he_ 20 (by decide), cond_true, cond_false]
        generalize (cc 4).2 = v96
        generalize (cc 16).2 = v108
        refine W.blk_normal ?_
        refine W.then ?_
        refine W.region ?_
        refine W.q (Ev.move (.t rfl)) rfl ?_
        (refine W.q (Ev.add (.t rfl) .k (fun _ => by omega)) rfl ?_)
        refine W.q (Ev.assign (.t rfl)) rfl ?_
        refine W.nil ?_
        refine W.then ?_
        refine W.reach (D := []) (i + 1, S, T, Ns ++ [r8l (T i)], Fs ++ [w.final.getD (S.getD i 0) false], vs, v96, v108) ⟨rfl, rfl, rfl, rfl, rfl, rfl, rfl, trivial⟩ ?_ ⟨⟨hB.row, hi, ?_, ?_⟩, by show 101 - (i + 1) < 101 - i; omega⟩
        · rw [List.append_nil]; (try dsimp only); rw [List.map_append (f := pav), List.map_append (f := AV.bool)]; exact .refl _
        · dsimp only; rw [hNs, Au.rowsL_snoc]
        · dsimp only; rw [take_getDG 0 S i hi, List.map_append, hFs]; rfl
    · subst hend
      have hmd := hB.made hs hcls Fs (by rw [hFs, List.take_length])
      have hsz40 := hsz _ (.inl hmd.1) hmd.2
      have hNs2 : Ns = (Au.auOf S.length T Fs).next := hNs
      refine W.seq ?_
      refine W.seq ?_
      refine W.region ?_
      refine W.q (Ev.move (.t rfl)) rfl ?_
      refine W.q (Ev.move (.t rfl)) rfl ?_
      (refine W.q (Ev.lenar (i := 3) (.t rfl) rfl Tryz.underlying22) rfl ?_)
      refine W.q (Ev.lti (.t rfl) (.t rfl)) rfl ?_
      refine W.nil ?_
      refine W.then ?_
      refine W.is (t := 36) (g := true) (av' := .lit (.bool false)) rfl (congrArg (fun b => AV.lit (.bool b)) (by exact decide_eq_false (by omega))) ?_
      refine W.condF (.t rfl) ?_
      refine W.exit ?_
      refine W.then_exit ?_
      refine W.then_exit ?_
      refine W.blk_hit ?_
      refine W.then ?_
      refine W.seq ?_
      refine W.seq ?_
      refine W.region ?_
      (refine W.q (Ev.fab (.t rfl) fa28_0) rfl ?_)
      (refine W.q (Ev.ldb1 2 (.t rfl) rfl ag25 rfl) rfl ?_)
      (refine W.q (Ev.lenar (i := 0) (.t rfl) rfl Tryz.underlying25) rfl ?_)
      refine W.is (t := 113) (g := true) (av' := .int (S.length : Int)) rfl (by rw [List.length_map, hNl]) ?_
      refine W.q (Ev.gti (.t rfl) .k) rfl ?_
      refine W.nil ?_
      refine W.then ?_
      refine W.is (t := 114) (g := true) (av' := .lit (.bool false)) rfl (congrArg (fun b => AV.lit (.bool b)) (by exact decide_eq_false (by rw [Au.auOf_len] at hsz40; omega))) ?_
      refine W.condF (.t rfl) ?_
      refine W.skip ?_
      refine W.then ?_
      refine W.seq ?_
      refine W.region ?_
      refine W.freezeA (M1 := .arr vf 4 1 (Fs.map AV.bool) :: .box b8 28 [.lit vn, .lit vf] :: .arr vs 3 1 (S.map fun s : Nat => AV.int (s : Int)) :: .obj b27 (mObj ((S.map cl).map fun n : Int => Value.int .i64 n)) :: .arr v16 3 1 (rowI w.next.length cl) :: .box b2 28 [.lit (.slice none 0 0), .lit (.slice none 0 0)] :: .box b1 61 [.sl 8 (w.next.map wrow), .sl 1 (w.final.map AV.bool)] :: M0) (M2 := .arr vf 4 1 (Fs.map AV.bool) :: .box b8 28 [.sl 1 (Ns.map pav), .lit vf] :: .arr vs 3 1 (S.map fun s : Nat => AV.int (s : Int)) :: .obj b27 (mObj ((S.map cl).map fun n : Int => Value.int .i64 n)) :: .arr v16 3 1 (rowI w.next.length cl) :: .box b2 28 [.lit (.slice none 0 0), .lit (.slice none 0 0)] :: .box b1 61 [.sl 8 (w.next.map wrow), .sl 1 (w.final.map AV.bool)] :: M0) (D := []) (v := vn) (L' := []) (by rw [List.append_nil] <;> exact .refl _) trivial (⟨.refl _, .box ⟨.hit, .refl _, trivial⟩, FrzMs.refl _⟩) ?_
      refine W.freezeA (M1 := .box b8 28 [.sl 1 (Ns.map pav), .lit vf] :: .arr vs 3 1 (S.map fun s : Nat => AV.int (s : Int)) :: .obj b27 (mObj ((S.map cl).map fun n : Int => Value.int .i64 n)) :: .arr v16 3 1 (rowI w.next.length cl) :: .box b2 28 [.lit (.slice none 0 0), .lit (.slice none 0 0)] :: .box b1 61 [.sl 8 (w.next.map wrow), .sl 1 (w.final.map AV.bool)] :: M0) (M2 := .box b8 28 [.sl 1 (Ns.map pav), .sl 1 (Fs.map AV.bool)] :: .arr vs 3 1 (S.map fun s : Nat => AV.int (s : Int)) :: .obj b27 (mObj ((S.map cl).map fun n : Int => Value.int .i64 n)) :: .arr v16 3 1 (rowI w.next.length cl) :: .box b2 28 [.lit (.slice none 0 0), .lit (.slice none 0 0)] :: .box b1 61 [.sl 8 (w.next.map wrow), .sl 1 (w.final.map AV.bool)] :: M0) (D := []) (v := vf) (L' := []) (by rw [List.append_nil] <;> exact .refl _) trivial (⟨.box ⟨.refl _, .hit, trivial⟩, FrzMs.refl _⟩) ?_
      (refine W.q (Ev.ldbn 0 (.t rfl) rfl ag28 ty28 rfl) rfl ?_)
      (refine W.stb 4 (.t rfl) (.t rfl) rfl ty28 rfl rfl rfl ?_)
      refine W.q (Ev.assign .k) rfl ?_
      refine W.nil ?_
      refine W.then ?_
      refine W.ret ?_
      refine W.retn (M' := M0) (D := _) (rs := [.cell 2 28, .tmp 3]) (avs := [_, _]) Tryz.results23 ⟨⟨_, _, _, rfl, by repeat (first | exact List.mem_cons_self | apply List.mem_cons_of_mem), rfl, by funext w; exact ag28.run w, by funext w; exact ty28.size w⟩, rfl, trivial⟩ rfl (List.perm_append_comm (l₁ := [_, _, _, _, _, _])) ?_
      exact ⟨_, .inl hmd.1, hmd.2, by rw [hNs2]; rfl, rfl⟩

end WOrder

end Go.Proofs.YtacaemfkdieocaaGreatDoor
end

section
set_option linter.unusedVariables false
set_option linter.unusedSimpArgs false
set_option maxRecDepth 100000
namespace Go.Proofs.YtacaemfkdieocaaGreatDoor
open Go.Vl

namespace WConts
theorem ty3 : Ty Tryz.prog 3 1 8 (.int .i64 0) := Ty.of (by kernel_rfl)
theorem ty22 : Ty Tryz.prog 22 1 24 (.slice none 0 0) := Ty.of (by kernel_rfl)
theorem ag3 : IsAgg Tryz.prog 3 false := ⟨_, Tryz.underlying3, rfl⟩
theorem ag22 : IsAgg Tryz.prog 22 false := ⟨_, Tryz.underlying22, rfl⟩
theorem c_IndexFuncI (l : List Int) (g : Nat) (caps : List Value) (M0 : List ME) (p : Int → Bool) (hg : ∀ d ∈ l, FnC Tryz.prog g ([AV.int d] ++ caps.map .lit) M0 (fun r M => r = .bool (p d) ∧ M = M0)) (hn : l.length ≤ 1099511627776) : FnC Tryz.prog 51 [.sl 1 (l.map AV.int), .lit (.func (.func g) #[] caps.toArray)] M0 (fun r M => r = .int (idxI p l) ∧ M = M0) :=  by
  refine FnC.mk Tryz.func51 (by kernel_rfl) rfl Tryz.ntmps51 rfl (fun w0 F => ?_)
  have hnl : (l.map AV.int).length = l.length := List.length_map ..
  refine W.seq ?_
  refine W.region ?_
  refine W.q (Ev.assign .k) rfl ?_
  refine W.nil ?_
  refine W.then ?_
  refine W.seq ?_
  refine W.seq ?_
  refine W.region ?_
  refine W.q (Ev.move (.t rfl)) rfl ?_
  (refine W.q (Ev.lensl (.t rfl) Tryz.underlying22) rfl ?_)
  refine W.q (Ev.move .k) rfl ?_
  refine W.nil ?_
  refine W.then ?_
  refine W.block ?_
  refine W.loop (D := []) (ι := Nat) (fun i => [(8, true, .int (i : Int)), (7, true, .int ((l.map AV.int).length : Int)), (0, true, .sl 1 (l.map AV.int)), (1, true, .lit (.func (.func g) #[] caps.toArray))]) (fun _ => M0) (fun i => i ≤ l.length ∧ ∀ d ∈ l.take i, p d = false) (fun i => l.length - i) 0 ⟨rfl, rfl, rfl, rfl, trivial⟩ (List.Perm.of_eq (List.append_nil _).symm) ⟨Nat.zero_le _, by simp⟩ ?_
  rintro i ⟨hi1, hi2⟩
  dsimp only at hi1 hi2 ⊢
  rcases (show i < l.length ∨ i = l.length from by omega) with hlt | hend
  · have hga := getD_mapG AV.int 0 l i hlt
    refine W.seq ?_
    refine W.region ?_
    refine W.q (Ev.lti (.t rfl) (.t rfl)) rfl ?_
    refine W.nil ?_
    refine W.then ?_
    refine W.seq ?_
    refine W.is (t := 9) (g := true) (av' := .lit (.bool true)) rfl (congrArg (fun b => AV.lit (.bool b)) (by simp; omega)) ?_
    refine W.condT (.t rfl) ?_
    refine W.skip ?_
    refine W.then ?_
    refine W.seq ?_
    refine W.block ?_
    refine W.seq ?_
    refine W.region ?_
    refine W.q (Ev.move (.t rfl)) rfl ?_
    refine W.q (Ev.assign (.t rfl)) rfl ?_
    refine W.nil ?_
    refine W.then ?_
    refine W.seq ?_
    refine W.region ?_
    refine W.q (Ev.move (.t rfl)) rfl ?_
    refine W.q (Ev.move (.t rfl)) rfl ?_
    refine W.q (Ev.move (.t rfl)) rfl ?_
    refine W.q (Ev.at (E := 3) (.t rfl) (.t rfl) Tryz.underlying22 ty3 (fun _ => ⟨by omega, hga⟩) rfl rfl) rfl ?_
    (refine W.q (Ev.lde1 (.t rfl) ag3) rfl ?_)
    refine W.callv (caps := caps) (avs := [_]) (hg (l.getD i 0) (getD_memG 0 l i hlt)) (.t rfl) ⟨(.t rfl), trivial⟩ rfl ((List.Perm.of_eq (List.append_nil _).symm)) rfl ?_
    rintro _ M' ⟨rfl, hM⟩
    rw [hM, List.append_nil]
    refine W.nil ?_
    refine W.then ?_
    refine W.cond (.t rfl) (fun hc_t16 => ?_) (fun hc_t16 => ?_)
    · have hq := idxI_hit p 0 l i hlt hi2 hc_t16
      refine W.seq ?_
      refine W.region ?_
      refine W.q (Ev.move (.t rfl)) rfl ?_
      refine W.q (Ev.assign (.t rfl)) rfl ?_
      refine W.nil ?_
      refine W.then ?_
      refine W.ret ?_
      refine W.blk_ret ?_
      refine W.then_ret ?_
      refine W.then_ret ?_
      refine W.blk_ret ?_
      refine W.then_ret ?_
      refine W.retn (M' := M0) (D := []) (rs := [.tmp 4]) (avs := [_]) Tryz.results51 ⟨rfl, trivial⟩ rfl (List.Perm.of_eq (List.append_nil _).symm) ?_
      exact ⟨congrArg AV.int (by rw [hq]), rfl⟩
    · have hq : p (l.getD i 0) = false := hc_t16
      refine W.skip ?_
      refine W.blk_normal ?_
      refine W.then ?_
      refine W.region ?_
      (refine W.q (Ev.add (.t rfl) .k (fun _ => by omega)) rfl ?_)
      refine W.q (Ev.move (.t rfl)) rfl ?_
      refine W.nil ?_
      refine W.then ?_
      refine W.reach (D := []) (i + 1) ⟨rfl, rfl, rfl, rfl, trivial⟩ (List.Perm.of_eq (List.append_nil _).symm) ⟨⟨by omega, ?_⟩, by omega⟩
      rw [take_getDG 0 l i hlt]
      intro d hd
      cases List.mem_append.1 hd with
      | inl h => exact hi2 d h
      | inr h => rw [List.mem_singleton.1 h]; exact hq
  · rw [List.take_of_length_le (by omega)] at hi2
    have hq := idxI_miss p l hi2
    refine W.seq ?_
    refine W.region ?_
    refine W.q (Ev.lti (.t rfl) (.t rfl)) rfl ?_
    refine W.nil ?_
    refine W.then ?_
    refine W.seq ?_
    refine W.is (t := 9) (g := true) (av' := .lit (.bool false)) rfl (congrArg (fun b => AV.lit (.bool b)) (by simp; omega)) ?_
    refine W.condF (.t rfl) ?_
    refine W.exit ?_
    refine W.then_exit ?_
    refine W.then_exit ?_
    refine W.blk_hit ?_
    refine W.then ?_
    refine W.seq ?_
    refine W.region ?_
    refine W.q (Ev.assign .k) rfl ?_
    refine W.nil ?_
    refine W.then ?_
    refine W.ret ?_
    refine W.retn (M' := M0) (D := []) (rs := [.tmp 4]) (avs := [_]) Tryz.results51 ⟨rfl, trivial⟩ rfl (List.Perm.of_eq (List.append_nil _).symm) ?_
    exact ⟨congrArg AV.int (by rw [hq]), rfl⟩

theorem c_ContainsFuncI (l : List Int) (g : Nat) (caps : List Value) (M0 : List ME) (p : Int → Bool) (hg : ∀ d ∈ l, FnC Tryz.prog g ([AV.int d] ++ caps.map .lit) M0 (fun r M => r = .bool (p d) ∧ M = M0)) (hn : l.length ≤ 1099511627776) : FnC Tryz.prog 32 [.sl 1 (l.map AV.int), .lit (.func (.func g) #[] caps.toArray)] M0 (fun r M => r = .bool (l.any p) ∧ M = M0) :=  by
  refine FnC.mk Tryz.func32 (by kernel_rfl) rfl Tryz.ntmps32 rfl (fun w0 F => ?_)
  refine W.seq ?_
  refine W.region ?_
  refine W.q (Ev.assign .k) rfl ?_
  refine W.nil ?_
  refine W.then ?_
  refine W.seq ?_
  refine W.region ?_
  refine W.q (Ev.move (.t rfl)) rfl ?_
  refine W.q (Ev.move (.t rfl)) rfl ?_
  refine W.call (c_IndexFuncI l g caps M0 p hg hn) ⟨(.t rfl), (.t rfl), trivial⟩ ((List.Perm.of_eq (List.append_nil _).symm)) rfl ?_
  rintro _ M' ⟨rfl, hM⟩
  rw [hM, List.append_nil]
  refine W.q (Ev.gei (.t rfl) .k) rfl ?_
  refine W.q (Ev.assign (.t rfl)) rfl ?_
  refine W.nil ?_
  refine W.then ?_
  refine W.ret ?_
  refine W.retn (M' := M0) (D := []) (rs := [.tmp 4]) (avs := [_]) Tryz.results32 ⟨rfl, trivial⟩ rfl (List.Perm.of_eq (List.append_nil _).symm) ?_
  exact ⟨congrArg AV.bool (idxI_any p l), rfl⟩

theorem c_IndexFuncR (l : List (List Int)) (g : Nat) (caps : List Value) (M0 : List ME) (p : (List Int) → Bool) (hg : ∀ d ∈ l, FnC Tryz.prog g ([pav d] ++ caps.map .lit) M0 (fun r M => r = .bool (p d) ∧ M = M0)) (hn : l.length ≤ 1099511627776) : FnC Tryz.prog 50 [.sl 1 (l.map pav), .lit (.func (.func g) #[] caps.toArray)] M0 (fun r M => r = .int (idxI p l) ∧ M = M0) :=  by
  refine FnC.mk Tryz.func50 (by kernel_rfl) rfl Tryz.ntmps50 rfl (fun w0 F => ?_)
  have hnl : (l.map pav).length = l.length := List.length_map ..
  refine W.seq ?_
  refine W.region ?_
  refine W.q (Ev.assign .k) rfl ?_
  refine W.nil ?_
  refine W.then ?_
  refine W.seq ?_
  refine W.seq ?_
  refine W.region ?_
  refine W.q (Ev.move (.t rfl)) rfl ?_
  (refine W.q (Ev.lensl (.t rfl) Tryz.underlying25) rfl ?_)
  refine W.q (Ev.move .k) rfl ?_
  refine W.nil ?_
  refine W.then ?_
  refine W.block ?_
  refine W.loop (D := []) (ι := Nat) (fun i => [(8, true, .int (i : Int)), (7, true, .int ((l.map pav).length : Int)), (0, true, .sl 1 (l.map pav)), (1, true, .lit (.func (.func g) #[] caps.toArray))]) (fun _ => M0) (fun i => i ≤ l.length ∧ ∀ d ∈ l.take i, p d = false) (fun i => l.length - i) 0 ⟨rfl, rfl, rfl, rfl, trivial⟩ (List.Perm.of_eq (List.append_nil _).symm) ⟨Nat.zero_le _, by simp⟩ ?_
  rintro i ⟨hi1, hi2⟩
  dsimp only at hi1 hi2 ⊢
  rcases (show i < l.length ∨ i = l.length from by omega) with hlt | hend
  · have hga := getD_mapG pav [] l i hlt
    refine W.seq ?_
    refine W.region ?_
    refine W.q (Ev.lti (.t rfl) (.t rfl)) rfl ?_
    refine W.nil ?_
    refine W.then ?_
    refine W.seq ?_
    refine W.is (t := 9) (g := true) (av' := .lit (.bool true)) rfl (congrArg (fun b => AV.lit (.bool b)) (by simp; omega)) ?_
    refine W.condT (.t rfl) ?_
    refine W.skip ?_
    refine W.then ?_
    refine W.seq ?_
    refine W.block ?_
    refine W.seq ?_
    refine W.region ?_
    refine W.q (Ev.move (.t rfl)) rfl ?_
    refine W.q (Ev.assign (.t rfl)) rfl ?_
    refine W.nil ?_
    refine W.then ?_
    refine W.seq ?_
    refine W.region ?_
    refine W.q (Ev.move (.t rfl)) rfl ?_
    refine W.q (Ev.move (.t rfl)) rfl ?_
    refine W.q (Ev.move (.t rfl)) rfl ?_
    refine W.q (Ev.at (E := 22) (.t rfl) (.t rfl) Tryz.underlying25 ty22 (fun _ => ⟨by omega, hga⟩) rfl rfl) rfl ?_
    (refine W.q (Ev.lde1 (.t rfl) ag22) rfl ?_)
    refine W.callv (caps := caps) (avs := [_]) (hg (l.getD i []) (getD_memG [] l i hlt)) (.t rfl) ⟨(.t rfl), trivial⟩ rfl ((List.Perm.of_eq (List.append_nil _).symm)) rfl ?_
    rintro _ M' ⟨rfl, hM⟩
    rw [hM, List.append_nil]
    refine W.nil ?_
    refine W.then ?_
    refine W.cond (.t rfl) (fun hc_t16 => ?_) (fun hc_t16 => ?_)
    · have hq := idxI_hit p [] l i hlt hi2 hc_t16
      refine W.seq ?_
      refine W.region ?_
      refine W.q (Ev.move (.t rfl)) rfl ?_
      refine W.q (Ev.assign (.t rfl)) rfl ?_
      refine W.nil ?_
      refine W.then ?_
      refine W.ret ?_
      refine W.blk_ret ?_
      refine W.then_ret ?_
      refine W.then_ret ?_
      refine W.blk_ret ?_
      refine W.then_ret ?_
      refine W.retn (M' := M0) (D := []) (rs := [.tmp 4]) (avs := [_]) Tryz.results50 ⟨rfl, trivial⟩ rfl (List.Perm.of_eq (List.append_nil _).symm) ?_
      exact ⟨congrArg AV.int (by rw [hq]), rfl⟩
    · have hq : p (l.getD i []) = false := hc_t16
      refine W.skip ?_
      refine W.blk_normal ?_
      refine W.then ?_
      refine W.region ?_
      (refine W.q (Ev.add (.t rfl) .k (fun _ => by omega)) rfl ?_)
      refine W.q (Ev.move (.t rfl)) rfl ?_
      refine W.nil ?_
      refine W.then ?_
      refine W.reach (D := []) (i + 1) ⟨rfl, rfl, rfl, rfl, trivial⟩ (List.Perm.of_eq (List.append_nil _).symm) ⟨⟨by omega, ?_⟩, by omega⟩
      rw [take_getDG [] l i hlt]
      intro d hd
      cases List.mem_append.1 hd with
      | inl h => exact hi2 d h
      | inr h => rw [List.mem_singleton.1 h]; exact hq
  · rw [List.take_of_length_le (by omega)] at hi2
    have hq := idxI_miss p l hi2
    refine W.seq ?_
    refine W.region ?_
    refine W.q (Ev.lti (.t rfl) (.t rfl)) rfl ?_
    refine W.nil ?_
    refine W.then ?_
    refine W.seq ?_
    refine W.is (t := 9) (g := true) (av' := .lit (.bool false)) rfl (congrArg (fun b => AV.lit (.bool b)) (by simp; omega)) ?_
    refine W.condF (.t rfl) ?_
    refine W.exit ?_
    refine W.then_exit ?_
    refine W.then_exit ?_
    refine W.blk_hit ?_
    refine W.then ?_
    refine W.seq ?_
    refine W.region ?_
    refine W.q (Ev.assign .k) rfl ?_
    refine W.nil ?_
    refine W.then ?_
    refine W.ret ?_
    refine W.retn (M' := M0) (D := []) (rs := [.tmp 4]) (avs := [_]) Tryz.results50 ⟨rfl, trivial⟩ rfl (List.Perm.of_eq (List.append_nil _).symm) ?_
    exact ⟨congrArg AV.int (by rw [hq]), rfl⟩

theorem c_ContainsFuncR (l : List (List Int)) (g : Nat) (caps : List Value) (M0 : List ME) (p : (List Int) → Bool) (hg : ∀ d ∈ l, FnC Tryz.prog g ([pav d] ++ caps.map .lit) M0 (fun r M => r = .bool (p d) ∧ M = M0)) (hn : l.length ≤ 1099511627776) : FnC Tryz.prog 30 [.sl 1 (l.map pav), .lit (.func (.func g) #[] caps.toArray)] M0 (fun r M => r = .bool (l.any p) ∧ M = M0) :=  by
  refine FnC.mk Tryz.func30 (by kernel_rfl) rfl Tryz.ntmps30 rfl (fun w0 F => ?_)
  refine W.seq ?_
  refine W.region ?_
  refine W.q (Ev.assign .k) rfl ?_
  refine W.nil ?_
  refine W.then ?_
  refine W.seq ?_
  refine W.region ?_
  refine W.q (Ev.move (.t rfl)) rfl ?_
  refine W.q (Ev.move (.t rfl)) rfl ?_
  refine W.call (c_IndexFuncR l g caps M0 p hg hn) ⟨(.t rfl), (.t rfl), trivial⟩ ((List.Perm.of_eq (List.append_nil _).symm)) rfl ?_
  rintro _ M' ⟨rfl, hM⟩
  rw [hM, List.append_nil]
  refine W.q (Ev.gei (.t rfl) .k) rfl ?_
  refine W.q (Ev.assign (.t rfl)) rfl ?_
  refine W.nil ?_
  refine W.then ?_
  refine W.ret ?_
  refine W.retn (M' := M0) (D := []) (rs := [.tmp 4]) (avs := [_]) Tryz.results30 ⟨rfl, trivial⟩ rfl (List.Perm.of_eq (List.append_nil _).symm) ?_
  exact ⟨congrArg AV.bool (idxI_any p l), rfl⟩

end WConts

end Go.Proofs.YtacaemfkdieocaaGreatDoor
end

section
set_option linter.unusedVariables false
set_option linter.unusedSimpArgs false
set_option maxRecDepth 100000
namespace Go.Proofs.YtacaemfkdieocaaGreatDoor
open Go.Vl

namespace WMay
theorem ty3 : Ty Tryz.prog 3 1 8 (.int .i64 0) := Ty.of (by kernel_rfl)
theorem ty25 : Ty Tryz.prog 25 1 24 (.slice none 0 0) := Ty.of (by kernel_rfl)
theorem ty26 : Ty Tryz.prog 26 1 24 (.slice none 0 0) := Ty.of (by kernel_rfl)
theorem ty70 : Ty Tryz.prog 70 1 8 (.nilFunc) := Ty.of (by kernel_rfl)
theorem ag3 : IsAgg Tryz.prog 3 false := ⟨_, Tryz.underlying3, rfl⟩
theorem ag25 : IsAgg Tryz.prog 25 false := ⟨_, Tryz.underlying25, rfl⟩
theorem ag26 : IsAgg Tryz.prog 26 false := ⟨_, Tryz.underlying26, rfl⟩
theorem ag70 : IsAgg Tryz.prog 70 false := ⟨_, Tryz.underlying70, rfl⟩
theorem fa28_0 : FieldAt Tryz.prog 28 0 0 1 false := ⟨_, _, Tryz.underlying28, rfl, rfl, ty25.size, ag25, by decide⟩
theorem fa28_1 : FieldAt Tryz.prog 28 1 1 1 false := ⟨_, _, Tryz.underlying28, rfl, rfl, ty26.size, ag26, by decide⟩
theorem c_May1 (x n : Int) (b3 : Nat) : FnC Tryz.prog 29 [.int x, .lit (.pointer (some ⟨b3, 0, none⟩))] [.box b3 3 [.int n]] (fun r M => r = .bool (decide (x < -1) || decide (n ≤ x)) ∧ M = [.box b3 3 [.int n]]) :=  by
  refine FnC.mk Tryz.func29 (by kernel_rfl) rfl Tryz.ntmps29 rfl (fun w0 F => ?_)
  refine W.seq ?_
  refine W.region ?_
  refine W.q (Ev.assign .k) rfl ?_
  refine W.nil ?_
  refine W.then ?_
  refine W.seq ?_
  refine W.region ?_
  refine W.q (Ev.move (.t rfl)) rfl ?_
  refine W.q (Ev.lti (.t rfl) .k) rfl ?_
  refine W.q (Ev.move (.t rfl)) rfl ?_
  refine W.qgF rfl rfl (Ev.move (.t rfl)) rfl ?_
  (refine W.qgF rfl rfl (Ev.ldb1 0 (.t rfl) rfl ag3 rfl) rfl ?_)
  refine W.qgF rfl rfl (Ev.gei (.c rfl) (.c rfl)) rfl ?_
  refine W.q (Ev.or (.t rfl) ⟨_, _, rfl, rfl, by ((simp; done))⟩) rfl ?_
  refine W.q (Ev.assign (.t rfl)) rfl ?_
  refine W.nil ?_
  refine W.then ?_
  refine W.ret ?_
  refine W.retn (M' := [.box b3 3 [.int n]]) (D := []) (rs := [.tmp 3]) (avs := [_]) Tryz.results29 ⟨rfl, trivial⟩ rfl (.refl _) ?_
  exact ⟨rfl, rfl⟩

theorem c_May2 (p : List Int) (n : Int) (b3 b4 : Nat) (hp : p.length ≤ 8) : FnC Tryz.prog 31 [.sl 1 (p.map AV.int), .lit (.pointer (some ⟨b4, 0, none⟩))] [.box b4 70 [.lit (.func (.func 29) #[] #[.pointer (some ⟨b3, 0, none⟩)])], .box b3 3 [.int n]] (fun r M => r = .bool ((p.length != 8) || p.any fun x => decide (x < -1) || decide (n ≤ x)) ∧ M = [.box b4 70 [.lit (.func (.func 29) #[] #[.pointer (some ⟨b3, 0, none⟩)])], .box b3 3 [.int n]]) :=  by
  refine FnC.mk Tryz.func31 (by kernel_rfl) rfl Tryz.ntmps31 rfl (fun w0 F => ?_)
  refine W.seq ?_
  refine W.region ?_
  refine W.q (Ev.assign .k) rfl ?_
  refine W.nil ?_
  refine W.then ?_
  refine W.seq ?_
  refine W.region ?_
  refine W.q (Ev.move (.t rfl)) rfl ?_
  (refine W.q (Ev.lensl (.t rfl) Tryz.underlying22) rfl ?_)
  refine W.q (Ev.nei (.t rfl) .k) rfl ?_
  refine W.q (Ev.move (.t rfl)) rfl ?_
  refine W.qgF rfl rfl (Ev.move (.t rfl)) rfl ?_
  (refine W.qgF rfl rfl (Ev.ldb1 0 (.t rfl) rfl ag70 rfl) rfl ?_)
  refine W.callgF (Min := _) (caps := []) (avs := [_, _]) rfl rfl (fun hg => WConts.c_ContainsFuncI p 29 [.pointer (some ⟨b3, 0, none⟩)] [.box b3 3 [.int n]] (fun x => decide (x < -1) || decide (n ≤ x)) (fun d _ => c_May1 d n b3) (by omega)) (fun hg => .f) (fun hg => ⟨(.i rfl (fun _ => hg)), (.i rfl (fun _ => hg)), trivial⟩) rfl (List.Perm.swap _ _ []) rfl ?_
  refine W.q (Ev.or (.t rfl) ⟨_, _, rfl, rfl, by ((simp; done))⟩) rfl ?_
  refine W.q (Ev.assign (.t rfl)) rfl ?_
  refine W.nil ?_
  refine W.then ?_
  refine W.ret ?_
  refine W.retn (M' := [.box b4 70 [.lit (.func (.func 29) #[] #[.pointer (some ⟨b3, 0, none⟩)])], .box b3 3 [.int n]]) (D := []) (rs := [.tmp 3]) (avs := [_]) Tryz.results31 ⟨rfl, trivial⟩ rfl (.refl _) ?_
  refine ⟨congrArg AV.bool ?_, rfl⟩
  rw [List.length_map]
  congr 1
  rw [Bool.eq_iff_iff, bne_iff_ne, bne_iff_ne]
  omega

theorem c_May (a : Au) (hs : a.Shape) (hn : a.next.length ≤ 40) : FnP Tryz.prog 17 [.agg [.sl 1 (a.next.map pav), .sl 1 (a.final.map AV.bool)]] (.bool true) :=  by
  refine FnC.mk Tryz.func17 (by kernel_rfl) rfl Tryz.ntmps17 rfl (fun w0 F => ?_)
  have hl1 : (a.next.map pav).length = a.next.length := List.length_map ..
  have hl2 : (a.final.map AV.bool).length = a.final.length := List.length_map ..
  have hfin := hs.fin
  have hpos := hs.pos
  refine W.seq ?_
  refine W.region ?_
  refine W.box (.t rfl) rfl rfl ?_
  intro b1
  refine W.q (Ev.assign .k) rfl ?_
  refine W.nil ?_
  refine W.then ?_
  refine W.seq ?_
  refine W.region ?_
  (refine W.q (Ev.fab (.t rfl) fa28_0) rfl ?_)
  (refine W.q (Ev.ldb1 0 (.t rfl) rfl ag25 rfl) rfl ?_)
  (refine W.q (Ev.lensl (.t rfl) Tryz.underlying25) rfl ?_)
  refine W.alloc ty3 rfl rfl ?_
  intro b3
  (refine W.stb 0 (.t rfl) (.t rfl) rfl ty3 rfl rfl rfl ?_)
  refine W.nil ?_
  refine W.then ?_
  refine W.seq ?_
  refine W.seq ?_
  refine W.region ?_
  (refine W.q (Ev.ldb1 0 (.t rfl) rfl ag3 rfl) rfl ?_)
  refine W.q (Ev.lti (.t rfl) .k) rfl ?_
  refine W.q (Ev.move (.t rfl)) rfl ?_
  (refine W.qgF rfl rfl (Ev.ldb1 0 (.t rfl) rfl ag3 rfl) rfl ?_)
  refine W.qgF rfl rfl (Ev.gti (.c rfl) .k) rfl ?_
  refine W.q (Ev.or (.t rfl) ⟨_, _, rfl, rfl, by ((simp; done))⟩) rfl ?_
  refine W.q (Ev.move (.t rfl)) rfl ?_
  (refine W.qgF rfl rfl (Ev.fab (.t rfl) fa28_1) rfl ?_)
  (refine W.qgF rfl rfl (Ev.ldb1 1 (.c rfl) rfl ag26 rfl) rfl ?_)
  (refine W.qgF rfl rfl (Ev.lensl (.c rfl) Tryz.underlying26) rfl ?_)
  (refine W.qgF rfl rfl (Ev.ldb1 0 (.t rfl) rfl ag3 rfl) rfl ?_)
  refine W.qgF rfl rfl (Ev.nei (.c rfl) (.c rfl)) rfl ?_
  refine W.q (Ev.or (.t rfl) ⟨_, _, rfl, rfl, by ((simp; done))⟩) rfl ?_
  refine W.nil ?_
  refine W.then ?_
  refine W.is (t := 20) (g := true) (av' := .lit (.bool false)) rfl (congrArg (fun b => AV.lit (.bool b)) (by simp; omega)) ?_
  refine W.condF (.t rfl) ?_
  refine W.skip ?_
  refine W.then ?_
  refine W.seq ?_
  refine W.region ?_
  refine W.q (Ev.mkfn (caps := [.tmp 3]) (vs := [_]) ⟨(.t rfl), trivial⟩) rfl ?_
  refine W.alloc ty70 rfl rfl ?_
  intro b4
  (refine W.stb 0 (.t rfl) (.t rfl) rfl ty70 rfl rfl rfl ?_)
  refine W.nil ?_
  refine W.then ?_
  refine W.seq ?_
  refine W.region ?_
  (refine W.q (Ev.fab (.t rfl) fa28_0) rfl ?_)
  (refine W.q (Ev.ldb1 2 (.t rfl) rfl ag25 rfl) rfl ?_)
  refine W.q (Ev.mkfn (caps := [.tmp 4]) (vs := [_]) ⟨(.t rfl), trivial⟩) rfl ?_
  refine W.call (WConts.c_ContainsFuncR a.next 31 [.pointer (some ⟨b4, 0, none⟩)] [.box b4 70 [.lit (.func (.func 29) #[] #[.pointer (some ⟨b3, 0, none⟩)])], .box b3 3 [.int ((a.next.map pav).length : Int)]] (fun p => (p.length != 8) || p.any fun x => decide (x < -1) || decide (((a.next.map pav).length : Int) ≤ x)) (fun d hd => c_May2 d _ b3 b4 (Nat.le_of_eq (hs.mem_row d hd))) (by omega)) ⟨(.t rfl), (.t rfl), trivial⟩ (.refl _) rfl ?_
  rintro _ _ ⟨rfl, rfl⟩
  refine W.q (Ev.not (.t rfl)) rfl ?_
  refine W.q (Ev.assign (.t rfl)) rfl ?_
  refine W.nil ?_
  refine W.then ?_
  refine W.ret ?_
  refine W.retn (M' := []) (D := _) (rs := [.tmp 2]) (avs := [_]) Tryz.results17 ⟨rfl, trivial⟩ rfl (.refl _) ?_
  exact ⟨congrArg AV.bool (by rw [hl1, hs.any_ok]; rfl), rfl⟩

end WMay

end Go.Proofs.YtacaemfkdieocaaGreatDoor
end

section
set_option linter.unusedVariables false
set_option linter.unusedSimpArgs false
namespace Go.Vl
namespace Au
def eqb (a b : Au) : Bool := decide (a.next = b.next) && decide (a.final = b.final)
theorem eqb_iff (a b : Au) : eqb a b = true ↔ a = b := by
  cases a; cases b
  simp only [eqb, Bool.and_eq_true, decide_eq_true_eq, Au.mk.injEq]
theorem eqb_eq {a b : Au} (h : a = b) : eqb a b = true := (eqb_iff a b).2 h
theorem eqb_ne {a b : Au} (h : a ≠ b) : eqb a b = false := Bool.eq_false_iff.2 fun e => h ((eqb_iff a b).1 e)
theorem eq_of {a b : Au} (ha : a.Shape) (hb : b.Shape) (hl : a.next.length = b.next.length) (h : ∀ j, j < a.next.length → a.next.getD j [] = b.next.getD j [] ∧ a.final.getD j false = b.final.getD j false) : a = b := by
  have h1 : a.next = b.next := list_ext [] hl fun i hi => (h i hi).1
  have h2 : a.final = b.final := list_ext false (by rw [ha.fin, hb.fin, hl]) fun i hi => (h i (by rw [← ha.fin]; exact hi)).2
  cases a; cases b
  simp only at h1 h2
  rw [h1, h2]
end Au
namespace Lg
end Lg
namespace It
end It
end Go.Vl
end

section
set_option linter.unusedVariables false
set_option linter.unusedSimpArgs false
set_option maxRecDepth 100000
namespace Go.Proofs.YtacaemfkdieocaaGreatDoor
open Go.Vl

namespace WMake
theorem ty28 : Ty Tryz.prog 28 2 48 (.agg #[.slice none 0 0, .slice none 0 0]) := Ty.of (by kernel_rfl)
theorem ty43 : Ty Tryz.prog 43 3 40 (.agg #[.int .i64 0, .int .i64 0, .slice none 0 0]) := Ty.of (by kernel_rfl)
theorem ag28 : IsAgg Tryz.prog 28 true := ⟨_, Tryz.underlying28, rfl⟩
theorem ag43 : IsAgg Tryz.prog 43 true := ⟨_, Tryz.underlying43, rfl⟩
theorem c_Make (s : List It) (a : List (List It)) (hs : It.oks s) (ha : It.oka a) (hl : (It.stx s ++ It.atl a).length ≤ 40) (hlv : It.snl s + It.anl a ≤ 6) (hw : Lg.Wid (Lg.alt (It.slg s) (It.alg a)) 5) (M0 : List ME) (hI : ∀ n : Int, -1 ≤ n → n < 100 → FnC Tryz.prog 68 [.int n] M0 (fun r M => r = .str (itoa n) ∧ M = M0)) : FnC Tryz.prog 16 [(It.al s a).avx] M0 (fun r M => ∃ m : Au, m.Ord ∧ m.next.length ≤ 32 ∧ (∀ u, m.acc 0 u ↔ (Lg.alt (It.slg s) (It.alg a)) u) ∧ r = .tup [.agg [.sl 1 (m.next.map pav), .sl 1 (m.final.map AV.bool)], .int 0] ∧ M = M0) :=  by
  refine FnC.mk Tryz.func16 (by kernel_rfl) rfl Tryz.ntmps16 rfl (fun w0 F => ?_)
  have hsz : ∀ d : Au, d.Ord → (∀ u, d.acc 0 u ↔ (Lg.alt (It.slg s) (It.alg a)) u) → d.next.length ≤ 32 := fun d hd he => hd.size (m := 5) (by rw [show d.acc 0 = (Lg.alt (It.slg s) (It.alg a)) from funext fun u => propext (he u)]; exact hw)
  have hok := It.al_ok s a hs ha
  have hlen := It.al_len s a hs ha
  have hxz := It.al_sz s a
  have hlva := It.lv_al s a
  have hlg := It.lg_al s a
  generalize It.al s a = x at *
  refine W.seq ?_
  refine W.region ?_
  refine W.box (.t rfl) rfl rfl ?_
  intro b1
  refine W.alloc ty28 rfl rfl ?_
  intro b2
  refine W.q (Ev.assign .k) rfl ?_
  refine W.nil ?_
  refine W.then ?_
  refine W.seq ?_
  refine W.seq ?_
  refine W.region ?_
  (refine W.q (Ev.ldbn 1 (.t rfl) rfl ag43 ty43 rfl) rfl ?_)
  refine W.callp (WParse3.c_Check x hok (by omega) (by omega)) ⟨(.t rfl), trivial⟩ rfl ?_
  refine W.q (Ev.assign (.t rfl)) rfl ?_
  refine W.nil ?_
  refine W.then ?_
  refine W.seq ?_
  refine W.region ?_
  refine W.q (Ev.move (.t rfl)) rfl ?_
  refine W.q (Ev.nei (.t rfl) .k) rfl ?_
  refine W.nil ?_
  refine W.then ?_
  refine W.is (t := 8) (g := true) (av' := .lit (.bool false)) rfl (congrArg (fun b => AV.lit (.bool b)) (by rfl)) ?_
  refine W.condF (.t rfl) ?_
  refine W.skip ?_
  refine W.then ?_
  refine W.seq ?_
  refine W.region ?_
  (refine W.q (Ev.ldbn 1 (.t rfl) rfl ag43 ty43 rfl) rfl ?_)
  refine W.call (WSets.c_sets x hok (by omega) (by omega)) ⟨(.t rfl), trivial⟩ (.refl _) rfl ?_
  rintro _ _ ⟨rfl, w, hwS, hwl, hwu, rfl⟩
  refine W.call (WOrder.c_order w hwS (by omega) M0 hI (fun d hd he => Nat.le_trans (hsz d hd fun u => (he u).trans ((hwu u).trans (by rw [hlg]))) (by decide))) ⟨(.t rfl), trivial⟩ ((List.perm_append_comm (l₁ := [_, _]))) rfl ?_
  rintro _ M' ⟨d, hd, hdu, rfl, hM'⟩
  rw [hM']
  refine W.perm (List.perm_append_comm (l₂ := [_, _])) ?_
  refine W.q (Ev.extract (.t rfl) rfl) rfl ?_
  refine W.q (Ev.extract (.t rfl) rfl) rfl ?_
  (refine W.stb 0 (.t rfl) (.t rfl) rfl ty28 rfl rfl rfl ?_)
  refine W.q (Ev.assign (.t rfl)) rfl ?_
  refine W.nil ?_
  refine W.then ?_
  refine W.ret ?_
  refine W.retn (M' := M0) (D := _) (rs := [.cell 2 28, .tmp 3]) (avs := [_, _]) Tryz.results16 ⟨⟨_, _, _, rfl, by repeat ((exact List.mem_cons_self)), rfl, by funext w; exact ag28.run w, by funext w; exact ty28.size w⟩, rfl, trivial⟩ rfl (List.perm_append_comm (l₁ := [_, _])) ?_
  have hdu2 := fun u => (hdu u).trans ((hwu u).trans (by rw [hlg]))
  exact ⟨d, hd, hsz d hd hdu2, hdu2, rfl, rfl⟩

theorem c_machine (s : List It) (a : List (List It)) (hs : It.oks s) (ha : It.oka a) (hlv : It.snl s + It.anl a ≤ 6) (hw : Lg.Wid (Lg.alt (It.slg s) (It.alg a)) 5) (t : List UInt8) (e : t = It.stx s ++ It.atl a) (hl : t.length ≤ 40) (M0 : List ME) (hI : ∀ n : Int, -1 ≤ n → n < 100 → FnC Tryz.prog 68 [.int n] M0 (fun r M => r = .str (itoa n) ∧ M = M0)) : FnC Tryz.prog 7 [.str t] M0 (fun r M => ∃ m : Au, m.Ord ∧ m.next.length ≤ 32 ∧ (∀ u, m.acc 0 u ↔ (Lg.alt (It.slg s) (It.alg a)) u) ∧ r = .tup [.agg [.sl 1 (m.next.map pav), .sl 1 (m.final.map AV.bool)], .bool true] ∧ M = M0) :=  by
  refine FnC.mk Tryz.func7 (by kernel_rfl) rfl Tryz.ntmps7 rfl (fun w0 F => ?_)
  refine W.seq ?_
  refine W.region ?_
  refine W.alloc ty28 rfl rfl ?_
  intro b2
  refine W.q (Ev.assign .k) rfl ?_
  refine W.nil ?_
  refine W.then ?_
  refine W.seq ?_
  refine W.region ?_
  refine W.q (Ev.move (.t rfl)) rfl ?_
  refine W.callp (WWords.c_of t s a hs ha e hl) ⟨(.t rfl), trivial⟩ rfl ?_
  refine W.q (Ev.move (.t rfl)) rfl ?_
  refine W.q (Ev.extract (.t rfl) rfl) rfl ?_
  refine W.q (Ev.extract (.t rfl) rfl) rfl ?_
  refine W.alloc ty43 rfl rfl ?_
  intro b4
  (refine W.stb 0 (.t rfl) (.t rfl) rfl ty43 rfl rfl rfl ?_)
  refine W.q (Ev.assign (.t rfl)) rfl ?_
  refine W.nil ?_
  refine W.then ?_
  refine W.seq ?_
  refine W.region ?_
  (refine W.q (Ev.ldbn 0 (.t rfl) rfl ag43 ty43 rfl) rfl ?_)
  refine W.call (c_Make s a hs ha (by rw [← e]; exact hl) hlv hw M0 hI) ⟨(.t rfl), trivial⟩ ((List.perm_append_comm (l₁ := [_, _]))) rfl ?_
  rintro _ M' ⟨m, hm, hml, hmu, rfl, hM'⟩
  rw [hM']
  refine W.perm (List.perm_append_comm (l₂ := [_, _])) ?_
  refine W.q (Ev.move (.t rfl)) rfl ?_
  refine W.q (Ev.extract (.t rfl) rfl) rfl ?_
  refine W.q (Ev.extract (.t rfl) rfl) rfl ?_
  refine W.alloc ty28 rfl rfl ?_
  intro b6
  (refine W.stb 0 (.t rfl) (.t rfl) rfl ty28 rfl rfl rfl ?_)
  refine W.q (Ev.assign (.t rfl)) rfl ?_
  refine W.nil ?_
  refine W.then ?_
  refine W.seq ?_
  refine W.drawnE (ι := Unit) (fun ee _ => .box b6 28 [.sl 1 (m.next.map pav), .sl 1 (m.final.map AV.bool)] :: .box b4 43 (It.al s a).avx.cells :: .box b2 28 (bif ee 10 then [.sl 1 (m.next.map pav), .sl 1 (m.final.map AV.bool)] else [.lit (.slice none 0 0), .lit (.slice none 0 0)]) :: M0) 12 () (by kernel_rfl) (by kernel_rfl) rfl ?_
  (refine DE.q (fun e c hk => (Ev.ldbn 0 (.t rfl) rfl ag28 ty28 rfl)) rfl (fun _ _ => rfl) (by (exact .inr (fun _ _ => rfl))) ?_)
  refine DE.q (fun e c hk => (Ev.move (.t rfl))) rfl (fun _ _ => rfl) (by (exact .inr (fun _ _ => rfl))) ?_
  refine DE.q (fun e c hk => (Ev.move (.t rfl))) rfl (fun _ _ => rfl) (by (exact .inr (fun _ _ => rfl))) ?_
  refine DE.qg rfl (fun _ => rfl) (fun e c hk => (Ev.move (.t rfl))) rfl (fun _ _ => rfl) (by (exact .inr (fun _ _ => rfl))) ?_
  refine DE.qg rfl (fun _ => rfl) (fun e c hk => (Ev.eqi (.c rfl) .k)) rfl (fun _ _ => rfl) (by (exact .inr (fun _ _ => rfl))) ?_
  refine DE.q (fun e c hk => (Ev.and (.t rfl) ⟨_, _, rfl, rfl, by ((simp; done))⟩)) rfl (fun _ _ => rfl) (by (exact .inr (fun _ _ => rfl))) ?_
  refine DE.q (fun e c hk => (Ev.move (.t rfl))) rfl (fun _ _ => rfl) (by (exact .inr (fun _ _ => rfl))) ?_
  (refine DE.qg rfl (fun _ => rfl) (fun e c hk => (Ev.ldbn 0 (.t rfl) rfl ag28 ty28 rfl)) rfl (fun _ _ => rfl) (by (exact .inr (fun _ _ => rfl))) ?_)
  refine DE.callg rfl (fun _ => rfl) (fun c hg => WMay.c_May m hm.shape (by omega)) (fun c hg => ⟨(.i rfl (fun _ => hg)), trivial⟩) rfl (fun _ _ => rfl) (by (exact .inr (fun _ _ => rfl))) ?_
  refine DE.q (fun e c hk => (Ev.and (.t rfl) ⟨_, _, rfl, rfl, by ((simp; done))⟩)) rfl (fun _ _ => rfl) (by (exact .inr (fun _ _ => rfl))) ?_
  refine DE.eff0 (fun e c hk L_ hs Q h => ?_) ?_
  · have hk_10 := hk.not
    simp only [addE, hk_10, Nat.reduceAdd, Nat.reduceEqDiff, ↓reduceIte, cond_true, cond_false] at h ⊢
    ((refine W.stb 2 (.t (hs _ _ rfl)) (.t (hs _ _ rfl)) rfl ty28 rfl rfl rfl ?_; exact h))
  refine DE.q (fun e c hk => (Ev.assign (.t rfl))) rfl (fun _ _ => rfl) (by (exact .inr (fun _ _ => rfl))) ?_
  refine DE.nil (fun c_ e_ he_ => ?_)
  simp only [he_ 10 (by decide), cond_true, cond_false]
  refine W.then ?_
  refine W.ret ?_
  refine W.retn (M' := M0) (D := _) (rs := [.cell 2 28, .tmp 3]) (avs := [_, _]) Tryz.results7 ⟨⟨_, _, _, rfl, by repeat (first | exact List.mem_cons_self | apply List.mem_cons_of_mem), rfl, by funext w; exact ag28.run w, by funext w; exact ty28.size w⟩, rfl, trivial⟩ rfl (List.perm_append_comm (l₁ := [_, _, _])) ?_
  exact ⟨m, hm, hml, hmu, rfl, rfl⟩

theorem c_mk (s : List It) (a : List (List It)) (hs : It.oks s) (ha : It.oka a) (hlv : It.snl s + It.anl a ≤ 6) {L : Lg} (hL : Lg.alt (It.slg s) (It.alg a) = L) (hw : Lg.Wid L 5) (t : List UInt8) (e : t = It.stx s ++ It.atl a) (hl : t.length ≤ 40) (M0 : List ME) (hI : ∀ n : Int, -1 ≤ n → n < 100 → FnC Tryz.prog 68 [.int n] M0 (fun r M => r = .str (itoa n) ∧ M = M0)) : FnC Tryz.prog 7 [.str t] M0 (fun r M => ∃ m : Au, m.Ord ∧ m.next.length ≤ 32 ∧ (∀ u, m.acc 0 u ↔ (L) u) ∧ r = .tup [.agg [.sl 1 (m.next.map pav), .sl 1 (m.final.map AV.bool)], .bool true] ∧ M = M0) := by
  subst hL
  exact c_machine s a hs ha hlv hw t e hl M0 hI
end WMake

end Go.Proofs.YtacaemfkdieocaaGreatDoor
end
