/-
  Merged: WCount Law8 Law9 ShelfB Copy Raw Norm Glu Que Plc Add.
-/
import Derived.Test.YtacaemfkdieocaaDoorG5
import Derived.Below
import Derived.Lib.Join
import Derived.Lib.Overlaps
import Derived.Laws.Externs
import Derived.Sort.OwnSortedInts
import Derived.Lib.LaidTab
import Derived.Lib.ItoaNum
import Derived.Lib.SlicesCompact

section
set_option linter.unusedVariables false
set_option linter.unusedSimpArgs false
set_option maxRecDepth 100000
namespace Go.Proofs.YtacaemfkdieocaaDoor
open Go.Vl

namespace WCount
theorem ty3 : Ty Tryd.prog 3 1 8 (.int .i64 0) := Ty.of (by kernel_rfl)
theorem ty4 : Ty Tryd.prog 4 1 1 (.bool false) := Ty.of (by kernel_rfl)
theorem ty22 : Ty Tryd.prog 22 1 24 (.slice none 0 0) := Ty.of (by kernel_rfl)
theorem ty25 : Ty Tryd.prog 25 1 24 (.slice none 0 0) := Ty.of (by kernel_rfl)
theorem ty26 : Ty Tryd.prog 26 1 24 (.slice none 0 0) := Ty.of (by kernel_rfl)
theorem ty28 : Ty Tryd.prog 28 2 48 (.agg #[.slice none 0 0, .slice none 0 0]) := Ty.of (by kernel_rfl)
theorem ag3 : IsAgg Tryd.prog 3 false := ⟨_, Tryd.underlying3, rfl⟩
theorem ag4 : IsAgg Tryd.prog 4 false := ⟨_, Tryd.underlying4, rfl⟩
theorem ag22 : IsAgg Tryd.prog 22 false := ⟨_, Tryd.underlying22, rfl⟩
theorem ag25 : IsAgg Tryd.prog 25 false := ⟨_, Tryd.underlying25, rfl⟩
theorem ag26 : IsAgg Tryd.prog 26 false := ⟨_, Tryd.underlying26, rfl⟩
theorem ag28 : IsAgg Tryd.prog 28 true := ⟨_, Tryd.underlying28, rfl⟩
theorem fa28_0 : FieldAt Tryd.prog 28 0 0 1 false := ⟨_, _, Tryd.underlying28, rfl, rfl, ty25.size, ag25, by decide⟩
theorem fa28_1 : FieldAt Tryd.prog 28 1 1 1 false := ⟨_, _, Tryd.underlying28, rfl, rfl, ty26.size, ag26, by decide⟩
theorem c_Count (a : Au) (hs : a.Shape) (hn : a.next.length ≤ 40) (long : Nat) (hlong : long ≤ 12) : FnP Tryd.prog 13 [.agg [.sl 1 (a.next.map pav), .sl 1 (a.final.map AV.bool)], .int (long : Int)] (.tup [.int (Au.cnt a long 0 : Int), .int 0]) :=  by
  refine FnC.mk Tryd.func13 (by kernel_rfl) rfl Tryd.ntmps13 rfl (fun w0 F => ?_)
  have hpos := hs.pos
  have hfin := hs.fin
  have hnl : (a.next.map pav).length = a.next.length := List.length_map ..
  have hfl : (a.final.map AV.bool).length = a.final.length := List.length_map ..
  refine W.seq ?_
  refine W.region ?_
  refine W.box (.t rfl) rfl rfl ?_
  intro b2
  refine W.q (Ev.assign .k) rfl ?_
  refine W.q (Ev.assign .k) rfl ?_
  refine W.nil ?_
  refine W.then ?_
  refine W.seq ?_
  refine W.block ?_
  refine W.seq ?_
  refine W.region ?_
  (refine W.q (Ev.ldbn 0 (.t rfl) rfl ag28 ty28 rfl) rfl ?_)
  refine W.callp (WMay.c_May a hs hn) ⟨(.t rfl), trivial⟩ rfl ?_
  refine W.q (Ev.not (.t rfl)) rfl ?_
  refine W.q (Ev.assign (.t rfl)) rfl ?_
  refine W.nil ?_
  refine W.then ?_
  refine W.is (t := 15) (g := true) (av' := .lit (.bool false)) rfl (congrArg (fun b => AV.lit (.bool b)) (by rfl)) ?_
  refine W.condF (.t rfl) ?_
  refine W.seq ?_
  refine W.region ?_
  refine W.q (Ev.move (.t rfl)) rfl ?_
  refine W.q (Ev.lti (.t rfl) .k) rfl ?_
  refine W.q (Ev.move (.t rfl)) rfl ?_
  refine W.qgF rfl rfl (Ev.move (.t rfl)) rfl ?_
  refine W.qgF rfl rfl (Ev.gti (.c rfl) .k) rfl ?_
  refine W.q (Ev.or (.t rfl) ⟨_, _, rfl, rfl, by ((simp; done))⟩) rfl ?_
  refine W.q (Ev.assign (.t rfl)) rfl ?_
  refine W.nil ?_
  refine W.then ?_
  refine W.is (t := 19) (g := true) (av' := .lit (.bool false)) rfl (congrArg (fun b => AV.lit (.bool b)) (by simp; omega)) ?_
  refine W.condF (.t rfl) ?_
  refine W.skip ?_
  refine W.blk_normal ?_
  refine W.then ?_
  refine W.seq ?_
  refine W.region ?_
  (refine W.q (Ev.fab (.t rfl) fa28_0) rfl ?_)
  (refine W.q (Ev.ldb1 0 (.t rfl) rfl ag25 rfl) rfl ?_)
  (refine W.q (Ev.lensl (.t rfl) Tryd.underlying25) rfl ?_)
  refine W.mk (.t rfl) (.t rfl) Tryd.underlying22 ty3 rfl rfl rfl rfl rfl (by omega) rfl ?_
  intro v29
  refine W.q (Ev.assign (.t rfl)) rfl ?_
  refine W.nil ?_
  refine W.then ?_
  refine W.seq ?_
  refine W.region ?_
  refine W.q (Ev.move (.t rfl)) rfl ?_
  refine W.q (Ev.ata 0 (.t rfl) rfl .k Tryd.underlying22 ty3 (fun _ => by rw [List.length_replicate]; omega)) rfl ?_
  refine W.sta 0 0 0 (e := AV.int 0) (e' := AV.int 1) (.t rfl) .k rfl (by rw [List.getElem?_replicate, if_pos (by omega)]; rfl) rfl ty3 rfl rfl rfl rfl rfl rfl rfl ?_
  refine W.nil ?_
  refine W.then ?_
  refine W.seq ?_
  refine W.seq ?_
  refine W.region ?_
  refine W.q (Ev.move (.t rfl)) rfl ?_
  refine W.q (Ev.move .k) rfl ?_
  refine W.nil ?_
  refine W.then ?_
  refine W.block ?_
  refine W.loop (D := []) (ι := Nat × (Nat → Nat) × Value) (fun z => [(33, true, .int (z.1 : Int)), (32, true, .int (long : Int)), (6, true, .lit z.2.2), (2, true, .lit (.pointer (some ⟨b2, 0, none⟩)))]) (fun z => [.arr z.2.2 3 1 (rowI a.next.length (fun k => (z.2.1 k : Int))), .box b2 28 [.sl 1 (a.next.map pav), .sl 1 (a.final.map AV.bool)]]) (fun z => Au.Wy a long z.1 z.2.1 ∧ z.1 ≤ long) (fun z => long - z.1) (0, (fun k => if k = 0 then 1 else 0), v29) ⟨rfl, rfl, rfl, rfl, trivial⟩ (by dsimp only; rw [← rowN_start, ← hnl]; exact .refl _) ⟨Au.Wy.start hpos long, Nat.zero_le _⟩ ?_
  rintro ⟨k, w, v⟩ ⟨hW, hk⟩
  dsimp only at hW hk ⊢
  have hk12 : k ≤ 12 := by omega
  rcases (show k < long ∨ k = long from by omega) with hk | hend
  · skip
    refine W.seq ?_
    refine W.region ?_
    refine W.q (Ev.lti (.t rfl) (.t rfl)) rfl ?_
    refine W.nil ?_
    refine W.then ?_
    refine W.seq ?_
    refine W.is (t := 34) (g := true) (av' := .lit (.bool true)) rfl (congrArg (fun b => AV.lit (.bool b)) (by exact decide_eq_true (by omega))) ?_
    refine W.condT (.t rfl) ?_
    refine W.skip ?_
    refine W.then ?_
    refine W.seq ?_
    refine W.block ?_
    refine W.seq ?_
    refine W.region ?_
    refine W.q (Ev.move (.t rfl)) rfl ?_
    (refine W.q (Ev.lenar (i := 0) (.t rfl) rfl Tryd.underlying22) rfl ?_)
    refine W.is (t := 36) (g := true) (av' := .int (a.next.length : Int)) rfl (by rw [rowI_len]) ?_
    refine W.mk (.t rfl) (.t rfl) Tryd.underlying22 ty3 rfl rfl rfl rfl rfl (by omega) rfl ?_
    intro v37
    refine W.q (Ev.assign (.t rfl)) rfl ?_
    refine W.nil ?_
    refine W.then ?_
    refine W.seq ?_
    refine W.seq ?_
    refine W.region ?_
    (refine W.q (Ev.fab (.t rfl) fa28_0) rfl ?_)
    (refine W.q (Ev.ldb1 2 (.t rfl) rfl ag25 rfl) rfl ?_)
    (refine W.q (Ev.lensl (.t rfl) Tryd.underlying25) rfl ?_)
    refine W.q (Ev.move .k) rfl ?_
    refine W.nil ?_
    refine W.then ?_
    refine W.block ?_
    refine W.loop (D := []) (ι := Nat × (Nat → Nat)) (fun z => [(41, true, .int (z.1 : Int)), (40, true, .int ((a.next.map pav).length : Int)), (39, true, .sl 1 (a.next.map pav)), (7, true, .lit v37), (33, true, .int (k : Int)), (32, true, .int (long : Int)), (6, true, .lit v), (2, true, .lit (.pointer (some ⟨b2, 0, none⟩)))]) (fun z => [.arr v37 3 1 (rowI a.next.length (fun k => (z.2 k : Int))), .arr v 3 1 (rowI a.next.length (fun k => (w k : Int))), .box b2 28 [.sl 1 (a.next.map pav), .sl 1 (a.final.map AV.bool)]]) (fun z => Au.Ct a w z.2 (long - (k + 1)) z.1 0 ∧ z.1 ≤ a.next.length) (fun z => a.next.length - z.1) (0, fun _ => 0) ⟨rfl, rfl, rfl, rfl, rfl, rfl, rfl, rfl, trivial⟩ (by dsimp only; rw [show rowI a.next.length (fun _ => ((0 : Nat) : Int)) = List.replicate a.next.length (AV.int 0) from (rowI_rep _).symm]; exact .refl _) ⟨Au.Ct.start a w _, Nat.zero_le _⟩ ?_
    rintro ⟨i, g⟩ ⟨hC, hi⟩
    dsimp only at hC hi ⊢
    rcases (show i < a.next.length ∨ i = a.next.length from by omega) with hi | hend
    · have hgr := getD_mapG pav [] a.next i hi
      have hrow := hs.row i hi
      refine W.seq ?_
      refine W.region ?_
      refine W.q (Ev.lti (.t rfl) (.t rfl)) rfl ?_
      refine W.nil ?_
      refine W.then ?_
      refine W.seq ?_
      refine W.is (t := 42) (g := true) (av' := .lit (.bool true)) rfl (congrArg (fun b => AV.lit (.bool b)) (by exact decide_eq_true (by omega))) ?_
      refine W.condT (.t rfl) ?_
      refine W.skip ?_
      refine W.then ?_
      refine W.seq ?_
      refine W.block ?_
      refine W.seq ?_
      refine W.region ?_
      refine W.q (Ev.move (.t rfl)) rfl ?_
      refine W.q (Ev.at (E := 22) (.t rfl) (.t rfl) Tryd.underlying25 ty22 (fun _ => ⟨by omega, hgr⟩) rfl rfl) rfl ?_
      (refine W.q (Ev.lde1 (.t rfl) ag22) rfl ?_)
      refine W.q (Ev.assign (.t rfl)) rfl ?_
      refine W.q (Ev.assign (.t rfl)) rfl ?_
      refine W.nil ?_
      refine W.then ?_
      refine W.seq ?_
      refine W.region ?_
      refine W.q (Ev.move (.t rfl)) rfl ?_
      (refine W.q (Ev.lensl (.t rfl) Tryd.underlying22) rfl ?_)
      refine W.is (t := 47) (g := true) (av' := .int 8) rfl (by rw [List.length_map, hrow]; rfl) ?_
      refine W.q (Ev.move .k) rfl ?_
      refine W.nil ?_
      refine W.then ?_
      refine W.block ?_
      refine W.loop (D := []) (ι := Nat × (Nat → Nat)) (fun z => [(48, true, .int (z.1 : Int)), (47, true, .int 8), (46, true, .sl 1 ((a.next.getD i []).map AV.int)), (8, true, .int (i : Int)), (41, true, .int (i : Int)), (40, true, .int ((a.next.map pav).length : Int)), (39, true, .sl 1 (a.next.map pav)), (7, true, .lit v37), (33, true, .int (k : Int)), (32, true, .int (long : Int)), (6, true, .lit v), (2, true, .lit (.pointer (some ⟨b2, 0, none⟩)))]) (fun z => [.arr v37 3 1 (rowI a.next.length (fun k => (z.2 k : Int))), .arr v 3 1 (rowI a.next.length (fun k => (w k : Int))), .box b2 28 [.sl 1 (a.next.map pav), .sl 1 (a.final.map AV.bool)]]) (fun z => Au.Ct a w z.2 (long - (k + 1)) i z.1 ∧ z.1 ≤ 8) (fun z => 8 - z.1) (0, g) ⟨rfl, rfl, rfl, rfl, rfl, rfl, rfl, rfl, rfl, rfl, rfl, rfl, trivial⟩ (.refl _) ⟨hC, Nat.zero_le _⟩ ?_
      clear hC g
      rintro ⟨d, g⟩ ⟨hC, hd⟩
      dsimp only at hC hd ⊢
      rcases (show d < 8 ∨ d = 8 from by omega) with hd8 | hend
      · have hgx := getD_map (a.next.getD i []) d (by omega)
        have hgt : (a.next.getD i []).getD d 0 = a.to (i : Int) (d : Int) := by have := Au.to_get a (i : Int) (d : Int) (by rw [Int.toNat_natCast, Int.toNat_natCast]; omega); rwa [Int.toNat_natCast, Int.toNat_natCast] at this
        have hto := Au.to_range hs (i := (i : Int)) (c := (d : Int)) (by omega) (by omega) (by omega) (by omega)
        refine W.seq ?_
        refine W.region ?_
        refine W.q (Ev.lti (.t rfl) (.t rfl)) rfl ?_
        refine W.nil ?_
        refine W.then ?_
        refine W.seq ?_
        refine W.is (t := 49) (g := true) (av' := .lit (.bool true)) rfl (congrArg (fun b => AV.lit (.bool b)) (by exact decide_eq_true (by omega))) ?_
        refine W.condT (.t rfl) ?_
        refine W.skip ?_
        refine W.then ?_
        refine W.seq ?_
        refine W.block ?_
        refine W.seq ?_
        refine W.region ?_
        refine W.q (Ev.at (E := 3) (.t rfl) (.t rfl) Tryd.underlying22 ty3 (fun _ => ⟨by omega, hgx⟩) rfl rfl) rfl ?_
        (refine W.q (Ev.lde1 (.t rfl) ag3) rfl ?_)
        refine W.is (t := 51) (g := true) (av' := .int (a.to (i : Int) (d : Int))) rfl (congrArg AV.int hgt) ?_
        refine W.q (Ev.assign (.t rfl)) rfl ?_
        refine W.nil ?_
        refine W.then ?_
        refine W.seq ?_
        refine W.region ?_
        refine W.q (Ev.move (.t rfl)) rfl ?_
        refine W.q (Ev.gei (.t rfl) .k) rfl ?_
        refine W.nil ?_
        refine W.then ?_
        refine W.cond (.t rfl) (fun hc_t53 => ?_) (fun hc_t53 => ?_)
        · have h53 : 0 ≤ a.to (i : Int) (d : Int) := of_decide_eq_true hc_t53
          have hb1 := Au.Ct.le hW hk12 hC hi hd8 (t := (a.to (i : Int) (d : Int)).toNat) (by omega)
          have hb2 := hW.le hk12 hi
          refine W.drawnE (ι := Unit) (fun ee _ => [bif ee 10 then .arr v37 3 1 (rowI a.next.length (fun k => (((fun k => if k = (a.to (i : Int) (d : Int)).toNat then g k + w i else g k) k : Nat) : Int))) else .arr v37 3 1 (rowI a.next.length (fun k => (g k : Int))), .arr v 3 1 (rowI a.next.length (fun k => (w k : Int))), .box b2 28 [.sl 1 (a.next.map pav), .sl 1 (a.final.map AV.bool)]]) 11 () (by kernel_rfl) (by kernel_rfl) rfl ?_
          refine DE.q (fun e c hk => (Ev.move (.t rfl))) rfl (fun _ _ => rfl) (by (exact .inr (fun _ _ => rfl))) ?_
          refine DE.q (fun e c hk => (Ev.move (.t rfl))) rfl (fun _ _ => rfl) (by (exact .inr (fun _ _ => rfl))) ?_
          refine DE.q (av := fun _ => .aptr v37 ((a.to (i : Int) (d : Int)).toNat * 1)) (fun e c hk => by have h := hk.down 10 (by kernel_rfl); simp only [h, cond_false]; exact Ev.ata 0 (.t rfl) rfl (.t rfl) Tryd.underlying22 ty3 (fun _ => by rw [rowI_len]; omega)) rfl (fun _ _ => rfl) (by (exact .inr (fun _ _ => rfl))) ?_
          refine DE.q (av := fun _ => .int (g (a.to (i : Int) (d : Int)).toNat : Int)) (fun e c hk => by have h := hk.down 10 (by kernel_rfl); simp only [h, cond_false]; exact Ev.lda1 0 (a.to (i : Int) (d : Int)).toNat 0 (.t rfl) rfl (rowI_get (by omega)) (by omega) rfl rfl rfl ag3) rfl (fun _ _ => rfl) (by (exact .inr (fun _ _ => rfl))) ?_
          refine DE.q (fun e c hk => (Ev.move (.t rfl))) rfl (fun _ _ => rfl) (by (exact .inr (fun _ _ => rfl))) ?_
          refine DE.q (fun e c hk => (Ev.move (.t rfl))) rfl (fun _ _ => rfl) (by (exact .inr (fun _ _ => rfl))) ?_
          refine DE.q (fun e c hk => Ev.ata 1 (.t rfl) rfl (.t rfl) Tryd.underlying22 ty3 (fun _ => by rw [rowI_len]; omega)) rfl (fun _ _ => rfl) (by (exact .inr (fun _ _ => rfl))) ?_
          refine DE.q (fun e c hk => Ev.lda1 1 i 0 (.t rfl) rfl (rowI_get hi) (by omega) rfl rfl rfl ag3) rfl (fun _ _ => rfl) (by (exact .inr (fun _ _ => rfl))) ?_
          (refine DE.q (fun e c hk => (Ev.add (.t rfl) (.t rfl) (fun _ => by omega))) rfl (fun _ _ => rfl) (by (exact .inr (fun _ _ => rfl))) ?_)
          refine DE.q (av := fun _ => .aptr v37 ((a.to (i : Int) (d : Int)).toNat * 1)) (fun e c hk => by have h := hk.down 10 (by kernel_rfl); simp only [h, cond_false]; exact Ev.ata 0 (.t rfl) rfl (.t rfl) Tryd.underlying22 ty3 (fun _ => by rw [rowI_len]; omega)) rfl (fun _ _ => rfl) (by (exact .inr (fun _ _ => rfl))) ?_
          refine DE.eff0 (fun e c hk L_ hs_ Q h => ?_) ?_
          · have hk_10 := hk.not
            simp only [addE, hk_10, Nat.reduceAdd, Nat.reduceEqDiff, ↓reduceIte, cond_true, cond_false] at h ⊢
            refine W.sta 0 (a.to (i : Int) (d : Int)).toNat 0 (e := AV.int (g (a.to (i : Int) (d : Int)).toNat : Int)) (e' := AV.int ((g (a.to (i : Int) (d : Int)).toNat : Int) + (w i : Int))) (.t (hs_ _ _ rfl)) (.t (hs_ _ _ rfl)) rfl (rowI_get (by omega)) (by omega) ty3 rfl rfl rfl rfl rfl rfl rfl ?_
            rw [rowN_set]
            exact h
          refine DE.nil (fun c_ e_ he_ => ?_)
          simp only [he_ 10 (by decide), cond_true, cond_false]
          refine W.blk_normal ?_
          refine W.then ?_
          refine W.region ?_
          (refine W.q (Ev.add (.t rfl) .k (fun _ => by omega)) rfl ?_)
          refine W.q (Ev.move (.t rfl)) rfl ?_
          refine W.nil ?_
          refine W.then ?_
          refine W.reach (D := []) (d + 1, (fun k => if k = (a.to (i : Int) (d : Int)).toNat then g k + w i else g k)) ⟨rfl, rfl, rfl, rfl, rfl, rfl, rfl, rfl, rfl, rfl, rfl, rfl, trivial⟩ (.refl _) ⟨⟨hC.add (by omega) (by omega), hd8⟩, by show 8 - (d + 1) < 8 - d; omega⟩
        · have h53 : a.to (i : Int) (d : Int) < 0 := Int.not_le.1 (of_decide_eq_false hc_t53)
          refine W.skip ?_
          refine W.blk_normal ?_
          refine W.then ?_
          refine W.region ?_
          (refine W.q (Ev.add (.t rfl) .k (fun _ => by omega)) rfl ?_)
          refine W.q (Ev.move (.t rfl)) rfl ?_
          refine W.nil ?_
          refine W.then ?_
          refine W.reach (D := []) (d + 1, g) ⟨rfl, rfl, rfl, rfl, rfl, rfl, rfl, rfl, rfl, rfl, rfl, rfl, trivial⟩ (.refl _) ⟨⟨hC.skip h53, hd8⟩, by show 8 - (d + 1) < 8 - d; omega⟩
      · subst hend
        refine W.seq ?_
        refine W.region ?_
        refine W.q (Ev.lti (.t rfl) (.t rfl)) rfl ?_
        refine W.nil ?_
        refine W.then ?_
        refine W.seq ?_
        refine W.is (t := 49) (g := true) (av' := .lit (.bool false)) rfl (congrArg (fun b => AV.lit (.bool b)) (by rfl)) ?_
        refine W.condF (.t rfl) ?_
        refine W.exit ?_
        refine W.then_exit ?_
        refine W.then_exit ?_
        refine W.blk_hit ?_
        refine W.blk_normal ?_
        refine W.then ?_
        refine W.region ?_
        (refine W.q (Ev.add (.t rfl) .k (fun _ => by omega)) rfl ?_)
        refine W.q (Ev.move (.t rfl)) rfl ?_
        refine W.nil ?_
        refine W.then ?_
        refine W.reach (D := []) (i + 1, g) ⟨rfl, rfl, rfl, rfl, rfl, rfl, rfl, rfl, trivial⟩ (.refl _) ⟨⟨hC.row, hi⟩, by show a.next.length - (i + 1) < a.next.length - i; omega⟩
    · subst hend
      refine W.seq ?_
      refine W.region ?_
      refine W.q (Ev.lti (.t rfl) (.t rfl)) rfl ?_
      refine W.nil ?_
      refine W.then ?_
      refine W.seq ?_
      refine W.is (t := 42) (g := true) (av' := .lit (.bool false)) rfl (congrArg (fun b => AV.lit (.bool b)) (by exact decide_eq_false (by omega))) ?_
      refine W.condF (.t rfl) ?_
      refine W.exit ?_
      refine W.then_exit ?_
      refine W.then_exit ?_
      refine W.blk_hit ?_
      refine W.then ?_
      refine W.region ?_
      refine W.q (Ev.move (.t rfl)) rfl ?_
      refine W.q (Ev.assign (.t rfl)) rfl ?_
      refine W.nil ?_
      refine W.blk_normal ?_
      refine W.then ?_
      refine W.region ?_
      (refine W.q (Ev.add (.t rfl) .k (fun _ => by omega)) rfl ?_)
      refine W.q (Ev.move (.t rfl)) rfl ?_
      refine W.nil ?_
      refine W.then ?_
      refine W.reach (D := [.arr v 3 1 (rowI a.next.length (fun k => (w k : Int)))]) (k + 1, g, v37) ⟨rfl, rfl, rfl, rfl, trivial⟩ ?_ ⟨⟨hW.step hk hC, hk⟩, by show long - (k + 1) < long - k; omega⟩
      exact List.Perm.cons _ (List.perm_append_comm (l₁ := [_]))
  · subst hend
    refine W.seq ?_
    refine W.region ?_
    refine W.q (Ev.lti (.t rfl) (.t rfl)) rfl ?_
    refine W.nil ?_
    refine W.then ?_
    refine W.seq ?_
    refine W.is (t := 34) (g := true) (av' := .lit (.bool false)) rfl (congrArg (fun b => AV.lit (.bool b)) (by exact decide_eq_false (by omega))) ?_
    refine W.condF (.t rfl) ?_
    refine W.exit ?_
    refine W.then_exit ?_
    refine W.then_exit ?_
    refine W.blk_hit ?_
    refine W.then ?_
    refine W.seq ?_
    refine W.region ?_
    refine W.q (Ev.assign .k) rfl ?_
    refine W.nil ?_
    refine W.then ?_
    refine W.seq ?_
    refine W.seq ?_
    refine W.region ?_
    (refine W.q (Ev.fab (.t rfl) fa28_1) rfl ?_)
    (refine W.q (Ev.ldb1 1 (.t rfl) rfl ag26 rfl) rfl ?_)
    (refine W.q (Ev.lensl (.t rfl) Tryd.underlying26) rfl ?_)
    refine W.q (Ev.move .k) rfl ?_
    refine W.nil ?_
    refine W.then ?_
    refine W.block ?_
    have hlast := hW.last
    refine W.loop (D := []) (ι := Nat) (fun i => [(71, true, .int (i : Int)), (70, true, .int ((a.final.map AV.bool).length : Int)), (69, true, .sl 1 (a.final.map AV.bool)), (12, true, .int (sumN i (fun j => w j * Au.cnt a 0 (j : Int)) : Int)), (6, true, .lit v), (2, true, .lit (.pointer (some ⟨b2, 0, none⟩)))]) (fun _ => [.arr v 3 1 (rowI a.next.length (fun k => (w k : Int))), .box b2 28 [.sl 1 (a.next.map pav), .sl 1 (a.final.map AV.bool)]]) (fun i => i ≤ a.next.length) (fun i => a.next.length - i) 0 ⟨rfl, rfl, rfl, rfl, rfl, rfl, trivial⟩ (.refl _) (Nat.zero_le _) ?_
    intro i hi
    dsimp only at hi ⊢
    rcases (show i < a.next.length ∨ i = a.next.length from by omega) with hi | hend
    · have hgf := getD_mapG AV.bool false a.final i (by omega)
      have hcl := Au.cnt_le a k 0
      have hpw : 8 ^ k ≤ 8 ^ 12 := Nat.pow_le_pow_right (by decide) hlong
      have hsm := sumN_mono (fun j => w j * Au.cnt a 0 (j : Int)) (Nat.le_of_lt hi)
      rw [hlast] at hsm
      refine W.seq ?_
      refine W.region ?_
      refine W.q (Ev.lti (.t rfl) (.t rfl)) rfl ?_
      refine W.nil ?_
      refine W.then ?_
      refine W.seq ?_
      refine W.is (t := 72) (g := true) (av' := .lit (.bool true)) rfl (congrArg (fun b => AV.lit (.bool b)) (by exact decide_eq_true (by omega))) ?_
      refine W.condT (.t rfl) ?_
      refine W.skip ?_
      refine W.then ?_
      refine W.seq ?_
      refine W.block ?_
      refine W.seq ?_
      refine W.region ?_
      refine W.q (Ev.move (.t rfl)) rfl ?_
      refine W.q (Ev.at (E := 4) (.t rfl) (.t rfl) Tryd.underlying26 ty4 (fun _ => ⟨by omega, hgf⟩) rfl rfl) rfl ?_
      (refine W.q (Ev.lde1 (.t rfl) ag4) rfl ?_)
      refine W.q (Ev.assign (.t rfl)) rfl ?_
      refine W.q (Ev.assign (.t rfl)) rfl ?_
      refine W.nil ?_
      refine W.then ?_
      refine W.seq ?_
      refine W.region ?_
      refine W.q (Ev.move (.t rfl)) rfl ?_
      refine W.nil ?_
      refine W.then ?_
      refine W.cond (.t rfl) (fun hc_t76 => ?_) (fun hc_t76 => ?_)
      · have hc0 : Au.cnt a 0 (i : Int) = 1 := by rw [Au.cnt_zero_fin, if_pos hc_t76]
        have hb2 := hW.le hlong hi
        refine W.region ?_
        refine W.q (Ev.move (.t rfl)) rfl ?_
        refine W.q (Ev.move (.t rfl)) rfl ?_
        refine W.q (Ev.move (.t rfl)) rfl ?_
        refine W.q (Ev.ata 0 (.t rfl) rfl (.t rfl) Tryd.underlying22 ty3 (fun _ => by rw [rowI_len]; omega)) rfl ?_
        refine W.q (Ev.lda1 0 i 0 (.t rfl) rfl (rowI_get hi) (by omega) rfl rfl rfl ag3) rfl ?_
        (refine W.q (Ev.add (.t rfl) (.t rfl) (fun _ => by omega)) rfl ?_)
        refine W.q (Ev.assign (.t rfl)) rfl ?_
        refine W.nil ?_
        refine W.blk_normal ?_
        refine W.then ?_
        refine W.region ?_
        (refine W.q (Ev.add (.t rfl) .k (fun _ => by omega)) rfl ?_)
        refine W.q (Ev.move (.t rfl)) rfl ?_
        refine W.nil ?_
        refine W.then ?_
        refine W.reach (D := []) (i + 1) ⟨rfl, rfl, rfl, ?_, rfl, rfl, trivial⟩ (.refl _) ⟨hi, by show a.next.length - (i + 1) < a.next.length - i; omega⟩
        show some (true, AV.int _) = some (true, AV.int _)
        rw [sumN, hc0, Nat.mul_one]; rfl
      · have hc0 : Au.cnt a 0 (i : Int) = 0 := by rw [Au.cnt_zero_fin, if_neg (by rw [hc_t76]; decide)]
        refine W.skip ?_
        refine W.blk_normal ?_
        refine W.then ?_
        refine W.region ?_
        (refine W.q (Ev.add (.t rfl) .k (fun _ => by omega)) rfl ?_)
        refine W.q (Ev.move (.t rfl)) rfl ?_
        refine W.nil ?_
        refine W.then ?_
        refine W.reach (D := []) (i + 1) ⟨rfl, rfl, rfl, ?_, rfl, rfl, trivial⟩ (.refl _) ⟨hi, by show a.next.length - (i + 1) < a.next.length - i; omega⟩
        show some (true, AV.int _) = some (true, AV.int _)
        rw [sumN, hc0, Nat.mul_zero, Nat.add_zero]
    · subst hend
      rw [hlast]
      refine W.seq ?_
      refine W.region ?_
      refine W.q (Ev.lti (.t rfl) (.t rfl)) rfl ?_
      refine W.nil ?_
      refine W.then ?_
      refine W.seq ?_
      refine W.is (t := 72) (g := true) (av' := .lit (.bool false)) rfl (congrArg (fun b => AV.lit (.bool b)) (by exact decide_eq_false (by omega))) ?_
      refine W.condF (.t rfl) ?_
      refine W.exit ?_
      refine W.then_exit ?_
      refine W.then_exit ?_
      refine W.blk_hit ?_
      refine W.then ?_
      refine W.seq ?_
      refine W.region ?_
      refine W.q (Ev.move (.t rfl)) rfl ?_
      refine W.q (Ev.assign (.t rfl)) rfl ?_
      refine W.q (Ev.assign .k) rfl ?_
      refine W.nil ?_
      refine W.then ?_
      refine W.ret ?_
      refine W.retn (M' := []) (D := _) (rs := [.tmp 4, .tmp 5]) (avs := [_, _]) Tryd.results13 ⟨rfl, rfl, trivial⟩ rfl (.refl _) ?_
      exact ⟨rfl, rfl⟩

end WCount

end Go.Proofs.YtacaemfkdieocaaDoor
end

section
set_option linter.unusedVariables false
set_option linter.unusedSimpArgs false
namespace Go.Vl
namespace Au
def eqb (a b : Au) : Bool := decide (a.next = b.next) && decide (a.final = b.final)
end Au
namespace Lg
end Lg
namespace It
end It
end Go.Vl
end

section
set_option linter.unusedVariables false
set_option linter.unusedSimpArgs false
namespace Go.Vl
namespace Au
theorem found_succ (a : Au) (n : Nat) (i : Int) (m : Nat) : found a n i (m + 1) = found a n i m + (if a.fin (a.run i (dig n m)) = true then 1 else 0) := by
  unfold found
  rw [List.range_succ, List.filter_append, List.length_append]
  congr 1
  by_cases h : a.fin (a.run i (dig n m)) = true <;> simp [h]
theorem found_le (a : Au) (n : Nat) (i : Int) (m : Nat) : found a n i m ≤ m := by
  unfold found
  exact Nat.le_trans (List.length_filter_le _ _) (by simp)
def dgt (i x : Nat) : List Int := (List.range i).map fun j => ((x / 3 ^ j % 3 : Nat) : Int)
theorem dgt_snoc (i x : Nat) : dgt (i + 1) x = dgt i x ++ [((x / 3 ^ i % 3 : Nat) : Int)] := by
  unfold dgt
  rw [List.range_succ, List.map_append]; rfl
theorem dig_eq : ∀ (n x : Nat), dig n x = dgt n x
  | 0, x => rfl
  | n + 1, x => by
    rw [dig, dig_eq n]
    unfold dgt
    rw [List.range_succ_eq_map, List.map_cons, List.map_map]
    refine congr (congrArg _ (by simp)) (List.map_congr_left fun j _ => ?_)
    simp only [Function.comp, Nat.div_div_eq_div_mul, Nat.pow_succ]
    rw [Nat.mul_comm]
theorem dgt_len (i x : Nat) : (dgt i x).length = i := by simp [dgt]
theorem dgt_in (i x : Nat) : ∀ c ∈ dgt i x, 0 ≤ c ∧ c < 8 := fun c hc => by
  obtain ⟨j, _, rfl⟩ := List.mem_map.1 hc
  omega
theorem dec_dgt {a : Au} (n x : Nat) : Lg.dec (a.acc 0) (dgt n x) = a.fin (a.run 0 (dig n x)) := Bool.eq_iff_iff.2 (by
  rw [Lg.dec_iff, acc_run _ 0 (dgt_in n x), dig_eq, fin, Bool.and_eq_true, decide_eq_true_eq])
theorem acc_app {a : Au} : ∀ (u : List Int) (i : Int) (w : List Int), (∀ c ∈ u, 0 ≤ c ∧ c < 8) → (a.acc i (u ++ w) ↔ a.acc (a.run i u) w)
  | [], i, w, _ => Iff.rfl
  | c :: u, i, w, h => by
    have hc := h c List.mem_cons_self
    by_cases hi : 0 ≤ i
    · rw [List.cons_append, acc_cons hi hc.1 hc.2, run_cons a i c u hi]
      exact acc_app u _ w fun d hd => h d (List.mem_cons_of_mem _ hd)
    · rw [run_neg (by omega)]
      exact ⟨fun h' => absurd h' (acc_neg (by omega) _), fun h' => absurd h' (acc_neg (by omega) _)⟩
theorem Canon.both_size {a b d : Au} (ha : a.Shape) (hb : b.Shape) (hd : d.Canon) (h : ∀ u, d.acc 0 u ↔ a.acc 0 u ∧ b.acc 0 u) : d.next.length ≤ (a.next.length + 1) * (b.next.length + 1) := by
  have hpa := ha.pos
  have hpb := hb.pos
  have hw : ∀ k, k < d.next.length → ∃ u : List Int, (∀ c ∈ u, 0 ≤ c ∧ c < 8) ∧ ∀ w, d.acc (k : Int) w ↔ a.acc (a.run 0 u) w ∧ b.acc (b.run 0 u) w := fun k hk => by
    obtain ⟨u, _, hu⟩ := hd.word k hk
    obtain ⟨v, hv⟩ := hd.live k hk
    have hr : ∀ c ∈ u, 0 ≤ c ∧ c < 8 := fun c hc => acc_over ((hu v).2 hv) c (List.mem_append_left _ hc)
    exact ⟨u, hr, fun w => by rw [← hu w, h, acc_app u 0 w hr, acc_app u 0 w hr]⟩
  obtain ⟨f, hf⟩ : ∃ f : Nat → List Int, ∀ k, k < d.next.length → (∀ c ∈ f k, 0 ≤ c ∧ c < 8) ∧ ∀ w, d.acc (k : Int) w ↔ a.acc (a.run 0 (f k)) w ∧ b.acc (b.run 0 (f k)) w :=
    ⟨fun k => if hk : k < d.next.length then Classical.choose (hw k hk) else [], fun k hk => by dsimp only; rw [dif_pos hk]; exact Classical.choose_spec (hw k hk)⟩
  have hra : ∀ k, k < d.next.length → -1 ≤ a.run 0 (f k) ∧ a.run 0 (f k) < a.next.length := fun k hk => run_range ha (f k) 0 (by decide) (by omega) (hf k hk).1
  have hrb : ∀ k, k < d.next.length → -1 ≤ b.run 0 (f k) ∧ b.run 0 (f k) < b.next.length := fun k hk => run_range hb (f k) 0 (by decide) (by omega) (hf k hk).1
  refine pigeon _ _ (fun k => (b.next.length + 1) * (a.run 0 (f k) + 1).toNat + (b.run 0 (f k) + 1).toNat) (fun k hk => ?_) (fun i j hi hj e => ?_)
  · have h1 := hra k hk
    have h2 := hrb k hk
    have h3 : (b.next.length + 1) * (a.run 0 (f k) + 1).toNat ≤ (b.next.length + 1) * a.next.length := Nat.mul_le_mul_left _ (by omega)
    have h4 : (a.next.length + 1) * (b.next.length + 1) = (b.next.length + 1) * a.next.length + (b.next.length + 1) := by rw [Nat.mul_comm, Nat.mul_succ]
    show (b.next.length + 1) * (a.run 0 (f k) + 1).toNat + (b.run 0 (f k) + 1).toNat < _
    omega
  · have h1 := hra i hi
    have h2 := hrb i hi
    have h3 := hra j hj
    have h4 := hrb j hj
    have e1 := congrArg (· / (b.next.length + 1)) e
    have e2 := congrArg (· % (b.next.length + 1)) e
    simp only [Nat.mul_add_div (Nat.succ_pos b.next.length), Nat.mul_add_mod] at e1 e2
    rw [Nat.div_eq_of_lt (by omega), Nat.div_eq_of_lt (by omega)] at e1
    rw [Nat.mod_eq_of_lt (by omega), Nat.mod_eq_of_lt (by omega)] at e2
    have ea : a.run 0 (f i) = a.run 0 (f j) := by omega
    have eb : b.run 0 (f i) = b.run 0 (f j) := by omega
    exact hd.apart i j hi hj fun w => by rw [(hf i hi).2, (hf j hj).2, ea, eb]
theorem Ord.both_size {a b d : Au} (ha : a.Shape) (hb : b.Shape) (hd : d.Ord) (h : ∀ u, d.acc 0 u ↔ a.acc 0 u ∧ b.acc 0 u) : d.next.length ≤ (a.next.length + 1) * (b.next.length + 1) := by
  rcases hd with hd | rfl
  · exact hd.both_size ha hb h
  · exact Nat.mul_pos (Nat.succ_pos _) (Nat.succ_pos _)
theorem Ord.size_of {a : Au} (h : a.Ord) {L : Lg} {m : Nat} (hu : ∀ u, a.acc 0 u ↔ L u) (hw : Lg.Wid L m) : a.next.length ≤ 2 ^ m := h.size (by rw [show a.acc 0 = L from funext fun u => propext (hu u)]; exact hw)
end Au
end Go.Vl
end

section
set_option linter.unusedVariables false
set_option linter.unusedSimpArgs false
namespace Go.Vl
open Go.RowKit (Below)
theorem Fr.of_below {w w' : World} (h : Below w.heap.size w w') : Fr w [] w' [] :=
  ⟨h.os, h.tape, h.output, h.size, fun k hk _ => ⟨h.block k hk, by simp⟩⟩
theorem FnP.of_below {P : Program} {f : FuncId} {args : List AV} {r : AV} (hc : CallOk P f)
    (h : ∀ (w : World) (F : List Nat) (vs : List Value), RepT w F args vs → Calls P f vs.toArray w fun e w' => ∃ v, e = .returned v ∧ Rep w' F r v ∧ Below w.heap.size w w') : FnP P f args r :=
  ⟨hc, fun w F vs hF hm ha => (h w F vs (by simpa [bl] using ha)).mono fun e w' ⟨v, he, hr, hb⟩ => ⟨v, r, [], he, ⟨rfl, rfl⟩, MOk.nil w' F, by simpa [bl] using hr, by simpa [bl] using Fr.of_below hb⟩⟩
theorem CallOk.of {P : Program} {f : FuncId} {fn : Func} (h1 : P.funcs[f]? = some fn) (h2 : (fn.name == "runtime.NumGoroutine") = false) (h3 : fn.body.isNone = false) : CallOk P f := ⟨fn, h1, h2, h3⟩
theorem RepE.strs {w : World} {N : List Nat} {l : List (List UInt8)} {row : List Value} (h : RepE w N 1 (l.map AV.str) row) (j : Nat) (x : List UInt8) (hj : l[j]? = some x) : row[j]? = some (.string ⟨x.toArray⟩) := by
  obtain ⟨h1, h2⟩ := RepE.get (i := j) (e := AV.str x) h (by rw [List.getElem?_map, hj]; rfl)
  simp only [RepC, Nat.mul_one] at h2
  have h3 : (List.take 1 (List.drop j row)) = [Value.string ⟨x.toArray⟩] := h2
  have : (List.take 1 (List.drop j row))[0]? = row[j]? := by simp [List.getElem?_take, List.getElem?_drop]
  rw [← this, h3]; rfl
theorem joinP {P : Program} {f : FuncId} (hc : CallOk P f)
    (h0 : ∀ (a : Option Addr) (c : Nat) (sep : ByteArray) (w : World), Calls P f #[.slice a 0 c, .string sep] w fun e w' => e = .returned (.string ⟨#[]⟩) ∧ w' = w)
    (h1 : ∀ (bk o c : Nat) (xs : List ByteArray) (sep : ByteArray) (w : World), (∀ (j : Nat) x, xs[j]? = some x → w.cell? ⟨bk, o + j, none⟩ = some (.string x)) → bk < w.heap.size → xs.length ≤ 140737488355328 → xs.length ≤ c →
      (Lib.join (xs.map (·.data.toList)) sep.data.toList).length ≤ 140737488355328 → Calls P f #[.slice (some ⟨bk, o, none⟩) xs.length c, .string sep] w fun e w' => e = .returned (.string ⟨(Lib.join (xs.map (·.data.toList)) sep.data.toList).toArray⟩) ∧ Below w.heap.size w w')
    (l : List (List UInt8)) (sep : List UInt8) (hl : l.length ≤ 140737488355328) (hj : (Lib.join l sep).length ≤ 140737488355328) : FnP P f [.sl 1 (l.map AV.str), .str sep] (.str (Lib.join l sep)) := by
  refine FnP.of_below hc fun w F vs ha => ?_
  simp only [RepT] at ha
  obtain ⟨v0, _, rfl, ⟨hs0, h2⟩, v1, _, rfl, ⟨hs1, h3⟩, rfl⟩ := ha
  have e1 : v1 = .string ⟨sep.toArray⟩ := Rep.lit_iff.1 (show Rep w F (.str sep) v1 from ⟨hs1, h3⟩)
  subst e1
  obtain ⟨a, cap, rfl, h4, h5, h6⟩ := Rep.sl_inv (show Rep w F (.sl 1 (l.map AV.str)) v0 from ⟨hs0, h2⟩)
  rw [List.length_map] at h4
  rcases h6 with h6 | ⟨b, off, cur, T, fr, rfl, hb, hcur, he⟩
  · obtain rfl : l = [] := by simpa using h6
    refine (h0 a cap ⟨sep.toArray⟩ w).mono fun e w' ⟨e1, e2⟩ => ?_
    subst e2
    exact ⟨_, e1, Rep.lit _, Below.refl _ _⟩
  · have hx : (l.map fun x => (⟨x.toArray⟩ : ByteArray)).map (·.data.toList) = l := by rw [List.map_map]; exact List.map_id' _
    have key := h1 b off cap (l.map fun x => (⟨x.toArray⟩ : ByteArray)) ⟨sep.toArray⟩ w (fun j x hjx => by
      rw [List.getElem?_map] at hjx
      obtain ⟨y, hy, rfl⟩ := Option.map_eq_some_iff.1 hjx
      have := RepE.strs he j y hy
      rw [cell_of hcur]
      rw [List.getElem?_drop, Array.getElem?_toList] at this
      exact this) (heap_lt hcur) (by rw [List.length_map]; exact hl) (by rw [List.length_map]; exact h4) (by rw [hx]; exact hj)
    rw [hx, List.length_map] at key
    rw [List.length_map]
    exact key.mono fun e w' ⟨e1, e2⟩ => ⟨_, e1, Rep.lit _, e2⟩
end Go.Vl
end

section
set_option linter.unusedVariables false
set_option linter.unusedSimpArgs false
set_option linter.unusedSectionVars false
namespace Go.Vl
open Go Go.Sem
section view
variable {x : Cx} {L : List (Tmp × Bool × AV)} {M : List ME} {ops : Array Oper} {Q : Exit → Act → World → Prop} {rest : List Oper} {ty : TypeId} {pos : String} {aft : Array Edge}
/-- a source of sn elements, of which the first are xs -/
def SrcN (P : Program) (w : World) (N : List Nat) (k : Nat) (v : Value) (sn : Nat) (xs : List AV) : Prop :=
  (Builtin.lenOf v).run P w = .ok sn w ∧ xs.length ≤ sn ∧ ∃ news : Array Value, news.size = xs.length * k ∧ RepE w N k xs news.toList ∧ (∀ u ∈ news.toList, shV u = 0) ∧
    ∀ w' : World, w'.heap = w.heap → (Builtin.firstCells k xs.length v).run P w' = .ok news w'
theorem Src.toN {P : Program} {w : World} {N : List Nat} {k sn cap cap' : Nat} {ad : Option Addr} {xs : List AV} (h : Src P w N k (.slice ad xs.length cap) xs) (hs : xs.length ≤ sn) : SrcN P w N k (.slice ad sn cap') sn xs := by
  obtain ⟨_, news, h2, h3, h4, h5⟩ := h
  refine ⟨by simp [Builtin.lenOf], hs, news, h2, h3, h4, fun w' hw => ?_⟩
  have := h5 w' hw
  cases ad <;> simpa only [Builtin.firstCells] using this
theorem SrcN.to {P : Program} {w : World} {N : List Nat} {k : Nat} {v : Value} {xs : List AV} (h : SrcN P w N k v xs.length xs) : Src P w N k v xs := ⟨h.1, h.2.2⟩
/-- an operand that copy may take its elements from -/
def VwOv (x : Cx) (L : List (Tmp × Bool × AV)) (M : List ME) (o : Operand) (k sn : Nat) (xs : List AV) : Prop := ∀ a w, St x L M a w → SrcN x.P w (bl M ++ x.F) k (a.eval o) sn xs
/-- elements of an own row -/
theorem VwOv.own (i : Nat) {o : Operand} {g off n cap p sn c U k : Nat} {ad : Option Addr} {es xs : List AV} (h : Ov true L o (.lit (.slice ad sn c))) (ha : xs = [] ∨ ad = some ⟨g, off + p * k, none⟩) (hM : M[i]? = some (ME.arr (.slice (some ⟨g, off, none⟩) n cap) U k es)) (hx : xs = (es.drop p).take xs.length) (hp : p ≤ es.length) (hq : xs.length ≤ sn) (ho : ∀ e ∈ xs, e.okc = true) : VwOv x L M o k sn xs := by
  intro a w hs
  rw [h.lit rfl hs]
  refine Src.toN (cap := c) ?_ hq
  refine src_cells rfl ho ?_
  obtain ⟨ad, cp, e, h1, h2, h3⟩ := hs.mem.holds _ (List.mem_of_getElem? hM)
  cases e
  rcases h3 with ⟨h3, _⟩ | ⟨g', off', cur, lo, hi, h4, h5, _, _, h6⟩
  · cases h3
  · cases h4
    rcases ha with ha | ha
    · exact .inl ha
    refine .inr ⟨g, _, cur, U, (lo, hi), ha, h5, ?_⟩
    rw [hx, ← List.drop_drop]
    exact (h6.drop p hp).take _
/-- the elements of a box, seen as_ a row of one -/
theorem VwOv.box (i : Nat) {o : Operand} {b c U k : Nat} {cs : List AV} {e : AV} (h : Ov true L o (.lit (.slice (some ⟨b, 0, none⟩) 1 c))) (hM : M[i]? = some (ME.box b U cs)) (hk : cs.length = k) (he : e.cells = cs) (ho : e.okc = true) : VwOv x L M o k 1 [e] := by
  intro a w hs
  rw [h.lit rfl hs]
  refine Src.toN (cap := c) ?_ (by simp)
  refine src_cells rfl (by simpa using ho) (.inr ?_)
  obtain ⟨cur, h1, h2⟩ := hs.mem.holds _ (List.mem_of_getElem? hM)
  refine ⟨b, 0, cur, U, _, rfl, h1, ?_⟩
  have hl := h2.length
  rw [List.drop_zero]
  refine ⟨by omega, RepC.ofL ho ?_, trivial⟩
  rw [List.take_of_length_le (by omega), he]
  exact h2
theorem VwOv.src {o : Operand} {k : Nat} {xs : List AV} (h : SrcOv x L M o k xs) : VwOv x L M o k xs.length xs := fun a w hs => by
  have h1 := h.src hs
  exact ⟨h1.1, Nat.le_refl _, h1.2⟩

theorem run_copy {P : Program} {w : World} {T T' E k bytes : Nat} {z : Value} {g p dn dc lo hi sn : Nat} {cur : Array Value} {U : TypeId} {xv : Value} {N : List Nat} {xs : List AV} (hT : P.underlying T = some (.slice E)) (hE : Ty P E k bytes z)
    (hc : w.heap[g]? = some (.cells cur U (lo, hi))) (hsz : p + xs.length * k ≤ cur.size) (hfr : hi ≤ lo ∨ p + xs.length * k ≤ lo) (hx : SrcN P w N k xv sn xs) (hq : xs.length = Nat.min sn dn) :
    ∃ news : Array Value, news.size = xs.length * k ∧ RepE w N k xs news.toList ∧ (Builtin.copy_ #[T, T'] ty #[.slice (some ⟨g, p, none⟩) dn dc, xv]).run P w =
      .ok (.int .i64 (xs.length : Int)) { w with heap := w.heap.setIfInBounds g (.cells (wr cur p news.toList) U (lo, hi)) } := by
  obtain ⟨hlen, _, news, hn1, hn2, hn3, hn4⟩ := hx
  have hf := hn4 w rfl
  have hst := run_storeCells (P := P) (g := g) (off := p) (T := U) (lo := lo) (hi := hi) news.toList 0 cur w hc (by simp; omega) (by simp; omega) hn3
  refine ⟨news, hn1, hn2, ?_⟩
  rw [Nat.add_zero] at hst
  rw [hq] at hf
  simp only [Builtin.copy_, List.getElem?_toArray, List.getElem?_cons_zero, List.getElem?_cons_succ, Sem.run_bind, run_underlying hT, Result.andThen_ok, hE.size, hlen, hf, hst, Sem.run_pure, goInt, hq]

/-- what a row holds after a write of elements -/
theorem RepE.over {w : World} {N : List Nat} {k j off : Nat} {es xs : List AV} {cur nl : List Value} (h : RepE w N k es (cur.drop off)) (hx : RepE w N k xs nl) (hn : nl.length = xs.length * k) (hj : j ≤ es.length) (hoff : off ≤ cur.length) :
    RepE w N k (es.take j ++ xs ++ es.drop (j + xs.length)) ((cur.take (off + j * k) ++ nl ++ cur.drop (off + j * k + nl.length)).drop off) := by
  have hlen := h.len
  have hjk : j * k ≤ es.length * k := Nat.mul_le_mul_right _ hj
  rw [List.length_drop] at hlen
  have e1 : (cur.take (off + j * k) ++ nl ++ cur.drop (off + j * k + nl.length)).drop off = (cur.drop off).take (j * k) ++ (nl ++ (cur.drop off).drop (j * k + nl.length)) := by
    rw [List.append_assoc, List.drop_append_of_le_length (by rw [List.length_take]; omega), List.drop_take, Nat.add_sub_cancel_left, List.drop_drop, Nat.add_assoc]
  rw [e1]
  have hS : (cur.drop off).length = cur.length - off := List.length_drop ..
  generalize cur.drop off = S at h hS
  have htl : (S.take (j * k)).length = j * k := by rw [List.length_take]; omega
  have hjl : (es.take j).length = j := by rw [List.length_take]; omega
  rw [List.append_assoc]
  refine RepE.append (RepE.congr (h.take j) ?_) ?_
  · rw [hjl, List.take_append_of_le_length (by omega), List.take_take, Nat.min_self]
  · rw [hjl, List.drop_append_of_le_length (by omega), List.drop_of_length_le (l := S.take (j * k)) (by omega), List.nil_append]
    refine RepE.append (RepE.congr hx (by rw [List.take_append_of_le_length (by omega)])) ?_
    rw [List.drop_append_of_le_length (by omega), List.drop_of_length_le (l := nl) (by omega), List.nil_append, hn, ← Nat.add_mul]
    by_cases hle : j + xs.length ≤ es.length
    · exact h.drop _ hle
    · rw [List.drop_of_length_le (by omega)]; simp [RepE]

theorem W.copy (i : Nat) {d : Tmp} {T T' E k bytes : Nat} {z : Value} {o1 o2 : Operand} {g off n cap j dn dc sn U : Nat} {es xs : List AV} (h1 : Ov true L o1 (.lit (.slice (some ⟨g, off + j * k, none⟩) dn dc))) (hM : M[i]? = some (ME.arr (.slice (some ⟨g, off, none⟩) n cap) U k es)) (h2 : VwOv x L M o2 k sn xs)
    (hT : x.P.underlying T = some (.slice E)) (hE : Ty x.P E k bytes z) (hq : xs.length = Nat.min sn dn) (hj : j ≤ es.length) (hc : j + xs.length ≤ cap) {n' : Nat} {es' : List AV} (he' : es' = es.take j ++ xs ++ es.drop (j + xs.length)) (hn' : n' = es'.length) (hd : Nat.blt d x.n = true)
    (next : W x ((d, true, .lit (.int .i64 (xs.length : Int))) :: L) (M.set i (ME.arr (.slice (some ⟨g, off, none⟩) n' cap) U k es')) (wpList x.P ops Q rest)) :
    W x L M (wpList x.P ops Q (⟨some d, .call ⟨.builtin .copy, #[o1, o2], #[T, T']⟩, ty, pos, aft, none⟩ :: rest)) := by
  subst he'
  refine W.opv (ι := Unit) (fun _ => M.set i (ME.arr (.slice (some ⟨g, off, none⟩) n' cap) U k (es.take j ++ xs ++ es.drop (j + xs.length)))) (fun _ => .lit (.int .i64 (xs.length : Int))) hd ?_ (fun _ => next)
  intro a w hs
  have hsrc := h2 a w hs
  have e1 := h1.lit rfl hs
  obtain ⟨ad, cp, e, hlc, hcm, hcase⟩ := hs.mem.holds _ (List.mem_of_getElem? hM)
  cases e
  rcases hcase with ⟨h3, _⟩ | ⟨g', off', cur, lo, hi, h4, hcur, hsz, hfr, hrE⟩
  · cases h3
  cases h4
  have hmul : (j + xs.length) * k ≤ cap * k := Nat.mul_le_mul_right _ hc
  rw [Nat.add_mul] at hmul
  obtain ⟨news, hn1, hn2, hrun⟩ := run_copy (ty := ty) (T' := T') (dc := dc) hT hE hcur (p := off + j * k) (by omega) (by omega) hsrc hq
  have hlt : (es.take j ++ xs ++ es.drop (j + xs.length)).length ≤ cap := by simp only [List.length_append, List.length_take, List.length_drop]; omega
  refine ⟨.int .i64 (xs.length : Int), { w with heap := w.heap.setIfInBounds g (.cells (wr cur (off + j * k) news.toList) U (lo, hi)) }, (), ?_, ?_, Rep.lit _⟩
  · simp only [execOp, resolve, invoke, builtin, Sem.run_bind, Sem.run_pure, Result.andThen_ok, List.map_toArray, List.map_cons, List.map_nil, e1, hrun]
  · refine hs.write hM rfl rfl ?_
    intro w' hother hnew hk'
    have hnl : news.toList.length = xs.length * k := by simpa using hn1
    refine ⟨some ⟨g, off, none⟩, cap, by rw [hn'], hlt, hcm, .inr ⟨g, off, _, lo, hi, rfl, hnew, ?_, hfr, ?_⟩⟩
    · rw [wr_size _ _ _ (by omega)]; exact hsz
    · simp only [wr, List.toList_toArray]
      exact RepE.over (RepE.keep hk' _ _ _ hrE) (RepE.keep hk' _ _ _ hn2) hnl hj (by simp; omega)

/-- a part of an own row: the bounds may reach up to the capacity -/
theorem run_boundsC {g : Bool} {len cap : Nat} {lo hi : Option Operand} {l h : Int} {a : Act} {w : World} (hst : St x L M a w) (hg : g = true) (hlo : BndOv g L 0 lo l) (hhi : BndOv g L len hi h) (h0 : 0 ≤ l) (h1 : l ≤ h) (h2 : h ≤ cap) :
    (Instr.sliceBounds true len cap (lo.map a.eval) (hi.map a.eval) none).run x.P w = .ok (l.toNat, h.toNat, cap) w := by
  have hb : ∀ (n : Int) (y : Nat) c, 0 ≤ n → n ≤ y → (Instr.sliceBound (.int .i64 n) y c).run x.P w = .ok n.toNat w := fun n y c hn hy => by
    simp [Instr.sliceBound, asIntOf, hn, hy]
  unfold Instr.sliceBounds
  cases lo with
  | none =>
    simp only [BndOv] at hlo
    subst hlo
    cases hi with
    | none =>
      simp only [BndOv] at hhi
      subst hhi
      simp
    | some o =>
      have e := hhi.lit hg hst
      simp only [Option.map_none, Option.map_some, e, Sem.run_bind, Sem.run_pure, Result.andThen_ok]
      rw [hb _ _ _ (by omega) (by omega)]
      simp
  | some o' =>
    have e' := hlo.lit hg hst
    cases hi with
    | none =>
      simp only [BndOv] at hhi
      subst hhi
      simp only [Option.map_none, Option.map_some, e', Sem.run_bind, Sem.run_pure, Result.andThen_ok]
      rw [hb _ _ _ (by omega) (by omega)]
      simp
    | some o =>
      have e := hhi.lit hg hst
      simp only [Option.map_some, e, e', Sem.run_bind, Sem.run_pure, Result.andThen_ok]
      rw [hb _ _ _ (by omega) (by omega)]
      simp only [Result.andThen_ok]
      rw [hb _ _ _ (by omega) (by omega)]
      simp
/-- a slice expression at a slice that is known -/
theorem Ev.slit {g : Bool} {T E k bytes : Nat} {z : Value} {o1 : Operand} {lo hi : Option Operand} {i j : Int} {ad : Option Addr} {n cap : Nat} {v : Value} (h1 : Ov g L o1 (.lit (.slice ad n cap))) (hT : x.P.underlying T = some (.slice E)) (hE : Ty x.P E k bytes z) (hlo : BndOv g L 0 lo i) (hhi : BndOv g L (n : Int) hi j)
    (hb : g = true → 0 ≤ i ∧ i ≤ j ∧ j ≤ cap) (hv : v = .slice (if cap = i.toNat then ad else ad.map (·.add (i.toNat * k))) (j.toNat - i.toNat) (cap - i.toNat)) : Ev x g L M (.slice T o1 lo hi none) ty (.lit v) := Ev.pure fun a w hs hg => by
  obtain ⟨b1, b2, b3⟩ := hb hg
  have hr := run_boundsC (len := n) (cap := cap) hs hg hlo hhi b1 b2 b3
  subst hv
  simp only [execOp, h1.lit hg hs, Option.map_none, Instr.sliceAt, Instr.slice, Sem.run_bind, run_underlying hT, Result.andThen_ok, hr, hE.size, Sem.run_pure]
/-- s[p:j] -/
theorem Ev.slitp {g : Bool} {T E k bytes : Nat} {z : Value} {o1 : Operand} {lo hi : Option Operand} {i j : Int} {b off n cap p q : Nat} (h1 : Ov g L o1 (.lit (.slice (some ⟨b, off, none⟩) n cap))) (hT : x.P.underlying T = some (.slice E)) (hE : Ty x.P E k bytes z) (hlo : BndOv g L 0 lo i) (hhi : BndOv g L (n : Int) hi j)
    (hi' : i = (p : Int)) (hj : j = (q : Int)) (hb : p < cap ∧ p ≤ q ∧ q ≤ cap) : Ev x g L M (.slice T o1 lo hi none) ty (.lit (.slice (some ⟨b, off + p * k, none⟩) (q - p) (cap - p))) := by
  subst hi'; subst hj
  refine Ev.slit h1 hT hE hlo hhi (fun _ => by omega) ?_
  rw [if_neg (by simp; omega)]
  simp [Addr.add_lit]
/-- s[:q] -/
theorem Ev.slit0 {g : Bool} {T E k bytes : Nat} {z : Value} {o1 : Operand} {hi : Option Operand} {j : Int} {b off n cap q : Nat} (h1 : Ov g L o1 (.lit (.slice (some ⟨b, off, none⟩) n cap))) (hT : x.P.underlying T = some (.slice E)) (hE : Ty x.P E k bytes z) (hhi : BndOv g L (n : Int) hi j)
    (hj : j = (q : Int)) (hb : q ≤ cap) : Ev x g L M (.slice T o1 none hi none) ty (.lit (.slice (some ⟨b, off, none⟩) q cap)) := by
  subst hj
  refine Ev.slit (i := 0) h1 hT hE rfl hhi (fun _ => by omega) ?_
  simp [Addr.add_lit]
/-- where an own row lies, if it has elements -/
theorem W.arr_lit {R : Act → World → Prop} (i : Nat) {v : Value} {U k : Nat} {es : List AV} (hM : M[i]? = some (.arr v U k es)) (hes : 0 < es.length) (h : ∀ g off c, v = .slice (some ⟨g, off, none⟩) es.length c → es.length ≤ c → c ≤ maxLen → W x L M R) : W x L M R := fun a w hs => by
  obtain ⟨ad, cap, e, h1, h2, h3⟩ := hs.mem.holds _ (List.mem_of_getElem? hM)
  rcases h3 with ⟨_, h3⟩ | ⟨g, off, cur, lo, hi, rfl, _⟩
  · omega
  · exact h _ _ _ e h1 h2 a w hs
/-- an operation whose value nobody keeps -/
theorem W.opn {ι : Type} {op : Op} (Mf : ι → List ME)
    (step : ∀ a w, St x L M a w → ∃ w' v z, (execOp a.eval ⟨none, op, ty, "", #[], none⟩).run x.P w = .ok (.value v) w' ∧ St x L (Mf z) a w')
    (next : ∀ z, W x L (Mf z) (wpList x.P ops Q rest)) : W x L M (wpList x.P ops Q (⟨none, op, ty, pos, aft, none⟩ :: rest)) := by
  intro a w hs
  obtain ⟨w', v, z, hr, hs'⟩ := step a w hs
  refine wpList_cons_want (by simp [Region.wanted]) ?_
  unfold Oper.wp
  rw [execOp_bare, hr]
  exact next z _ _ hs'
/-- what lies behind the elements is cleared -/
theorem W.clear (i : Nat) {T E k bytes : Nat} {z : Value} {o1 : Operand} {g off n cap j m c U : Nat} {es : List AV} (h1 : Ov true L o1 (.lit (.slice (some ⟨g, off + j * k, none⟩) m c))) (hM : M[i]? = some (ME.arr (.slice (some ⟨g, off, none⟩) n cap) U k es))
    (hT : x.P.underlying T = some (.slice E)) (hE : Ty x.P E k bytes z) (hzk : z.cells.size = k) (hz : z.cells.toList.all (fun v => shV v == 0) = true) (hj : es.length ≤ j) (hc : j + m ≤ cap)
    (next : W x L M (wpList x.P ops Q rest)) :
    W x L M (wpList x.P ops Q (⟨none, .call ⟨.builtin .clear, #[o1], #[T]⟩, ty, pos, aft, none⟩ :: rest)) := by
  have hset := set_self hM
  rw [← hset] at next
  refine W.opn (ι := Unit) (fun _ => M.set i (ME.arr (.slice (some ⟨g, off, none⟩) n cap) U k es)) ?_ (fun _ => next)
  intro a w hs
  have e1 := h1.lit rfl hs
  obtain ⟨ad, cp, e, hlc, hcm, hcase⟩ := hs.mem.holds _ (List.mem_of_getElem? hM)
  cases e
  rcases hcase with ⟨h3, _⟩ | ⟨g', off', cur, lo, hi, h4, hcur, hsz, hfr, hrE⟩
  · cases h3
  cases h4
  by_cases hm : m = 0
  · subst hm
    refine ⟨w, .tuple #[], (), ?_, by rw [hset]; exact hs⟩
    simp [execOp, resolve, invoke, builtin, e1, Builtin.clear_, run_underlying hT]
  · have hzs : (Builtin.zeroCells z.cells m).size = m * k := by simp [Builtin.zeroCells, hzk]
    have hmul : (j + m) * k ≤ cap * k := Nat.mul_le_mul_right _ hc
    rw [Nat.add_mul] at hmul
    have hzl : (Builtin.zeroCells z.cells m).toList.length = m * k := by rw [Array.length_toList]; exact hzs
    have hz0 : ∀ u ∈ (Builtin.zeroCells z.cells m).toList, shV u = 0 := by
      intro u hu
      simp only [Builtin.zeroCells, Array.toList_map, List.mem_map] at hu
      obtain ⟨q, hq, rfl⟩ := hu
      have hq' : q < m * z.cells.size := by simpa using hq
      have hpos : 0 < z.cells.size := by rcases Nat.eq_zero_or_pos z.cells.size with h | h; rw [h] at hq'; omega; exact h
      have hlt : q % z.cells.size < z.cells.size := Nat.mod_lt _ hpos
      rw [List.all_eq_true] at hz
      have := hz (z.cells[q % z.cells.size]!) (by rw [Array.mem_toList_iff, getElem!_pos z.cells _ hlt]; exact Array.getElem_mem hlt)
      simpa using this
    have hst := run_storeCells (P := x.P) (g := g) (off := off + j * k) (T := U) (lo := lo) (hi := hi) (Builtin.zeroCells z.cells m).toList 0 cur w hcur (by omega) (by omega) hz0
    rw [Nat.add_zero] at hst
    refine ⟨{ w with heap := w.heap.setIfInBounds g (.cells (wr cur (off + j * k) (Builtin.zeroCells z.cells m).toList) U (lo, hi)) }, .tuple #[], (), ?_, ?_⟩
    · simp only [execOp, resolve, invoke, builtin, Sem.run_bind, Sem.run_pure, Result.andThen_ok, List.map_toArray, List.map_cons, List.map_nil, e1, Builtin.clear_, List.getElem?_toArray, List.getElem?_cons_zero, run_underlying hT]
      cases m with
      | zero => exact absurd rfl hm
      | succ m => simp only [Sem.run_bind, hE.zero, Result.andThen_ok, hst, Sem.run_pure]
    · refine hs.write hM rfl rfl ?_
      intro w' hother hnew hk'
      have hlen := hrE.len
      have hjm : es.length * k ≤ j * k := Nat.mul_le_mul_right _ hj
      refine ⟨some ⟨g, off, none⟩, cap, rfl, hlc, hcm, .inr ⟨g, off, _, lo, hi, rfl, hnew, ?_, hfr, ?_⟩⟩
      · rw [wr_size _ _ _ (by omega)]; exact hsz
      · refine RepE.congr (RepE.keep hk' _ _ _ hrE) ?_
        have hcl : cur.toList.length = cur.size := Array.length_toList
        simp only [wr, List.toList_toArray]
        rw [List.append_assoc, List.drop_append_of_le_length (by simp; omega), List.drop_take, Nat.add_sub_cancel_left, List.take_append_of_le_length (by simp; omega), List.take_take, Nat.min_eq_left hjm]
/-- a zero value as_ an element -/
theorem RepC.zero {w : World} {N : List Nat} {z : Value} {e : AV} (hz : z.cells.toList.all (fun v => shV v == 0) = true) (he : e = match z.cells.toList with | [v] => if shV z == 1 then .agg [.lit v] else .lit v | l => .agg (l.map .lit)) : RepC w N e z.cells.toList := by
  have hL : ∀ l : List Value, l.all (fun v => shV v == 0) = true → RepL w N (l.map .lit) l := by
    intro l
    induction l with
    | nil => intro _; simp [RepL]
    | cons v l ih =>
      intro hz
      simp only [List.all_cons, Bool.and_eq_true, beq_iff_eq] at hz
      simp only [List.map_cons, RepL]
      exact ⟨v, l, rfl, ⟨hz.1, hz.1, by simp only [RepC, cells_of_sh hz.1]⟩, ih hz.2⟩
  subst he
  have := hL _ hz
  revert this hz
  generalize z.cells.toList = l
  intro hz this
  match l with
  | [] => simpa [RepC] using this
  | [v] =>
    simp only [List.all_cons, List.all_nil, Bool.and_true, beq_iff_eq] at hz
    dsimp only
    split
    · simpa only [RepC, List.map_cons, List.map_nil] using this
    · simp only [RepC, cells_of_sh hz]
  | u :: v :: l => simpa only [RepC] using this
end view
end Go.Vl
end

section
set_option linter.unusedVariables false
set_option linter.unusedSimpArgs false
namespace Go.Vl
open Go.RowKit (Below)
open Go.Sort
theorem MOk.below {w w' : World} {M : List ME} {F : List Nat} (h : MOk w M F) (hb : Below w.heap.size w w') (hF : ∀ b ∈ F, b < w.heap.size) : MOk w' M F := by
  refine ⟨h.nodup, h.apart, fun m hm => ME.holds_keep (w := w) (N := bl M ++ F) ?_ (fun b hb' => ?_) (h.holds m hm)⟩
  · intro b c T fr hn hc
    exact ⟨hn, (hb.block b (heap_lt hc)).trans hc⟩
  · exact hb.block b (bl_lt h b (List.mem_flatMap.2 ⟨m, hm, hb'⟩))
theorem Fr.below {w w' : World} {N : List Nat} (h : Below w.heap.size w w') : Fr w N w' N :=
  ⟨h.os, h.tape, h.output, h.size, fun k hk hn => ⟨h.block k hk, hn⟩⟩
/-- nothing that was turns; the result is known -/
theorem FnC.belowM {P : Program} {f : FuncId} {args : List AV} {M0 : List ME} {r : AV} (hc : CallOk P f)
    (h : ∀ (w : World) (F : List Nat) (vs : List Value), MOk w M0 F → RepT w (bl M0 ++ F) args vs → Calls P f vs.toArray w fun e w' => ∃ v, e = .returned v ∧ Rep w' (bl M0 ++ F) r v ∧ Below w.heap.size w w') : FnC P f args M0 (fun r' M => r' = r ∧ M = M0) :=
  ⟨hc, fun w F vs hF hm ha => (h w F vs hm ha).mono fun e w' ⟨v, he, hr, hb⟩ => ⟨v, r, M0, he, ⟨rfl, rfl⟩, hm.below hb hF, hr, Fr.below hb⟩⟩
theorem RepE.ints {w : World} {N : List Nat} : ∀ {l : List Int} {row : List Value}, row.take l.length = l.map (Value.int .i64) → RepE w N 1 (l.map AV.int) row
  | [], row, _ => by simp only [List.map_nil, RepE]
  | n :: l, row, h => by
    cases row with
    | nil => simp at h
    | cons x row =>
      simp only [List.length_cons, List.take_succ_cons, List.map_cons, List.cons.injEq] at h
      simp only [List.map_cons, RepE]
      refine ⟨by simp, ?_, RepE.ints h.2⟩
      rw [h.1]
      simp only [RepC]; rfl
theorem RepE.toInts {w : World} {N : List Nat} : ∀ {l : List Int} {row : List Value}, RepE w N 1 (l.map AV.int) row → row.take l.length = l.map (Value.int .i64)
  | [], row, _ => by simp
  | n :: l, row, h => by
    simp only [List.map_cons, RepE] at h
    obtain ⟨h1, h2, h3⟩ := h
    cases row with
    | nil => simp at h1
    | cons x row =>
      have h2 : [x] = (Value.int .i64 n).cells.toList := by simpa [RepC] using h2
      have hx : x = .int .i64 n := by simpa [Value.cells] using h2
      rw [List.length_cons, List.take_succ_cons, List.map_cons, hx]
      congr 1
      exact RepE.toInts (w := w) (N := N) h3
theorem lit_cell {w : World} {N : List Nat} {v u : Value} (h1 : (AV.lit v).sh = 0) (h3 : RepC w N (.lit v) [u]) : u = v := by
  simp only [RepC] at h3
  have e : v.cells.toList = [v] := by cases v <;> simp_all [AV.sh, shV, Value.cells]
  rw [e] at h3
  exact (List.cons.inj h3).1
/-- a new own row -/
theorem FnC.belowRow {P : Program} {f : FuncId} {args : List AV} {M0 : List ME} {I : TypeId} {l : List Int} (hc : CallOk P f)
    (h : ∀ (w : World) (F : List Nat) (vs : List Value), (∀ b ∈ F, b < w.heap.size) → MOk w M0 F → RepT w (bl M0 ++ F) args vs → Calls P f vs.toArray w fun e w' => ∃ v, e = .returned v ∧ w'.ownsRow w.heap.size I 1 v l.length (l.map (Value.int .i64)) ∧ Below w.heap.size w w') :
    FnC P f args M0 (fun r M => ∃ v, r = .lit v ∧ M = .arr v I 1 (l.map AV.int) :: M0) := by
  refine ⟨hc, fun w F vs hF hm ha => (h w F vs hF hm ha).mono fun e w' ⟨v, he, hr, hb⟩ => ?_⟩
  have hm' := hm.below hb hF
  refine ⟨v, .lit v, .arr v I 1 (l.map AV.int) :: M0, he, ⟨v, rfl, rfl⟩, ?_, Rep.lit v, ?_⟩
  · rcases hr.2 with ⟨rfl, h0⟩ | ⟨g, cap, cur, rfl, hbase, hg, h1, h2, h3, h4⟩
    · have : l = [] := List.eq_nil_of_length_eq_zero h0
      subst this
      refine ⟨hm'.nodup, hm'.apart, fun m hmm => ?_⟩
      rcases List.mem_cons.1 hmm with rfl | hmm
      · exact ⟨none, 0, rfl, Nat.le_refl _, by simp [maxLen], .inl ⟨rfl, rfl⟩⟩
      · exact hm'.holds m hmm
    · have hgn : g ∉ bl M0 ++ F := fun hg' => by
        rcases List.mem_append.1 hg' with h' | h'
        · have := bl_lt hm g h'; omega
        · have := hF g h'; omega
      have hbl : bl (.arr (.slice (some ⟨g, 0, none⟩) l.length cap) I 1 (l.map AV.int) :: M0) = g :: bl M0 := rfl
      refine ⟨?_, ?_, ?_⟩
      · rw [hbl]
        exact List.nodup_cons.2 ⟨fun h' => hgn (List.mem_append_left _ h'), hm'.nodup⟩
      · rw [hbl]
        intro b hb'
        rcases List.mem_cons.1 hb' with rfl | hb'
        · exact fun h' => hgn (List.mem_append_right _ h')
        · exact hm'.apart b hb'
      · intro m hmm
        rw [hbl]
        rcases List.mem_cons.1 hmm with rfl | hmm
        · refine ⟨some ⟨g, 0, none⟩, cap, by rw [List.length_map], by rw [List.length_map]; exact h1, h2, .inr ⟨g, 0, cur, 0, 0, rfl, hg, by omega, .inl (Nat.le_refl _), ?_⟩⟩
          rw [List.drop_zero]
          exact RepE.ints (by rw [Nat.mul_one] at h4; exact h4)
        · have h5 := hm.holds m hmm
          refine ME.holds_keep (w := w) (N := bl M0 ++ F) ?_ (fun b hb' => hb.block b (bl_lt hm b (List.mem_flatMap.2 ⟨m, hmm, hb'⟩))) h5
          intro b c T fr hn hcc
          refine ⟨fun h' => ?_, (hb.block b (heap_lt hcc)).trans hcc⟩
          rcases List.mem_cons.1 h' with rfl | h'
          · have := heap_lt hcc; omega
          · exact hn h'
  · have hF2 := Fr.below (N := bl M0) hb
    refine ⟨hF2.os, hF2.tape, hF2.output, hF2.size, fun k hk hn => ⟨(hF2.block k hk hn).1, fun h' => ?_⟩⟩
    rcases hr.2 with ⟨rfl, h0⟩ | ⟨g, cap, cur, rfl, hbase, _⟩
    · exact hn h'
    · have h' : k ∈ g :: bl M0 := h'
      rcases List.mem_cons.1 h' with rfl | h'
      · omega
      · exact hn h'
theorem take_putCells (cur : Array Value) (off : Nat) (ts : List Int) (h : off + ts.length ≤ cur.size) : ((putCells (Value.int .i64) off ts.toArray cur).toList.drop off).take ts.length = ts.map (Value.int .i64) := by
  apply List.ext_getElem?
  intro j
  by_cases hj : j < ts.length
  · rw [List.getElem?_take_of_lt hj, List.getElem?_drop, Array.getElem?_toList]
    simp [putCells, hj, show off + j < cur.size by omega]
  · rw [List.getElem?_take_eq_none (by omega), List.getElem?_eq_none (by simp; omega)]
/-- an own row is written by the library; the call hands back a value that its place and length fix -/
theorem FnC.row {P : Program} {f : FuncId} {I : TypeId} {v : Value} {l : List Int} (hc : CallOk P f) (new : List Int) (hn : new.length = l.length) (m : Nat) (hm : m ≤ l.length) (rv : Option Addr → Nat → Value)
    (h0 : l = [] → ∀ (ad : Option Addr) (cap : Nat) (w : World), Calls P f #[.slice ad 0 cap] w fun e w' => e = .returned (rv ad cap) ∧ w' = w)
    (h1 : l ≠ [] → ∀ (g off cap : Nat) (w : World), Holds (Value.int .i64) w g off l.toArray → g < w.heap.size → l.length ≤ cap → cap ≤ maxLen → Calls P f #[.slice (some ⟨g, off, none⟩) l.length cap] w fun e w' => e = .returned (rv (some ⟨g, off, none⟩) cap) ∧ ∃ n os, w' = grow (putRow (Value.int .i64) (Sort.ahead w n) g off new.toArray) os) :
    FnC P f [.lit v] [.arr v I 1 (l.map AV.int)] (fun r M => ∃ ad cap, v = .slice ad l.length cap ∧ r = .lit (rv ad cap) ∧ M = [.arr (.slice ad m cap) I 1 ((new.take m).map AV.int)]) := by
  refine ⟨hc, fun w F vs hF hmk ha => ?_⟩
  simp only [RepT] at ha
  obtain ⟨v0, _, rfl, ⟨hs0, hr0⟩, rfl⟩ := ha
  have e0 : v0 = v := Rep.lit_iff.1 (show Rep w (bl [.arr v I 1 (l.map AV.int)] ++ F) (.lit v) v0 from ⟨hs0, hr0⟩)
  subst e0
  obtain ⟨ad, cap, rfl, hl1, hl2, h3⟩ := hmk.holds _ List.mem_cons_self
  rw [List.length_map] at *
  by_cases hl : l = []
  · subst hl
    refine (h0 rfl ad cap w).mono fun e w' ⟨he, hw⟩ => ?_
    subst hw
    obtain rfl : m = 0 := by simpa using hm
    have hnew : new = [] := List.eq_nil_of_length_eq_zero hn
    subst hnew
    exact ⟨_, _, _, he, ⟨ad, cap, rfl, rfl, rfl⟩, hmk, Rep.lit _, Fr.refl _ _⟩
  · rcases h3 with ⟨_, h3⟩ | ⟨g, off, cur, lo, hi, rfl, hg, hsz, hfr, he⟩
    · have : l.length ≠ 0 := fun h => hl (List.eq_nil_of_length_eq_zero h)
      omega
    · have hti := RepE.toInts he
      have hle : off + l.length ≤ cur.size := by omega
      have hH : Holds (Value.int .i64) w g off l.toArray := by
        intro j hj
        have hj' : j < l.length := by simpa using hj
        refine ⟨?_, ?_⟩
        · rw [cell_of hg]
          have h5 : ((cur.toList.drop off).take l.length)[j]? = (l.map (Value.int .i64))[j]? := by rw [hti]
          rw [List.getElem?_take_of_lt hj', List.getElem?_drop, Array.getElem?_toList] at h5
          rw [h5]; simp [hj']
        · simp only [World.frozen?, hg]
          rcases hfr with h5 | h5
          · simp; omega
          · simp; omega
      refine (h1 hl g off cap w hH (heap_lt hg) hl1 hl2).mono fun e w' ⟨he', n, os, hw⟩ => ?_
      subst hw
      have hg' : (grow (putRow (Value.int .i64) (Sort.ahead w n) g off new.toArray) os).heap[g]? = some (.cells (putCells (Value.int .i64) off new.toArray cur) I (lo, hi)) := by
        rw [heap_grow_old _ _ (by simpa using heap_lt hg)]
        simp [putRow, mapBlock, Sort.ahead, Array.getElem?_modify, hg, onCells]
      have hother : ∀ k, k < w.heap.size → k ≠ g → (grow (putRow (Value.int .i64) (Sort.ahead w n) g off new.toArray) os).heap[k]? = w.heap[k]? := fun k hk hne => by
        rw [heap_grow_old _ _ (by simpa using hk)]
        have hne' : ¬ g = k := fun e => hne e.symm
        simp [putRow, mapBlock, Sort.ahead, Array.getElem?_modify, hne']
      have htl : (new.take m).length = m := by rw [List.length_take]; omega
      refine ⟨_, _, [.arr (.slice (some ⟨g, off, none⟩) m cap) I 1 ((new.take m).map AV.int)], he', ⟨_, cap, rfl, rfl, rfl⟩, ⟨?_, ?_, ?_⟩, Rep.lit _, ?_⟩
      · exact hmk.nodup
      · exact hmk.apart
      · intro q hq
        rw [List.mem_singleton.1 hq]
        refine ⟨some ⟨g, off, none⟩, cap, by rw [List.length_map, htl], by rw [List.length_map, htl]; omega, hl2, .inr ⟨g, off, _, lo, hi, rfl, hg', by simpa [putCells] using hsz, hfr, ?_⟩⟩
        refine RepE.ints ?_
        rw [htl]
        have := take_putCells cur off new (by omega)
        have h6 := congrArg (List.take m) this
        rw [List.take_take, Nat.min_eq_left (by omega), ← List.map_take] at h6
        exact h6
      · refine ⟨rfl, rfl, rfl, by simp [grow, Sort.ahead], fun k hk hkn => ?_⟩
        have hne : k ≠ g := fun e => hkn (by rw [e]; exact List.mem_cons_self)
        exact ⟨hother k hk hne, hkn⟩
end Go.Vl
end

section
set_option linter.unusedVariables false
set_option linter.unusedSimpArgs false
namespace Go.Vl
open Go.Lib
def srt (l : List Int) : List Int := l.mergeSort fun x y => decide (x ≤ y)
def norm (l : List Int) : List Int := compact (srt l)
theorem srt_len (l : List Int) : (srt l).length = l.length := by simp [srt]
theorem srt_mem (l : List Int) (x : Int) : x ∈ srt l ↔ x ∈ l := (List.mergeSort_perm l _).mem_iff
theorem srt_asc (l : List Int) : (srt l).Pairwise (· ≤ ·) := by
  have h := List.pairwise_mergeSort (le := fun x y : Int => decide (x ≤ y)) (fun a b c h1 h2 => by simp at h1 h2 ⊢; omega) (fun a b => by simp; omega) l
  exact h.imp fun h => by simpa using h
theorem compact_all' (zs : List Int) (hs : zs.Pairwise (· ≤ ·)) : ∀ m, m ≤ zs.length → (compactUpTo zs.toArray m).Pairwise (· < ·) ∧ (∀ x, x ∈ compactUpTo zs.toArray m ↔ ∃ j, j < m ∧ zs.toArray[j]! = x) ∧ (compactUpTo zs.toArray m).length ≤ m := by
  have hle : ∀ i j, i ≤ j → j < zs.length → zs.toArray[i]! ≤ zs.toArray[j]! := fun i j hij hj => by
    have hi : i < zs.length := by omega
    have e : ∀ k, (hk : k < zs.length) → zs.toArray[k]! = zs[k] := fun k hk => by simp [hk]
    rw [e i hi, e j hj]
    rcases Nat.lt_or_ge i j with h | h
    · exact List.pairwise_iff_getElem.1 hs i j hi hj h
    · obtain rfl : i = j := by omega
      exact Int.le_refl _
  intro m
  induction m with
  | zero => intro _; exact ⟨by simp [compactUpTo], by simp [compactUpTo], by simp [compactUpTo]⟩
  | succ m ih =>
    intro hm
    obtain ⟨h1, h2, h3⟩ := ih (by omega)
    rw [compactUpTo_succ]
    by_cases hk : keeps zs.toArray m = true
    · rw [if_pos hk]
      refine ⟨?_, fun x => ?_, by simp; omega⟩
      · refine List.pairwise_append.2 ⟨h1, by simp, fun x hx y hy => ?_⟩
        rw [List.mem_singleton.1 hy]
        obtain ⟨j, hj, rfl⟩ := (h2 x).1 hx
        have hkk : m = 0 ∨ zs.toArray[m]! ≠ zs.toArray[m - 1]! := by simpa [keeps] using hk
        have a1 := hle j (m - 1) (by omega) (by omega)
        have a2 := hle (m - 1) m (by omega) (by omega)
        rcases hkk with h | h
        · omega
        · have : zs.toArray[m]! ≠ zs.toArray[m - 1]! := h
          omega
      · rw [List.mem_append, List.mem_singleton, h2]
        constructor
        · rintro (⟨j, hj, e⟩ | e)
          · exact ⟨j, by omega, e⟩
          · exact ⟨m, by omega, e.symm⟩
        · rintro ⟨j, hj, e⟩
          rcases Nat.lt_or_ge j m with h | h
          · exact .inl ⟨j, h, e⟩
          · obtain rfl : j = m := by omega
            exact .inr e.symm
    · rw [if_neg hk, List.append_nil]
      have hkk : m ≠ 0 ∧ zs.toArray[m]! = zs.toArray[m - 1]! := by
        have : ¬ (m = 0 ∨ zs.toArray[m]! ≠ zs.toArray[m - 1]!) := by simpa [keeps] using hk
        exact ⟨fun h => this (.inl h), Classical.byContradiction fun h => this (.inr h)⟩
      refine ⟨h1, fun x => ?_, by omega⟩
      rw [h2]
      constructor
      · rintro ⟨j, hj, e⟩; exact ⟨j, by omega, e⟩
      · rintro ⟨j, hj, e⟩
        rcases Nat.lt_or_ge j m with h | h
        · exact ⟨j, h, e⟩
        · obtain rfl : j = m := by omega
          exact ⟨j - 1, by omega, by rw [← hkk.2]; exact e⟩
theorem norm_all (l : List Int) : (norm l).Pairwise (· < ·) ∧ (∀ x, x ∈ norm l ↔ x ∈ l) ∧ (norm l).length ≤ l.length := by
  obtain ⟨h1, h2, h3⟩ := compact_all' (srt l) (srt_asc l) (srt l).length (Nat.le_refl _)
  refine ⟨h1, fun x => ?_, by rw [← srt_len l]; exact h3⟩
  rw [← srt_mem l x]
  refine (h2 x).trans ⟨?_, fun hx => ?_⟩
  · rintro ⟨j, hj, e⟩
    rw [← e]
    simp [hj]
  · obtain ⟨j, hj, rfl⟩ := List.mem_iff_getElem.1 hx
    exact ⟨j, hj, by simp [hj]⟩
theorem norm_mem (l : List Int) (x : Int) : x ∈ norm l ↔ x ∈ l := (norm_all l).2.1 x
theorem norm_len (l : List Int) : (norm l).length ≤ l.length := (norm_all l).2.2
theorem compact_len (l : List Int) (hs : l.Pairwise (· ≤ ·)) : (compact l).length ≤ l.length := (compact_all' l hs l.length (Nat.le_refl _)).2.2
/-- rows that ascend and hold the same are the same -/
theorem asc_ext : ∀ {l m : List Int}, l.Pairwise (· < ·) → m.Pairwise (· < ·) → (∀ x, x ∈ l ↔ x ∈ m) → l = m
  | [], [], _, _, _ => rfl
  | [], b :: m, _, _, h => absurd ((h b).2 List.mem_cons_self) (by simp)
  | a :: l, [], _, _, h => absurd ((h a).1 List.mem_cons_self) (by simp)
  | a :: l, b :: m, hl, hm, h => by
    obtain ⟨l1, l2⟩ := List.pairwise_cons.1 hl
    obtain ⟨m1, m2⟩ := List.pairwise_cons.1 hm
    have hab : a = b := by
      rcases List.mem_cons.1 ((h a).1 List.mem_cons_self) with e | e
      · exact e
      · rcases List.mem_cons.1 ((h b).2 List.mem_cons_self) with e' | e'
        · exact e'.symm
        · have := m1 a e; have := l1 b e'; omega
    subst hab
    congr 1
    refine asc_ext l2 m2 fun x => ?_
    constructor
    · intro hx
      rcases List.mem_cons.1 ((h x).1 (List.mem_cons_of_mem _ hx)) with e | e
      · have := l1 x hx; omega
      · exact e
    · intro hx
      rcases List.mem_cons.1 ((h x).2 (List.mem_cons_of_mem _ hx)) with e | e
      · have := m1 x hx; omega
      · exact e
theorem norm_ext {l m : List Int} (h : ∀ x, x ∈ l ↔ x ∈ m) : norm l = norm m :=
  asc_ext (norm_all l).1 (norm_all m).1 fun x => (norm_mem l x).trans ((h x).trans (norm_mem m x).symm)
/-- digits as_ the library says them -/
theorem itoa_lib (n : Int) (h0 : -1 ≤ n) (h1 : n < 100) : Lib.itoa n = itoa n := by
  unfold Lib.itoa itoa
  by_cases h : n < 0
  · obtain rfl : n = -1 := by omega
    rw [if_pos h, if_pos h, Lib.decDigits, dif_pos (by decide)]; rfl
  · rw [if_neg h, if_neg h]
    by_cases h9 : n < 10
    · rw [if_pos h9, Lib.decDigits, dif_pos (by omega), dgt]
      congr 1
      rw [UInt8.ofNat_add]; rfl
    · rw [if_neg h9, Lib.decDigits, dif_neg (by omega), Lib.decDigits, dif_pos (by omega)]
      show [_, _] = [_, _]
      unfold dgt
      rw [UInt8.ofNat_add, UInt8.ofNat_add]; rfl
end Go.Vl
end

section
set_option linter.unusedVariables false
set_option linter.unusedSimpArgs false
namespace Go.Vl
/-- which places are first, which last, whether the word without letters is meant, which may follow which -/
structure Gl where
  F : Nat → Prop
  L : Nat → Prop
  N : Prop
  E : Nat → Nat → Prop
namespace Gl
/-- words behind a place -/
def rd (ty : Nat → Int) (g : Gl) : Nat → Lg
  | p, [] => g.L p
  | p, c :: w => ∃ q, g.E p q ∧ ty q = c ∧ rd ty g q w
def lg (ty : Nat → Int) (g : Gl) : Lg
  | [] => g.N
  | c :: w => ∃ q, g.F q ∧ ty q = c ∧ rd ty g q w
/-- all places lie from b on and ahead of e -/
structure In (g : Gl) (b e : Nat) : Prop where
  F : ∀ p, g.F p → b ≤ p ∧ p < e
  L : ∀ p, g.L p → b ≤ p ∧ p < e
  E : ∀ p q, g.E p q → (b ≤ p ∧ p < e) ∧ (b ≤ q ∧ q < e)
theorem rd_congr {ty : Nat → Int} {g h : Gl} (R : Nat → Prop) (hL : ∀ p, R p → (g.L p ↔ h.L p)) (hE : ∀ p q, R p → (g.E p q ↔ h.E p q)) (hR : ∀ p q, R p → g.E p q → R q) : ∀ (w : List Int) (p : Nat), R p → (g.rd ty p w ↔ h.rd ty p w)
  | [], p, hp => hL p hp
  | c :: w, p, hp => by
    simp only [rd]
    constructor
    · rintro ⟨q, h1, h2, h3⟩
      exact ⟨q, (hE p q hp).1 h1, h2, (rd_congr R hL hE hR w q (hR p q hp h1)).1 h3⟩
    · rintro ⟨q, h1, h2, h3⟩
      have h1' := (hE p q hp).2 h1
      exact ⟨q, h1', h2, (rd_congr R hL hE hR w q (hR p q hp h1')).2 h3⟩
def one (i : Nat) : Gl := ⟨fun p => p = i, fun p => p = i, False, fun _ _ => False⟩
theorem one_lg (ty : Nat → Int) (i : Nat) : (one i).lg ty = Lg.one (ty i) := Lg.ext fun w => by
  cases w with
  | nil => simp [lg, one, Lg.one]
  | cons c w =>
    simp only [lg, Lg.one, one]
    constructor
    · rintro ⟨q, rfl, rfl, h⟩
      cases w with
      | nil => rfl
      | cons d w => obtain ⟨_, h, _⟩ := h; exact h.elim
    · intro h
      obtain ⟨rfl, rfl⟩ : c = ty i ∧ w = [] := by simpa using h
      exact ⟨i, rfl, rfl, rfl⟩
def nothing (b : Prop) : Gl := ⟨fun _ => False, fun _ => False, b, fun _ _ => False⟩
theorem none_lg (ty : Nat → Int) : (nothing False).lg ty = Lg.none := Lg.ext fun w => by cases w <;> simp [lg, nothing, Lg.none]
theorem eps_lg (ty : Nat → Int) : (nothing True).lg ty = Lg.eps := Lg.ext fun w => by cases w <;> simp [lg, nothing, Lg.eps]
theorem nothing_in (b : Prop) (x : Nat) : (nothing b).In x x := ⟨fun _ h => h.elim, fun _ h => h.elim, fun _ _ h => h.elim⟩
section two
variable {ty : Nat → Int} {g h : Gl} {b m e : Nat}
def or (g h : Gl) : Gl := ⟨fun p => g.F p ∨ h.F p, fun p => g.L p ∨ h.L p, g.N ∨ h.N, fun p q => g.E p q ∨ h.E p q⟩
theorem or_in (hg : g.In b m) (hh : h.In m e) (h1 : b ≤ m) (h2 : m ≤ e) : (or g h).In b e := by
  refine ⟨fun p hp => ?_, fun p hp => ?_, fun p q hp => ?_⟩
  · rcases hp with hp | hp
    · have := hg.F p hp; omega
    · have := hh.F p hp; omega
  · rcases hp with hp | hp
    · have := hg.L p hp; omega
    · have := hh.L p hp; omega
  · rcases hp with hp | hp
    · have := hg.E p q hp; omega
    · have := hh.E p q hp; omega
theorem or_lg (hg : g.In b m) (hh : h.In m e) : (or g h).lg ty = Lg.alt (g.lg ty) (h.lg ty) := Lg.ext fun w => by
  have r1 : ∀ w p, p < m → ((or g h).rd ty p w ↔ g.rd ty p w) := fun w p hp => by
    refine rd_congr (fun p => p < m) (fun p hp => ?_) (fun p q hp => ?_) (fun p q hp hpq => ?_) w p hp
    · exact ⟨fun h' => h'.resolve_right fun h' => by have := hh.L p h'; omega, .inl⟩
    · exact ⟨fun h' => h'.resolve_right fun h' => by have := hh.E p q h'; omega, .inl⟩
    · rcases hpq with h' | h'
      · have := hg.E p q h'; omega
      · have := hh.E p q h'; omega
  have r2 : ∀ w p, m ≤ p → ((or g h).rd ty p w ↔ h.rd ty p w) := fun w p hp => by
    refine rd_congr (fun p => m ≤ p) (fun p hp => ?_) (fun p q hp => ?_) (fun p q hp hpq => ?_) w p hp
    · exact ⟨fun h' => h'.resolve_left fun h' => by have := hg.L p h'; omega, .inr⟩
    · exact ⟨fun h' => h'.resolve_left fun h' => by have := hg.E p q h'; omega, .inr⟩
    · rcases hpq with h' | h'
      · have := hg.E p q h'; omega
      · have := hh.E p q h'; omega
  cases w with
  | nil => exact Iff.rfl
  | cons c w =>
    simp only [lg, Lg.alt]
    constructor
    · rintro ⟨q, hq | hq, h2, h3⟩
      · exact .inl ⟨q, hq, h2, (r1 w q (hg.F q hq).2).1 h3⟩
      · exact .inr ⟨q, hq, h2, (r2 w q (hh.F q hq).1).1 h3⟩
    · rintro (⟨q, hq, h2, h3⟩ | ⟨q, hq, h2, h3⟩)
      · exact ⟨q, .inl hq, h2, (r1 w q (hg.F q hq).2).2 h3⟩
      · exact ⟨q, .inr hq, h2, (r2 w q (hh.F q hq).1).2 h3⟩
def seq (g h : Gl) : Gl := ⟨fun p => g.F p ∨ (g.N ∧ h.F p), fun p => (h.N ∧ g.L p) ∨ h.L p, g.N ∧ h.N, fun p q => (g.E p q ∨ h.E p q) ∨ (g.L p ∧ h.F q)⟩
theorem seq_in (hg : g.In b m) (hh : h.In m e) (h1 : b ≤ m) (h2 : m ≤ e) : (seq g h).In b e := by
  refine ⟨fun p hp => ?_, fun p hp => ?_, fun p q hp => ?_⟩
  · rcases hp with hp | ⟨_, hp⟩
    · have := hg.F p hp; omega
    · have := hh.F p hp; omega
  · rcases hp with ⟨_, hp⟩ | hp
    · have := hg.L p hp; omega
    · have := hh.L p hp; omega
  · rcases hp with (hp | hp) | ⟨hp, hq⟩
    · have := hg.E p q hp; omega
    · have := hh.E p q hp; omega
    · have := hg.L p hp; have := hh.F q hq; omega
theorem seq_lg (hg : g.In b m) (hh : h.In m e) : (seq g h).lg ty = Lg.cat (g.lg ty) (h.lg ty) := Lg.ext fun w => by
  have r2 : ∀ w p, m ≤ p → ((seq g h).rd ty p w ↔ h.rd ty p w) := fun w p hp => by
    refine rd_congr (fun p => m ≤ p) (fun p hp => ?_) (fun p q hp => ?_) (fun p q hp hpq => ?_) w p hp
    · exact ⟨fun h' => h'.resolve_left fun h' => by have := hg.L p h'.2; omega, .inr⟩
    · exact ⟨fun h' => (h'.resolve_right fun h' => by have := hg.L p h'.1; omega).resolve_left fun h' => by have := hg.E p q h'; omega, fun h' => .inl (.inr h')⟩
    · rcases hpq with (h' | h') | ⟨h', h''⟩
      · have := hg.E p q h'; omega
      · have := hh.E p q h'; omega
      · have := hg.L p h'; omega
  have r1 : ∀ w p, p < m → ((seq g h).rd ty p w ↔ ∃ u v, w = u ++ v ∧ g.rd ty p u ∧ h.lg ty v) := by
    intro w
    induction w with
    | nil =>
      intro p hp
      constructor
      · rintro (⟨h1, h2⟩ | h1)
        · exact ⟨[], [], rfl, h2, h1⟩
        · have := hh.L p h1; omega
      · rintro ⟨u, v, e, h1, h2⟩
        obtain ⟨rfl, rfl⟩ := List.append_eq_nil_iff.1 e.symm
        exact .inl ⟨h2, h1⟩
    | cons c w ih =>
      intro p hp
      simp only [rd]
      constructor
      · rintro ⟨q, (h1 | h1) | ⟨h1, h1'⟩, h2, h3⟩
        · obtain ⟨u, v, rfl, h4, h5⟩ := (ih q (hg.E p q h1).2.2).1 h3
          exact ⟨c :: u, v, rfl, ⟨q, h1, h2, h4⟩, h5⟩
        · have := hh.E p q h1; omega
        · exact ⟨[], c :: w, rfl, h1, q, h1', h2, (r2 w q (hh.F q h1').1).1 h3⟩
      · rintro ⟨u, v, e, h1, h2⟩
        cases u with
        | nil =>
          have e : c :: w = v := e
          subst e
          obtain ⟨q, h3, h4, h5⟩ := h2
          exact ⟨q, .inr ⟨h1, h3⟩, h4, (r2 w q (hh.F q h3).1).2 h5⟩
        | cons d u =>
          obtain ⟨rfl, rfl⟩ : c = d ∧ w = u ++ v := by simpa using e
          obtain ⟨q, h3, h4, h5⟩ := h1
          exact ⟨q, .inl (.inl h3), h4, (ih q (hg.E p q h3).2.2).2 ⟨u, v, rfl, h5, h2⟩⟩
  cases w with
  | nil =>
    constructor
    · rintro ⟨h1, h2⟩; exact ⟨[], [], rfl, h1, h2⟩
    · rintro ⟨u, v, e, h1, h2⟩
      obtain ⟨rfl, rfl⟩ := List.append_eq_nil_iff.1 e.symm
      exact ⟨h1, h2⟩
  | cons c w =>
    constructor
    · rintro ⟨q, h1 | ⟨h1, h1'⟩, h2, h3⟩
      · obtain ⟨u, v, rfl, h4, h5⟩ := (r1 w q (hg.F q h1).2).1 h3
        exact ⟨c :: u, v, rfl, ⟨q, h1, h2, h4⟩, h5⟩
      · exact ⟨[], c :: w, rfl, h1, q, h1', h2, (r2 w q (hh.F q h1').1).1 h3⟩
    · rintro ⟨u, v, e, h1, h2⟩
      cases u with
      | nil =>
        have e : c :: w = v := e
        subst e
        obtain ⟨q, h3, h4, h5⟩ := h2
        exact ⟨q, .inr ⟨h1, h3⟩, h4, (r2 w q (hh.F q h3).1).2 h5⟩
      | cons d u =>
        obtain ⟨rfl, rfl⟩ : c = d ∧ w = u ++ v := by simpa using e
        obtain ⟨q, h3, h4, h5⟩ := h1
        exact ⟨q, .inl h3, h4, (r1 (u ++ v) q (hg.F q h3).2).2 ⟨u, v, rfl, h5, h2⟩⟩
/-- what is last may be followed by what is first -/
def loop (g : Gl) (n : Prop) : Gl := ⟨g.F, g.L, n, fun p q => g.E p q ∨ (g.L p ∧ g.F q)⟩
theorem loop_in {n : Prop} (hg : g.In b e) : (loop g n).In b e := by
  refine ⟨hg.F, hg.L, fun p q hp => ?_⟩
  rcases hp with hp | ⟨hp, hq⟩
  · exact hg.E p q hp
  · exact ⟨hg.L p hp, hg.F q hq⟩
theorem star_cons {A : Lg} {z : List Int} (hz : Lg.star A z) : ∀ c w, z = c :: w → ∃ u v, w = u ++ v ∧ A (c :: u) ∧ Lg.star A v := by
  induction hz with
  | nil => intro c w e; cases e
  | cons u v hu hv ih =>
    intro c w e
    cases u with
    | nil => exact ih c w e
    | cons d u =>
      obtain ⟨rfl, rfl⟩ : d = c ∧ u ++ v = w := by simpa using e
      exact ⟨u, v, rfl, hu, hv⟩
theorem loop_rd {n : Prop} : ∀ (w : List Int) (p : Nat), (loop g n).rd ty p w ↔ ∃ u v, w = u ++ v ∧ g.rd ty p u ∧ Lg.star (g.lg ty) v
  | [], p => by
    constructor
    · intro h1; exact ⟨[], [], rfl, h1, .nil⟩
    · rintro ⟨u, v, e, h1, h2⟩
      obtain ⟨rfl, rfl⟩ := List.append_eq_nil_iff.1 e.symm
      exact h1
  | c :: w, p => by
    have ih := loop_rd (n := n) w
    simp only [rd]
    constructor
    · rintro ⟨q, h1 | ⟨h1, h1'⟩, h2, h3⟩
      · obtain ⟨u, v, rfl, h4, h5⟩ := (ih q).1 h3
        exact ⟨c :: u, v, rfl, ⟨q, h1, h2, h4⟩, h5⟩
      · obtain ⟨u, v, rfl, h4, h5⟩ := (ih q).1 h3
        exact ⟨[], c :: (u ++ v), rfl, h1, .cons (c :: u) v ⟨q, h1', h2, h4⟩ h5⟩
    · rintro ⟨u, v, e, h1, h2⟩
      cases u with
      | nil =>
        have e : c :: w = v := e
        obtain ⟨u, v, rfl, ⟨q, h3, h4, h5⟩, h6⟩ := star_cons h2 c w e.symm
        exact ⟨q, .inr ⟨h1, h3⟩, h4, (ih q).2 ⟨u, v, rfl, h5, h6⟩⟩
      | cons d u =>
        obtain ⟨rfl, rfl⟩ : c = d ∧ w = u ++ v := by simpa using e
        obtain ⟨q, h3, h4, h5⟩ := h1
        exact ⟨q, .inl h3, h4, (ih q).2 ⟨u, v, rfl, h5, h2⟩⟩
theorem loop_lg_cons {n : Prop} (c : Int) (w : List Int) : (loop g n).lg ty (c :: w) ↔ Lg.star (g.lg ty) (c :: w) := by
  constructor
  · rintro ⟨q, h1, h2, h3⟩
    obtain ⟨u, v, rfl, h4, h5⟩ := (loop_rd w q).1 h3
    exact .cons (c :: u) v ⟨q, h1, h2, h4⟩ h5
  · intro h1
    obtain ⟨u, v, rfl, ⟨q, h3, h4, h5⟩, h6⟩ := star_cons h1 c w rfl
    exact ⟨q, h3, h4, (loop_rd (u ++ v) q).2 ⟨u, v, rfl, h5, h6⟩⟩
theorem star_lg : (loop g True).lg ty = Lg.star (g.lg ty) := Lg.ext fun w => by
  cases w with
  | nil => exact ⟨fun _ => .nil, fun _ => trivial⟩
  | cons c w => exact loop_lg_cons c w
theorem plus_lg : (loop g g.N).lg ty = Lg.cat (g.lg ty) (Lg.star (g.lg ty)) := Lg.ext fun w => by
  cases w with
  | nil =>
    constructor
    · intro h1; exact ⟨[], [], rfl, h1, .nil⟩
    · rintro ⟨u, v, e, h1, h2⟩
      obtain ⟨rfl, rfl⟩ := List.append_eq_nil_iff.1 e.symm
      exact h1
  | cons c w =>
    rw [loop_lg_cons]
    constructor
    · intro h1
      obtain ⟨u, v, rfl, h2, h3⟩ := star_cons h1 c w rfl
      exact ⟨c :: u, v, rfl, h2, h3⟩
    · rintro ⟨u, v, e, h1, h2⟩
      rw [e]; exact .cons u v h1 h2
def opt (g : Gl) : Gl := ⟨g.F, g.L, True, g.E⟩
theorem opt_in (hg : g.In b e) : (opt g).In b e := ⟨hg.F, hg.L, hg.E⟩
theorem opt_lg : (opt g).lg ty = Lg.alt Lg.eps (g.lg ty) := Lg.ext fun w => by
  cases w with
  | nil => exact ⟨fun _ => .inl rfl, fun _ => trivial⟩
  | cons c w =>
    have hr : ∀ w p, (opt g).rd ty p w ↔ g.rd ty p w := fun w p => rd_congr (g := opt g) (h := g) (fun _ => True) (fun _ _ => Iff.rfl) (fun _ _ _ => Iff.rfl) (fun _ _ _ _ => trivial) w p trivial
    constructor
    · rintro ⟨q, h1, h2, h3⟩; exact .inr ⟨q, h1, h2, (hr w q).1 h3⟩
    · rintro (h1 | ⟨q, h1, h2, h3⟩)
      · cases h1
      · exact ⟨q, h1, h2, (hr w q).2 h3⟩
/-- other letters elsewhere do not count -/
theorem lg_ty {ty' : Nat → Int} (hg : g.In b e) (ht : ∀ p, b ≤ p → p < e → ty p = ty' p) : g.lg ty = g.lg ty' := Lg.ext fun w => by
  have hr : ∀ w p, g.rd ty p w ↔ g.rd ty' p w := by
    intro w
    induction w with
    | nil => intro p; exact Iff.rfl
    | cons c w ih =>
      intro p
      simp only [rd]
      constructor
      · rintro ⟨q, h1, h2, h3⟩
        have := (hg.E p q h1).2
        exact ⟨q, h1, by rw [← ht q this.1 this.2]; exact h2, (ih q).1 h3⟩
      · rintro ⟨q, h1, h2, h3⟩
        have := (hg.E p q h1).2
        exact ⟨q, h1, by rw [ht q this.1 this.2]; exact h2, (ih q).2 h3⟩
  cases w with
  | nil => exact Iff.rfl
  | cons c w =>
    simp only [lg]
    constructor
    · rintro ⟨q, h1, h2, h3⟩
      have := hg.F q h1
      exact ⟨q, h1, by rw [← ht q this.1 this.2]; exact h2, (hr w q).1 h3⟩
    · rintro ⟨q, h1, h2, h3⟩
      have := hg.F q h1
      exact ⟨q, h1, by rw [ht q this.1 this.2]; exact h2, (hr w q).2 h3⟩
theorem ext' {g h : Gl} (hF : ∀ p, g.F p ↔ h.F p) (hL : ∀ p, g.L p ↔ h.L p) (hN : g.N ↔ h.N) (hE : ∀ p q, g.E p q ↔ h.E p q) : g = h := by
  cases g; cases h
  simp only [Gl.mk.injEq]
  exact ⟨funext fun p => propext (hF p), funext fun p => propext (hL p), propext hN, funext fun p => funext fun q => propext (hE p q)⟩
end two
end Gl
end Go.Vl
end

section
set_option linter.unusedVariables false
set_option linter.unusedSimpArgs false
set_option linter.unusedSectionVars false
namespace Go.Vl
theorem bl_set {M : List ME} {i : Nat} {m m' : ME} (hM : M[i]? = some m) (hb : m'.blks = m.blks) : bl (M.set i m') = bl M := by
  induction M generalizing i with
  | nil => cases hM
  | cons q M ih =>
    cases i with
    | zero =>
      have hM : q = m := by simpa using hM
      subst hM
      show m'.blks ++ bl M = q.blks ++ bl M
      rw [hb]
    | succ i =>
      have := ih (i := i) hM
      show q.blks ++ bl (M.set i m') = q.blks ++ bl M
      rw [this]
/-- what is known of a block, said in another way -/
theorem W.me {x : Cx} {L : List (Tmp × Bool × AV)} {M : List ME} {R : Act → World → Prop} (i : Nat) {m m' : ME} (hM : M[i]? = some m) (hb : m'.blks = m.blks) (hh : ∀ w N, m.holds w N → m'.holds w N) (next : W x L (M.set i m') R) : W x L M R := by
  intro a w hs
  have e := bl_set hM hb
  refine next a w ⟨hs.defers, hs.size, by rw [e]; exact hs.slots, ⟨by rw [e]; exact hs.mem.nodup, by rw [e]; exact hs.mem.apart, ?_⟩, by rw [e]; exact hs.fr, hs.old⟩
  intro q hq
  rw [e]
  rcases List.mem_or_eq_of_mem_set hq with h | h
  · exact hs.mem.holds q h
  · rw [h]; exact hh _ _ (hs.mem.holds m (List.mem_of_getElem? hM))
def tailV (g off k n cap : Nat) : Value := .slice (if cap = 1 then some ⟨g, off, none⟩ else some ⟨g, off + 1 * k, none⟩) (n - 1) (cap - 1)
theorem W.arr_tail {x : Cx} {L : List (Tmp × Bool × AV)} {M : List ME} {R : Act → World → Prop} (i : Nat) {g off n cap U k : Nat} {es : List AV} (hM : M[i]? = some (ME.arr (.slice (some ⟨g, off, none⟩) n cap) U k es)) (hn : 0 < es.length)
    (next : W x L (M.set i (ME.arr (tailV g off k n cap) U k (es.drop 1))) R) : W x L M R := by
  refine W.me i hM ?_ ?_ next
  · unfold tailV; split <;> rfl
  · intro w N h
    obtain ⟨a, c, e, h1, h2, h3⟩ := h
    obtain ⟨rfl, rfl, rfl⟩ : some (⟨g, off, none⟩ : Addr) = a ∧ n = es.length ∧ cap = c := by simpa using e
    have hl : (es.drop 1).length = es.length - 1 := List.length_drop ..
    refine ⟨if cap = 1 then some ⟨g, off, none⟩ else some ⟨g, off + 1 * k, none⟩, cap - 1, by unfold tailV; rw [hl], by omega, by omega, ?_⟩
    rcases h3 with ⟨h3, _⟩ | ⟨g', off', cur, lo, hi, ha, hc, hsz, hfr, he⟩
    · cases h3
    · cases ha
      right
      by_cases hc1 : cap = 1
      · rw [if_pos hc1]
        have : es.drop 1 = [] := List.eq_nil_of_length_eq_zero (by omega)
        refine ⟨g, off, cur, lo, hi, rfl, hc, by rw [hc1]; simp; omega, ?_, by rw [this]; simp only [RepE]⟩
        rw [hc1]; simp
        rcases hfr with h | h
        · exact .inl h
        · right; omega
      · rw [if_neg hc1]
        have hck : cap * k = (cap - 1) * k + k := by
          have : cap = (cap - 1) + 1 := by omega
          rw [this, Nat.add_mul]; simp
        refine ⟨g, off + 1 * k, cur, lo, hi, rfl, hc, by omega, by rcases hfr with h | h; exact .inl h; right; omega, ?_⟩
        have := RepE.drop (n := 1) he (by omega)
        rwa [List.drop_drop] at this
/-- an entry of the queue -/
def qav (q : Nat × List Int) : AV := .agg [.int (q.1 : Int), .sl 1 (q.2.map AV.int)]
theorem outs_succ (n : Nat) (f : Nat → Bool) : outs (n + 1) f = outs n f + (if f n = true then 0 else 1) := by
  unfold outs
  rw [List.range_succ, List.filter_append, List.length_append]
  congr 1
  simp only [List.filter_cons, List.filter_nil]
  cases f n <;> rfl
theorem outs_set {n t : Nat} {f : Nat → Bool} (ht : t < n) (hf : f t = false) : outs n (fun k => if k = t then true else f k) + 1 = outs n f := by
  induction n with
  | zero => omega
  | succ n ih =>
    rw [outs_succ, outs_succ]
    rcases Nat.lt_or_ge t n with h | h
    · have := ih h
      rw [if_neg (show n ≠ t from by omega)]; omega
    · obtain rfl : t = n := by omega
      have e : outs t (fun k => if k = t then true else f k) = outs t f := outs_congr fun k hk => if_neg (by omega)
      rw [e, if_pos rfl, if_pos rfl, hf]; simp
theorem outs_none (n : Nat) : outs n (fun _ => false) = n := by
  induction n with
  | zero => rfl
  | succ n ih => rw [outs_succ, ih]; rfl
theorem outs_first {n : Nat} (hn : 0 < n) : outs n (fun s => decide (s = 0)) + 1 = n := by
  have := outs_set (n := n) (t := 0) (f := fun _ => false) hn rfl
  rw [outs_none] at this
  have e : outs n (fun s => decide (s = 0)) = outs n (fun k => if k = 0 then true else false) := outs_congr fun k _ => by by_cases h : k = 0 <;> simp [h]
  rw [e]; exact this
theorem row_seen (n : Nat) : (List.replicate n (AV.bool false)).set 0 (AV.bool true) = rowB n (fun s => decide (s = 0)) := by
  rw [row_first]
  exact rowB_congr n _ _ fun k _ => by by_cases h : k = 0 <;> simp [h]
end Go.Vl
end

section
set_option linter.unusedVariables false
set_option linter.unusedSimpArgs false
namespace Go.Vl
abbrev natv (n : Nat) : AV := .int (n : Int)
theorem okc_natv (l : List Nat) : ∀ e ∈ l.map natv, e.okc = true := by
  intro e he
  obtain ⟨k, _, rfl⟩ := List.mem_map.1 he
  rfl
theorem getD_set {α : Type} (l : List α) (r : Nat) (x z : α) (p : Nat) : (l.set r x).getD p z = if p = r ∧ r < l.length then x else l.getD p z := by
  rw [List.getD_eq_getElem?_getD, List.getElem?_set, List.getD_eq_getElem?_getD]
  by_cases h : r = p
  · subst h
    by_cases h2 : r < l.length
    · rw [if_pos rfl, if_pos h2, if_pos ⟨rfl, h2⟩]; rfl
    · rw [if_pos rfl, if_neg h2, if_neg (fun h => h2 h.2), List.getElem?_eq_none (by omega)]
  · rw [if_neg h, if_neg (fun h' => h h'.1.symm)]
theorem getD_over {α : Type} (l : List α) (z : α) {p : Nat} (h : l.length ≤ p) : l.getD p z = z := by
  rw [List.getD_eq_getElem?_getD, List.getElem?_eq_none h]; rfl
theorem getD_app {α : Type} (l m : List α) (z : α) {p : Nat} (h : p < l.length) : (l ++ m).getD p z = l.getD p z := by
  rw [List.getD_eq_getElem?_getD, List.getElem?_append_left h, List.getD_eq_getElem?_getD]
abbrev Fol := List (List Nat)
/-- links, so far: from all ahead of i to all; from the i-th to those ahead of j -/
structure LnkP (F F' : Fol) (fr to : List Nat) (i j : Nat) : Prop where
  len : F'.length = F.length
  mem : ∀ p q, p < F.length → (q ∈ F'.getD p [] ↔ q ∈ F.getD p [] ∨ (p ∈ fr.take i ∧ q ∈ to) ∨ (i < fr.length ∧ p = fr.getD i 0 ∧ q ∈ to.take j))
  keep : ∀ p, p ∉ fr → F'.getD p [] = F.getD p []
  nodup : ∀ p, (F.getD p []).Nodup → (F'.getD p []).Nodup
structure Lnk (F F' : Fol) (fr to : List Nat) : Prop where
  len : F'.length = F.length
  mem : ∀ p q, p < F.length → (q ∈ F'.getD p [] ↔ q ∈ F.getD p [] ∨ (p ∈ fr ∧ q ∈ to))
  keep : ∀ p, p ∉ fr → F'.getD p [] = F.getD p []
  nodup : ∀ p, (F.getD p []).Nodup → (F'.getD p []).Nodup
section lnk
variable {F F' : Fol} {fr to : List Nat} {i j : Nat}
theorem LnkP.start (F : Fol) (fr to : List Nat) : LnkP F F fr to 0 0 := ⟨rfl, fun p q _ => by simp, fun _ _ => rfl, fun _ h => h⟩
theorem LnkP.row (h : LnkP F F' fr to i to.length) (hi : i < fr.length) : LnkP F F' fr to (i + 1) 0 := by
  refine ⟨h.len, fun p q hp => ?_, h.keep, h.nodup⟩
  rw [h.mem p q hp, take_getDG 0 fr i hi, List.mem_append, List.mem_singleton, List.take_length, List.take_zero]
  constructor
  · rintro (h1 | ⟨h1, h2⟩ | ⟨_, h1, h2⟩)
    · exact .inl h1
    · exact .inr (.inl ⟨.inl h1, h2⟩)
    · exact .inr (.inl ⟨.inr h1, h2⟩)
  · rintro (h1 | ⟨h1 | h1, h2⟩ | ⟨_, _, h2⟩)
    · exact .inl h1
    · exact .inr (.inl ⟨h1, h2⟩)
    · exact .inr (.inr ⟨hi, h1, h2⟩)
    · cases h2
theorem LnkP.skip (h : LnkP F F' fr to i j) (hi : i < fr.length) (hj : j < to.length) (hr : fr.getD i 0 < F.length) (hk : to.getD j 0 ∈ F'.getD (fr.getD i 0) []) : LnkP F F' fr to i (j + 1) := by
  refine ⟨h.len, fun p q hp => ?_, h.keep, h.nodup⟩
  rw [take_getDG 0 to j hj, List.mem_append, List.mem_singleton]
  constructor
  · intro hq
    rcases (h.mem p q hp).1 hq with h1 | h1 | ⟨h1, h2, h3⟩
    · exact .inl h1
    · exact .inr (.inl h1)
    · exact .inr (.inr ⟨h1, h2, .inl h3⟩)
  · rintro (h1 | h1 | ⟨h1, h2, h3 | h3⟩)
    · exact (h.mem p q hp).2 (.inl h1)
    · exact (h.mem p q hp).2 (.inr (.inl h1))
    · exact (h.mem p q hp).2 (.inr (.inr ⟨h1, h2, h3⟩))
    · rw [h3, h2]; exact hk
theorem LnkP.add (h : LnkP F F' fr to i j) (hi : i < fr.length) (hj : j < to.length) (hr : fr.getD i 0 < F.length) (hk : to.getD j 0 ∉ F'.getD (fr.getD i 0) []) :
    LnkP F (F'.set (fr.getD i 0) (F'.getD (fr.getD i 0) [] ++ [to.getD j 0])) fr to i (j + 1) := by
  have hg : ∀ p, (F'.set (fr.getD i 0) (F'.getD (fr.getD i 0) [] ++ [to.getD j 0])).getD p [] = if p = fr.getD i 0 then F'.getD (fr.getD i 0) [] ++ [to.getD j 0] else F'.getD p [] := fun p => by
    rw [getD_set]
    by_cases e : p = fr.getD i 0
    · rw [if_pos e, if_pos ⟨e, by rw [h.len]; exact hr⟩]
    · rw [if_neg e, if_neg (fun h => e h.1)]
  refine ⟨by rw [List.length_set]; exact h.len, fun p q hp => ?_, fun p hp => ?_, fun p hp => ?_⟩
  · rw [hg, take_getDG 0 to j hj, List.mem_append, List.mem_singleton]
    by_cases e : p = fr.getD i 0
    · rw [if_pos e, List.mem_append, List.mem_singleton, ← e, h.mem p q hp]
      constructor
      · rintro ((h1 | h1 | ⟨h1, h2, h3⟩) | h1)
        · exact .inl h1
        · exact .inr (.inl h1)
        · exact .inr (.inr ⟨h1, rfl, .inl h3⟩)
        · exact .inr (.inr ⟨hi, rfl, .inr h1⟩)
      · rintro (h1 | h1 | ⟨h1, h2, h3 | h3⟩)
        · exact .inl (.inl h1)
        · exact .inl (.inr (.inl h1))
        · exact .inl (.inr (.inr ⟨h1, e, h3⟩))
        · exact .inr h3
    · rw [if_neg e, h.mem p q hp]
      constructor
      · rintro (h1 | h1 | ⟨h1, h2, h3⟩)
        · exact .inl h1
        · exact .inr (.inl h1)
        · exact absurd h2 e
      · rintro (h1 | h1 | ⟨h1, h2, h3⟩)
        · exact .inl h1
        · exact .inr (.inl h1)
        · exact absurd h2 e
  · have e : p ≠ fr.getD i 0 := fun e => hp (e ▸ getD_memG 0 fr i hi)
    rw [hg, if_neg e]; exact h.keep p hp
  · rw [hg]
    split
    · rename_i e
      have := h.nodup p hp
      rw [e] at this
      exact List.nodup_append.2 ⟨this, by simp, fun a ha b hb e => hk (by rw [← List.mem_singleton.1 hb, ← e]; exact ha)⟩
    · exact h.nodup p hp
theorem LnkP.done (h : LnkP F F' fr to fr.length 0) : Lnk F F' fr to := by
  refine ⟨h.len, fun p q hp => ?_, h.keep, h.nodup⟩
  rw [h.mem p q hp, List.take_length]
  constructor
  · rintro (h1 | h1 | ⟨h1, _⟩)
    · exact .inl h1
    · exact .inr h1
    · omega
  · rintro (h1 | h1)
    · exact .inl h1
    · exact .inr (.inl h1)
end lnk
def tyOf (tys : List Int) (p : Nat) : Int := tys.getD p 0
def glOf (b : Nat) (F : Fol) (fi la : List Nat) (no : Bool) : Gl := ⟨fun p => p ∈ fi, fun p => p ∈ la, no = true, fun p q => b ≤ p ∧ q ∈ F.getD p []⟩
/-- places that came in: those of a part that means A -/
structure Pl (t0 : List Int) (F0 : Fol) (t : List Int) (F : Fol) (fi la : List Nat) (no : Bool) (A : Lg) : Prop where
  ext : ∃ u, t = t0 ++ u
  len : F.length = t.length
  old : ∀ p, p < t0.length → F.getD p [] = F0.getD p []
  inn : (glOf t0.length F fi la no).In t0.length t.length
  lang : (glOf t0.length F fi la no).lg (tyOf t) = A
  nodup : ∀ p, t0.length ≤ p → (F.getD p []).Nodup
  lf : fi.length + t0.length ≤ t.length
  ll : la.length + t0.length ≤ t.length
section pl
variable {t0 t1 t2 : List Int} {F0 F1 F2 F3 : Fol} {f1 l1 f2 l2 : List Nat} {n1 n2 : Bool} {A B : Lg}
theorem Pl.le (h : Pl t0 F0 t1 F1 f1 l1 n1 A) : t0.length ≤ t1.length := by
  obtain ⟨u, rfl⟩ := h.ext; rw [List.length_append]; omega
theorem Pl.nothing (h0 : F0.length = t0.length) (no : Bool) : Pl t0 F0 t0 F0 [] [] no (if no = true then Lg.eps else Lg.none) := by
  have e : glOf t0.length F0 [] [] no = Gl.nothing (no = true) := Gl.ext' (fun p => by simp [glOf, Gl.nothing]) (fun p => by simp [glOf, Gl.nothing]) Iff.rfl (fun p q => by
    simp only [glOf, Gl.nothing, iff_false]
    rintro ⟨h1, h2⟩
    rw [getD_over F0 [] (by omega)] at h2; cases h2)
  refine ⟨⟨[], by simp⟩, h0, fun _ _ => rfl, by rw [e]; exact Gl.nothing_in _ _, ?_, fun p hp => by rw [getD_over F0 [] (by omega)]; exact List.nodup_nil, by simp, by simp⟩
  rw [e]
  cases no with
  | true => rw [if_pos rfl, show (true = true) = True from eq_self _]; exact Gl.eps_lg _
  | false => rw [if_neg (by decide), show (false = true) = False from by simp]; exact Gl.none_lg _
theorem Pl.one (h0 : F0.length = t0.length) (c : Int) : Pl t0 F0 (t0 ++ [c]) (F0 ++ [[]]) [t0.length] [t0.length] false (Lg.one c) := by
  have hF : ∀ p, t0.length ≤ p → (F0 ++ [[]]).getD p [] = [] := fun p hp => by
    rcases Nat.lt_or_ge p (F0.length + 1) with h | h
    · obtain rfl : p = F0.length := by omega
      rw [List.getD_eq_getElem?_getD, List.getElem?_append_right (Nat.le_refl _), Nat.sub_self]; rfl
    · exact getD_over _ _ (by rw [List.length_append, List.length_singleton]; exact h)
  have e : glOf t0.length (F0 ++ [[]]) [t0.length] [t0.length] false = Gl.one t0.length := Gl.ext' (fun p => by simp [glOf, Gl.one]) (fun p => by simp [glOf, Gl.one]) (by simp [glOf, Gl.one]) (fun p q => by
    simp only [glOf, Gl.one, iff_false]
    rintro ⟨h1, h2⟩
    rw [hF p h1] at h2; cases h2)
  refine ⟨⟨[c], rfl⟩, by rw [List.length_append, List.length_append, h0]; rfl, fun p hp => getD_app _ _ _ (by omega), ?_, ?_, fun p hp => by rw [hF p hp]; exact List.nodup_nil, ?_, ?_⟩
  · rw [e, List.length_append, List.length_singleton]
    refine ⟨fun p hp => ?_, fun p hp => ?_, fun p q h => h.elim⟩
    · have hp : p = t0.length := hp
      omega
    · have hp : p = t0.length := hp
      omega
  · rw [e, Gl.one_lg]
    congr 1
    unfold tyOf
    rw [List.getD_eq_getElem?_getD, List.getElem?_append_right (Nat.le_refl _), Nat.sub_self]; rfl
  · rw [List.length_append]; simp; omega
  · rw [List.length_append]; simp; omega
theorem Pl.ty (h : Pl t0 F0 t1 F1 f1 l1 n1 A) {t : List Int} (hx : ∃ u, t = t1 ++ u) : (glOf t0.length F1 f1 l1 n1).lg (tyOf t) = A := by
  rw [← h.lang]
  obtain ⟨u, rfl⟩ := hx
  exact Gl.lg_ty h.inn fun p _ hp => getD_app _ _ _ hp
theorem Pl.exts (h1 : Pl t0 F0 t1 F1 f1 l1 n1 A) (h2 : Pl t1 F1 t2 F2 f2 l2 n2 B) : ∃ u, t2 = t0 ++ u := by
  obtain ⟨u, rfl⟩ := h1.ext
  obtain ⟨v, e⟩ := h2.ext
  exact ⟨u ++ v, by rw [e, List.append_assoc]⟩
/-- what may follow what, in both parts -/
theorem Pl.fols (h1 : Pl t0 F0 t1 F1 f1 l1 n1 A) (h2 : Pl t1 F1 t2 F2 f2 l2 n2 B) (p q : Nat) : (t0.length ≤ p ∧ q ∈ F2.getD p []) ↔ (t0.length ≤ p ∧ q ∈ F1.getD p []) ∨ (t1.length ≤ p ∧ q ∈ F2.getD p []) := by
  have hle := h1.le
  constructor
  · rintro ⟨a, b⟩
    rcases Nat.lt_or_ge p t1.length with h | h
    · exact .inl ⟨a, by rw [← h2.old p h]; exact b⟩
    · exact .inr ⟨h, b⟩
  · rintro (⟨a, b⟩ | ⟨a, b⟩)
    · rcases Nat.lt_or_ge p t1.length with h | h
      · exact ⟨a, by rw [h2.old p h]; exact b⟩
      · rw [getD_over F1 [] (by rw [h1.len]; exact h)] at b; cases b
    · exact ⟨by omega, b⟩
theorem Pl.or (h1 : Pl t0 F0 t1 F1 f1 l1 n1 A) (h2 : Pl t1 F1 t2 F2 f2 l2 n2 B) : Pl t0 F0 t2 F2 (f1 ++ f2) (l1 ++ l2) (n1 || n2) (Lg.alt A B) := by
  have hl1 := h1.le
  have hl2 := h2.le
  have e : glOf t0.length F2 (f1 ++ f2) (l1 ++ l2) (n1 || n2) = Gl.or (glOf t0.length F1 f1 l1 n1) (glOf t1.length F2 f2 l2 n2) :=
    Gl.ext' (fun p => by simp [glOf, Gl.or]) (fun p => by simp [glOf, Gl.or]) (by simp [glOf, Gl.or]) (fun p q => h1.fols h2 p q)
  refine ⟨h1.exts h2, h2.len, fun p hp => by rw [h2.old p (by omega), h1.old p hp], by rw [e]; exact Gl.or_in h1.inn h2.inn hl1 hl2, ?_, fun p hp => ?_, ?_, ?_⟩
  · rw [e, Gl.or_lg h1.inn h2.inn, h1.ty h2.ext, h2.lang]
  · rcases Nat.lt_or_ge p t1.length with h | h
    · rw [h2.old p h]; exact h1.nodup p hp
    · exact h2.nodup p h
  · rw [List.length_append]; have := h1.lf; have := h2.lf; omega
  · rw [List.length_append]; have := h1.ll; have := h2.ll; omega
theorem Pl.seq (h1 : Pl t0 F0 t1 F1 f1 l1 n1 A) (h2 : Pl t1 F1 t2 F2 f2 l2 n2 B) (hk : Lnk F2 F3 l1 f2) : Pl t0 F0 t2 F3 (if n1 = true then f1 ++ f2 else f1) ((if n2 = true then l1 else []) ++ l2) (n1 && n2) (Lg.cat A B) := by
  have hl1 := h1.le
  have hl2 := h2.le
  have hin1 : ∀ p, p ∈ l1 → t0.length ≤ p ∧ p < t1.length := fun p hp => h1.inn.L p hp
  have hmem : ∀ p q, q ∈ F3.getD p [] ↔ q ∈ F2.getD p [] ∨ (p ∈ l1 ∧ q ∈ f2) := fun p q => by
    rcases Nat.lt_or_ge p F2.length with h | h
    · exact hk.mem p q h
    · rw [getD_over F3 [] (by rw [hk.len]; exact h), getD_over F2 [] h]
      constructor
      · intro h; cases h
      · rintro (h' | ⟨h', _⟩)
        · cases h'
        · have := hin1 p h'; rw [h2.len] at h; omega
  have e : glOf t0.length F3 (if n1 = true then f1 ++ f2 else f1) ((if n2 = true then l1 else []) ++ l2) (n1 && n2) = Gl.seq (glOf t0.length F1 f1 l1 n1) (glOf t1.length F2 f2 l2 n2) := by
    refine Gl.ext' (fun p => ?_) (fun p => ?_) (by simp [glOf, Gl.seq]) (fun p q => ?_)
    · simp only [glOf, Gl.seq]
      cases n1 <;> simp
    · simp only [glOf, Gl.seq]
      cases n2 <;> simp
    · show (t0.length ≤ p ∧ q ∈ F3.getD p []) ↔ ((t0.length ≤ p ∧ q ∈ F1.getD p []) ∨ (t1.length ≤ p ∧ q ∈ F2.getD p [])) ∨ (p ∈ l1 ∧ q ∈ f2)
      rw [hmem, ← h1.fols h2 p q]
      constructor
      · rintro ⟨a, b | b⟩
        · exact .inl ⟨a, b⟩
        · exact .inr b
      · rintro (⟨a, b⟩ | b)
        · exact ⟨a, .inl b⟩
        · exact ⟨(hin1 p b.1).1, .inr b⟩
  refine ⟨h1.exts h2, by rw [hk.len]; exact h2.len, fun p hp => ?_, by rw [e]; exact Gl.seq_in h1.inn h2.inn hl1 hl2, ?_, fun p hp => ?_, ?_, ?_⟩
  · rw [hk.keep p fun h => by have := hin1 p h; omega, h2.old p (by omega), h1.old p hp]
  · rw [e, Gl.seq_lg h1.inn h2.inn, h1.ty h2.ext, h2.lang]
  · refine hk.nodup p ?_
    rcases Nat.lt_or_ge p t1.length with h | h
    · rw [h2.old p h]; exact h1.nodup p hp
    · exact h2.nodup p h
  · have := h1.lf; have := h2.lf
    split
    · rw [List.length_append]; omega
    · omega
  · have := h1.ll; have := h2.ll
    rw [List.length_append]
    split
    · omega
    · simp only [List.length_nil]; omega
theorem Pl.loop (h1 : Pl t0 F0 t1 F1 f1 l1 n1 A) (hk : Lnk F1 F2 l1 f1) (no : Bool) : (Pl t0 F0 t1 F2 f1 l1 true (Lg.star A)) ∧ Pl t0 F0 t1 F2 f1 l1 n1 (Lg.cat A (Lg.star A)) := by
  have hl1 := h1.le
  have hin1 : ∀ p, p ∈ l1 → t0.length ≤ p ∧ p < t1.length := fun p hp => h1.inn.L p hp
  have hmem : ∀ p q, q ∈ F2.getD p [] ↔ q ∈ F1.getD p [] ∨ (p ∈ l1 ∧ q ∈ f1) := fun p q => by
    rcases Nat.lt_or_ge p F1.length with h | h
    · exact hk.mem p q h
    · rw [getD_over F2 [] (by rw [hk.len]; exact h), getD_over F1 [] h]
      constructor
      · intro h; cases h
      · rintro (h' | ⟨h', _⟩)
        · cases h'
        · have := hin1 p h'; rw [h1.len] at h; omega
  have e : ∀ (m : Bool) (N : Prop), ((m = true) ↔ N) → glOf t0.length F2 f1 l1 m = Gl.loop (glOf t0.length F1 f1 l1 n1) N := fun m N hN =>
    Gl.ext' (fun p => Iff.rfl) (fun p => Iff.rfl) hN (fun p q => by
      show (t0.length ≤ p ∧ q ∈ F2.getD p []) ↔ (t0.length ≤ p ∧ q ∈ F1.getD p []) ∨ (p ∈ l1 ∧ q ∈ f1)
      rw [hmem]
      constructor
      · rintro ⟨a, b | b⟩
        · exact .inl ⟨a, b⟩
        · exact .inr b
      · rintro (⟨a, b⟩ | b)
        · exact ⟨a, .inl b⟩
        · exact ⟨(hin1 p b.1).1, .inr b⟩)
  have old : ∀ p, p < t0.length → F2.getD p [] = F0.getD p [] := fun p hp => by
    rw [hk.keep p fun h => by have := hin1 p h; omega, h1.old p hp]
  have nd : ∀ p, t0.length ≤ p → (F2.getD p []).Nodup := fun p hp => hk.nodup p (h1.nodup p hp)
  refine ⟨⟨h1.ext, by rw [hk.len]; exact h1.len, old, ?_, ?_, nd, h1.lf, h1.ll⟩, ⟨h1.ext, by rw [hk.len]; exact h1.len, old, ?_, ?_, nd, h1.lf, h1.ll⟩⟩
  · rw [e true True (by simp)]; exact Gl.loop_in h1.inn
  · rw [e true True (by simp), Gl.star_lg, h1.lang]
  · rw [e n1 (n1 = true) Iff.rfl]; exact Gl.loop_in h1.inn
  · rw [e n1 (glOf t0.length F1 f1 l1 n1).N Iff.rfl, Gl.plus_lg, h1.lang]
theorem Pl.opt (h1 : Pl t0 F0 t1 F1 f1 l1 n1 A) : Pl t0 F0 t1 F1 f1 l1 true (Lg.alt Lg.eps A) := by
  have e : glOf t0.length F1 f1 l1 true = Gl.opt (glOf t0.length F1 f1 l1 n1) := Gl.ext' (fun p => Iff.rfl) (fun p => Iff.rfl) (by simp [glOf, Gl.opt]) (fun p q => Iff.rfl)
  exact ⟨h1.ext, h1.len, h1.old, by rw [e]; exact Gl.opt_in h1.inn, by rw [e, Gl.opt_lg, h1.lang], h1.nodup, h1.lf, h1.ll⟩
end pl
/-- rows that may grow: own arrays -/
abbrev Rw := Value × List Nat
def rowsM (I : TypeId) (R : List Rw) : List ME := R.map fun z => .arr z.1 I 1 (z.2.map natv)
def rowsV (R : List Rw) : List AV := R.map fun z => .lit z.1
def folOf (R : List Rw) : Fol := R.map fun z => z.2
theorem folOf_get (R : List Rw) (p : Nat) : (folOf R).getD p [] = (R.getD p (.slice none 0 0, [])).2 := by
  unfold folOf
  rw [List.getD_eq_getElem?_getD, List.getElem?_map, List.getD_eq_getElem?_getD]
  cases R[p]? <;> rfl
theorem folOf_set (R : List Rw) (p : Nat) (z : Rw) : folOf (R.set p z) = (folOf R).set p z.2 := by unfold folOf; rw [List.map_set]
theorem rows_mid (R : List Rw) (p : Nat) (h : p < R.length) : R = R.take p ++ R.getD p (.slice none 0 0, []) :: R.drop (p + 1) := by
  rw [List.getD_eq_getElem?_getD, List.getElem?_eq_getElem h]
  exact (List.take_append_drop p R).symm.trans (by rw [List.drop_eq_getElem_cons h]; rfl)
theorem rows_set_mid (R : List Rw) (p : Nat) (z : Rw) (h : p < R.length) : R.set p z = R.take p ++ z :: R.drop (p + 1) := by
  rw [List.set_eq_take_append_cons_drop, if_pos h]
theorem rowsM_app (I : TypeId) (R S : List Rw) : rowsM I (R ++ S) = rowsM I R ++ rowsM I S := by simp [rowsM]
/-- one row ahead of the others -/
theorem rowsM_out (I : TypeId) (R : List Rw) (p : Nat) (h : p < R.length) (M : List ME) : List.Perm (M ++ rowsM I R) (.arr (R.getD p (.slice none 0 0, [])).1 I 1 ((R.getD p (.slice none 0 0, [])).2.map natv) :: (M ++ (rowsM I (R.take p) ++ rowsM I (R.drop (p + 1))))) := by
  have e : rowsM I R = rowsM I (R.take p) ++ .arr (R.getD p (.slice none 0 0, [])).1 I 1 ((R.getD p (.slice none 0 0, [])).2.map natv) :: rowsM I (R.drop (p + 1)) := by
    conv => lhs; rw [rows_mid R p h]
    rw [rowsM_app]; rfl
  rw [e]
  refine (List.Perm.append_left M List.perm_middle).trans ?_
  exact List.perm_middle
theorem rowsM_in (I : TypeId) (R : List Rw) (p : Nat) (z : Rw) (h : p < R.length) (M : List ME) : List.Perm (.arr z.1 I 1 (z.2.map natv) :: (M ++ (rowsM I (R.take p) ++ rowsM I (R.drop (p + 1))))) (M ++ rowsM I (R.set p z)) := by
  have e : rowsM I (R.set p z) = rowsM I (R.take p) ++ .arr z.1 I 1 (z.2.map natv) :: rowsM I (R.drop (p + 1)) := by
    rw [rows_set_mid R p z h, rowsM_app]; rfl
  rw [e]
  refine List.Perm.trans ?_ (List.Perm.append_left M List.perm_middle.symm)
  exact List.perm_middle.symm
theorem rowsV_get (R : List Rw) (p : Nat) (h : p < R.length) : (rowsV R)[p]? = some (.lit (R.getD p (.slice none 0 0, [])).1) := by
  unfold rowsV
  rw [List.getElem?_map, List.getD_eq_getElem?_getD, List.getElem?_eq_getElem h]; rfl
theorem rowsV_set (R : List Rw) (p : Nat) (z : Rw) : (rowsV R).set p (.lit z.1) = rowsV (R.set p z) := by unfold rowsV; rw [List.map_set]
theorem rowsV_len (R : List Rw) : (rowsV R).length = R.length := by simp [rowsV]
theorem folOf_len (R : List Rw) : (folOf R).length = R.length := by simp [folOf]
/-- numbers of which none is there twice, all below n -/
theorem nodup_len {n : Nat} {l : List Nat} (h : l.Nodup) (hb : ∀ x ∈ l, x < n) : l.length ≤ n :=
  pigeon n l.length (fun i => l.getD i 0) (fun i hi => hb _ (getD_memG 0 l i hi)) fun i j hi hj e => by
    have e : l.getD i 0 = l.getD j 0 := e
    rw [List.getD_eq_getElem?_getD, List.getD_eq_getElem?_getD, List.getElem?_eq_getElem hi, List.getElem?_eq_getElem hj] at e
    exact (List.getElem_inj h).1 e
end Go.Vl
end

section
set_option linter.unusedVariables false
set_option linter.unusedSimpArgs false
namespace Go.Vl
namespace Ex
mutual
def lv : Ex → Nat
  | mk k _ p => if k = 1 then 1 else lvs p
def lvs : List Ex → Nat
  | [] => 0
  | d :: l => lv d + lvs l
end
theorem lv_eq (x : Ex) : lv x = if x.kind = 1 then 1 else lvs x.parts := by cases x with | mk k t p => rw [lv]; rfl
theorem lvs_append (l m : List Ex) : lvs (l ++ m) = lvs l + lvs m := by
  induction l with
  | nil => simp [lvs]
  | cons d l ih => rw [List.cons_append, lvs, lvs, ih]; omega
theorem lvs_one (d : Ex) : lvs [d] = lv d := by rw [lvs, lvs, Nat.add_zero]
theorem lvs_snoc (l : List Ex) (i : Nat) (h : i < l.length) : lvs (l.take (i + 1)) = lvs (l.take i) + lv (l.getD i dflt) := by
  rw [take_getDG dflt l i h, lvs_append, lvs_one]
theorem lvs_take (l : List Ex) (i : Nat) : lvs (l.take i) ≤ lvs l := by
  have h := lvs_append (l.take i) (l.drop i)
  rw [List.take_append_drop] at h; omega
theorem lv_sz : ∀ x : Ex, lv x ≤ sz x := by
  refine rec' fun x ih => ?_
  have h : ∀ l : List Ex, (∀ d ∈ l, lv d ≤ sz d) → lvs l ≤ szs l := fun l => by
    induction l with
    | nil => intro _; exact Nat.le_refl _
    | cons d l ih2 => intro h; rw [lvs, szs]; have := h d List.mem_cons_self; have := ih2 fun e he => h e (List.mem_cons_of_mem _ he); omega
  have := h x.parts ih
  rw [lv_eq, sz_eq]
  split <;> omega
theorem lvs_flat (k : Int) (hk : k ≠ 1) (l : List Ex) : lvs (flat k l) = lvs l := by
  induction l with
  | nil => rfl
  | cons d l ih =>
    rw [show flat k (d :: l) = (if d.kind = k then d.parts else [d]) ++ flat k l from rfl, lvs_append, lvs, ih]
    congr 1
    split
    · rename_i e; rw [lv_eq, if_neg (by rw [e]; exact hk)]
    · exact lvs_one d
theorem lv_tog (k : Int) (hk : k ≠ 1) (l : List Ex) : lv (tog k l) = lvs l := by
  rcases tog_cases k l with ⟨x, rfl, e⟩ | ⟨h1, y, h2, e⟩ | ⟨h1, h2, e⟩
  · rw [e, lvs_one]
  · rw [e, ← lvs_flat k hk l, h2, lvs_one]
  · rw [e, lv_eq]
    show (if k = 1 then 1 else lvs (flat k l)) = _
    rw [if_neg hk, lvs_flat k hk]
theorem lv_sfe : ∀ (sf : List Nat) (x : Ex), lv (sfe x sf) = lv x
  | [], x => rfl
  | k :: sf, x => by
    show lv (sfe (.mk (4 + (k : Int)) 0 [x]) sf) = lv x
    rw [lv_sfe sf, lv_eq]
    show (if (4 + (k : Int)) = 1 then 1 else lvs [x]) = _
    rw [if_neg (by omega), lvs_one]
end Ex
namespace It
theorem lvs_sev (s : List It) (h : ∀ i ∈ s, Ex.lv i.ev = nl i) : Ex.lvs (sev s) = snl s := by
  induction s with
  | nil => rfl
  | cons i s ih => rw [sev, Ex.lvs, snl, h i List.mem_cons_self, ih fun j hj => h j (List.mem_cons_of_mem _ hj)]
theorem lv_sq' (s : List It) (h : ∀ i ∈ s, Ex.lv i.ev = nl i) : Ex.lv (sq s) = snl s := by
  rw [sq, Ex.lv_tog 2 (by decide), lvs_sev s h]
theorem lvs_aev (a : List (List It)) (h : ∀ t ∈ a, Ex.lv (sq t) = snl t) : Ex.lvs (aev a) = anl a := by
  induction a with
  | nil => rfl
  | cons t a ih => rw [aev, Ex.lvs, anl, h t List.mem_cons_self, ih fun j hj => h j (List.mem_cons_of_mem _ hj)]
theorem lv_ev : ∀ i : It, Ex.lv i.ev = nl i := by
  refine rec' ?_ ?_
  · intro n sf
    rw [ev, Ex.lv_sfe, nl, Ex.lv_eq]; rfl
  · intro s a sf h1 h2
    rw [ev, Ex.lv_sfe, nl, Ex.lv_tog 3 (by decide), Ex.lvs, lv_sq' s h1, lvs_aev a fun t ht => lv_sq' t (h2 t ht)]
theorem lv_al (s : List It) (a : List (List It)) : Ex.lv (al s a) = snl s + anl a := by
  rw [al, Ex.lv_tog 3 (by decide), Ex.lvs, lv_sq' s fun i _ => lv_ev i, lvs_aev a fun t _ => lv_sq' t fun i _ => lv_ev i]
end It
/-- where a part's walk stands -/
structure AddZ where
  i : Nat
  fi : List Nat
  la : List Nat
  no : Bool
  vf : Value
  vl : Value
  vT : Value
  vF : Value
  tys : List Int
  R : List Rw
/-- letters that may be came in -/
def Tys (t0 t : List Int) : Prop := ∀ c ∈ t, c ∈ t0 ∨ (0 ≤ c ∧ c < 8)
theorem Tys.refl (t : List Int) : Tys t t := fun c h => .inl h
theorem Tys.trans {a b c : List Int} (h1 : Tys a b) (h2 : Tys b c) : Tys a c := fun x hx => (h2 x hx).elim (fun h => h1 x h) .inr
section pre
variable {t0 t1 t2 : List Int} {F0 F1 F2 : Fol} {f1 l1 f2 l2 : List Nat} {n1 n2 : Bool} {A B : Lg}
theorem Pl.pre1 (h : Pl t0 F0 t1 F1 f1 l1 n1 A) : (∀ p ∈ l1, p < t1.length) ∧ (∀ p ∈ l1, (F1.getD p []).Nodup) ∧ (∀ p ∈ l1, ∀ q ∈ F1.getD p [], q < t1.length) ∧ (∀ q ∈ f1, q < t1.length) :=
  ⟨fun p hp => (h.inn.L p hp).2, fun p hp => h.nodup p (h.inn.L p hp).1, fun p hp q hq => (h.inn.E p q ⟨(h.inn.L p hp).1, hq⟩).2.2, fun q hq => (h.inn.F q hq).2⟩
theorem Pl.pre2 (h1 : Pl t0 F0 t1 F1 f1 l1 n1 A) (h2 : Pl t1 F1 t2 F2 f2 l2 n2 B) : (∀ p ∈ l1, p < t2.length) ∧ (∀ p ∈ l1, (F2.getD p []).Nodup) ∧ (∀ p ∈ l1, ∀ q ∈ F2.getD p [], q < t2.length) ∧ (∀ q ∈ f2, q < t2.length) := by
  obtain ⟨a, b, c, d⟩ := h1.pre1
  have hle := h2.le
  refine ⟨fun p hp => by have := a p hp; omega, fun p hp => by rw [h2.old p (a p hp)]; exact b p hp, fun p hp q hq => ?_, fun q hq => (h2.inn.F q hq).2⟩
  rw [h2.old p (a p hp)] at hq
  have := c p hp q hq; omega
end pre
section fin
variable {t0 t1 : List Int} {F0 F1 F2 : Fol} {f1 l1 : List Nat} {n1 : Bool} {x : Ex}
theorem Pl.fin3 (h : Pl t0 F0 t1 F1 f1 l1 n1 (Ex.alts x.parts)) (hk : x.kind = 3 ∨ x.kind = 6) : Pl t0 F0 t1 F1 f1 l1 ((n1 || (x.kind == 4)) || (x.kind == 6)) x.lg := by
  rcases hk with hk | hk
  · rw [Ex.lg_eq, hk, show ((n1 || ((3 : Int) == 4)) || ((3 : Int) == 6)) = n1 from by cases n1 <;> rfl, if_neg (by decide), if_neg (by decide), if_pos rfl]; exact h
  · rw [Ex.lg_eq, hk, show ((n1 || ((6 : Int) == 4)) || ((6 : Int) == 6)) = true from by cases n1 <;> rfl, if_neg (by decide), if_neg (by decide), if_neg (by decide), if_neg (by decide), if_neg (by decide)]
    exact h.opt
theorem Pl.fin4 (h : Pl t0 F0 t1 F1 f1 l1 n1 (Ex.alts x.parts)) (hl : Lnk F1 F2 l1 f1) (hk : x.kind = 4 ∨ x.kind = 5) : Pl t0 F0 t1 F2 f1 l1 ((n1 || (x.kind == 4)) || (x.kind == 6)) x.lg := by
  obtain ⟨h1, h2⟩ := h.loop hl true
  rcases hk with hk | hk
  · rw [Ex.lg_eq, hk, show ((n1 || ((4 : Int) == 4)) || ((4 : Int) == 6)) = true from by cases n1 <;> rfl, if_neg (by decide), if_neg (by decide), if_neg (by decide), if_pos rfl]; exact h1
  · rw [Ex.lg_eq, hk, show ((n1 || ((5 : Int) == 4)) || ((5 : Int) == 6)) = n1 from by cases n1 <;> rfl, if_neg (by decide), if_neg (by decide), if_neg (by decide), if_neg (by decide), if_pos rfl]; exact h2
theorem Pl.fin2 (h : Pl t0 F0 t1 F1 f1 l1 n1 (Ex.seqs x.parts)) (hk : x.kind = 2) : Pl t0 F0 t1 F1 f1 l1 ((n1 || (x.kind == 4)) || (x.kind == 6)) x.lg := by
  rw [Ex.lg_eq, hk, show ((n1 || ((2 : Int) == 4)) || ((2 : Int) == 6)) = n1 from by cases n1 <;> rfl, if_neg (by decide), if_pos rfl]; exact h
end fin
theorem alts_snoc (l : List Ex) (i : Nat) (h : i < l.length) : Ex.alts (l.take (i + 1)) = Lg.alt (Ex.alts (l.take i)) (Ex.lg (l.getD i Ex.dflt)) := by
  rw [take_getDG Ex.dflt l i h, Ex.alts_append, Ex.alts_one]
theorem seqs_snoc (l : List Ex) (i : Nat) (h : i < l.length) : Ex.seqs (l.take (i + 1)) = Lg.cat (Ex.seqs (l.take i)) (Ex.lg (l.getD i Ex.dflt)) := by
  rw [take_getDG Ex.dflt l i h, Ex.seqs_append, Ex.seqs_one]
end Go.Vl
end
