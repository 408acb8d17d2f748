/-
  Merged: WToGo WMeas ShelfB Low Raw Norm Sts Shelf WSeq.
-/
import Derived.Test.YtphlkdbglpcikaaGreatDoorG6
import Derived.Below
import Derived.Lib.Join
import Derived.Sort.OwnSortedInts
import Derived.Lib.LaidTab
import Derived.Lib.ItoaNum
import Derived.Lib.SlicesCompact
import Derived.Shelf.Strings.Builder1
import Derived.Shelf.Strings.Builder2
import Derived.Shelf.Strings.OnBuilder
import Derived.Shelf.Small.Bits
import Derived.Shelf.Small.Strs
import Derived.Shelf.Small.Wraps
import Derived.Shelf.Strconv.Itoa0
import Derived.Shelf.Strconv.Itoa1
import Derived.Shelf.LaysM
import Derived.Shelf.Strconv.Itoa2
import Derived.Shelf.Strconv.Itoa3
import Derived.Shelf.Strings.Search1
import Derived.Shelf.Sort.Plain
import Derived.Shelf.Bits.Mul64
import Derived.Shelf.Slices.Turned
import Derived.Ground.Names2Prog
import Derived.Shelf.Slices.Clone
import Derived.Shelf.Slices.CompactI
import Derived.Shelf.Slices.SearchI
import Derived.Shelf.Slices.Cells
import Derived.Shelf.Slices.In.SortNone
import Derived.Ground.SlgnProg
import Derived.Shelf.SlicesE.Clone
import Derived.Test.YtphlkdbglpcikaaGreatDoorProg
import Derived.RangeFuncNested
import Derived.RangeFuncBox
import Derived.RangeFuncLeaves
import Derived.Shelf.Abstract
import Derived.WalkKit
import Derived.OwnWalkIn
import Derived.TacticsInMore
import Derived.LoopNIn
import Derived.LoopIn
import Derived.Maps.AppendAt
set_option linter.unusedVariables false
set_option linter.unusedSimpArgs false
set_option maxRecDepth 100000

section
namespace Go.Proofs.YtphlkdbglpcikaaGreatDoor
open Go.Vl
open Y
namespace WToGo
set_option maxHeartbeats 1600000 in
theorem c_ToGo (b : Nat) (ts : List Tp) (as_ : List Au) (vs : Value) (sz : List Int) (A : Au) (hsh : A.Shape) (hn : A.next.length ≤ 100) (hcol : ∀ r ∈ A.next, ∀ k, k < 8 → 0 ≤ r.getD k (-1) → k < sz.length) (out : List Int) (htg : Sch.toGo sz A = some out) : FnC Tryz.prog 90 [.lit (.pointer (some ⟨b, 0, none⟩)), .agg [.sl 1 (A.next.map pav), .sl 1 (A.final.map AV.bool)]] [.box b 76 [.sl 3 (ts.map tpv), .sl 2 (as_.map Au.avx), .lit vs], .arr vs 3 1 (sz.map AV.int)] (fun r M => r = .sl 1 (out.map AV.int) ∧ M = [.box b 76 [.sl 3 (ts.map tpv), .sl 2 (as_.map Au.avx), .lit vs], .arr vs 3 1 (sz.map AV.int)]) :=  by
 refine FnC.mk Tryz.func90 (by kernel_rfl) rfl Tryz.ntmps90 rfl (fun w0 F => ?_)
 have hnl : (A.next.map pav).length = A.next.length := List.length_map ..
 have hfl : (A.final.map AV.bool).length = A.final.length := List.length_map ..
 have hfn := hsh.fin
 have hszl : (sz.map AV.int).length = sz.length := List.length_map ..
 refine W.s ?_; refine W.r ?_; refine W.box (.t rfl) rfl rfl ?_; intro b3; refine W.q (.assign .k) rfl ?_; refine W.n ?_; refine W.h ?_; refine W.s ?_; refine W.r ?_
 refine W.q (.fab (.t rfl) fa62_0) rfl (.q (.ldb1 0 (.t rfl) rfl ag59 rfl) rfl (.q (.lensl (.t rfl) Tryz.underlying59) rfl ?_))
 refine W.mk (.t rfl) (.t rfl) Tryz.underlying22 ty3 rfl rfl rfl rfl rfl (by omega) rfl ?_; intro v17
 have h00 : List.replicate (A.next.map pav).length (AV.int 0) = (Sch.tgI A 0).map AV.int := by rw [Sch.tgI_zero, hnl, hfn, List.map_replicate]
 refine W.perm (List.Perm.of_eq (show _ = [.arr v17 3 1 ((Sch.tgI A 0).map AV.int), .box b3 62 [.sl 1 (A.next.map pav), .sl 1 (A.final.map AV.bool)], .box b 76 [.sl 3 (ts.map tpv), .sl 2 (as_.map Au.avx), .lit vs], .arr vs 3 1 (sz.map AV.int)] from by show (ME.arr v17 _ _ (List.replicate (A.next.map pav).length (AV.int 0)) :: _) = _; rw [h00]; rfl)) ?_; refine W.asg rfl rfl (.n (.h (.s (.s (.r (.q (.fab (.t rfl) fa62_1) rfl (.q (.ldb1 1 (.t rfl) rfl ag60 rfl) rfl (.q (.lensl (.t rfl) Tryz.underlying60) rfl ?_))))))))
 refine W.q (.move .k) rfl ?_; refine W.n ?_; refine W.h ?_; refine W.b ?_; refine W.loop (D := []) (ι := Nat) (fun i => [(21, true, .int (i : Int)), (20, true, .int ((A.final.map AV.bool).length : Int)), (19, true, .sl 1 (A.final.map AV.bool)), (0, true, .lit (.pointer (some ⟨b, 0, none⟩))), (3, true, .lit (.pointer (some ⟨b3, 0, none⟩))), (5, true, .lit v17)]) (fun i => [.arr v17 3 1 ((Sch.tgI A i).map AV.int), .box b3 62 [.sl 1 (A.next.map pav), .sl 1 (A.final.map AV.bool)], .box b 76 [.sl 3 (ts.map tpv), .sl 2 (as_.map Au.avx), .lit vs], .arr vs 3 1 (sz.map AV.int)]) (fun i => i ≤ A.final.length) (fun i => A.final.length - i) 0 ⟨rfl, rfl, rfl, rfl, rfl, rfl, trivial⟩ (.refl _) (Nat.zero_le _) ?_; intro i hi
 dsimp only at hi ⊢
 rcases (show i < A.final.length ∨ i = A.final.length from by omega) with hlt | hend
 ·have hgf := getD_mapG AV.bool false A.final i hlt
  have hg0 := getD_map (Sch.tgI A i) i (by rw [Sch.tgI_len A i hi]; exact hlt)
  refine W.s (.r (.q (.lti (.t rfl) (.t rfl)) rfl (.n (.h (.s ?_))))); refine W.isb 22 true rfl (by exact decide_eq_true (by omega)) ?_; refine W.condT (.t rfl) (.k (.h (.s (.b (.s (.r (.mv rfl rfl ?_))))))); refine W.q (.at (E := 4) (.t rfl) (.t rfl) Tryz.underlying60 ty4 (fun _ => ⟨by omega, hgf⟩) rfl rfl) rfl ?_; refine W.q (.lde1 (.t rfl) ag4) rfl ?_
  refine W.q (.assign (.t rfl)) rfl ?_; refine W.q (.assign (.t rfl)) rfl ?_; refine W.n ?_; refine W.h ?_; refine W.s ?_; refine W.r ?_; refine W.q (.move (.t rfl)) rfl ?_; refine W.q (.not (.t rfl)) rfl ?_; refine W.n ?_; refine W.h ?_; refine W.cond (.t rfl) (fun hc_t27 => ?_) (fun hc_t27 => ?_)
  ·have hf0 : ¬ A.final.getD i false = true := by intro h; rw [h] at hc_t27; cases hc_t27
   have hsu := Sch.tgI_succ A i hlt
   rw [if_neg hf0] at hsu
   refine W.r (.mv rfl rfl (.mv rfl rfl ?_)); refine W.q (.ata 0 (.t rfl) rfl (.t rfl) Tryz.underlying22 ty3 (fun hg => by rw [List.length_map, Sch.tgI_len A i hi]; omega)) rfl ?_; refine W.sta 0 i 0 (e := AV.int ((Sch.tgI A i).getD i 0)) (e' := AV.int (-1)) (.t rfl) .k rfl hg0 (by omega) ty3 rfl rfl rfl rfl rfl rfl rfl ?_; refine W.n (.bn (.h (.r (.q (.add (.t rfl) .k (fun _ => by omega)) rfl (.mv rfl rfl (.n (.h ?_)))))))
   rw [← List.map_set, ← hsu]
   refine W.reach (D := []) (i + 1) ⟨rfl, rfl, rfl, rfl, rfl, rfl, trivial⟩ (.refl _) ⟨hlt, by show A.final.length - (i + 1) < A.final.length - i; omega⟩
  ·have hf0 : A.final.getD i false = true := by cases h : A.final.getD i false; rw [h] at hc_t27; cases hc_t27; rfl
   have hsu := Sch.tgI_succ A i hlt
   rw [if_pos hf0] at hsu
   refine W.k (.bn (.h (.r (.q (.add (.t rfl) .k (fun _ => by omega)) rfl (.mv rfl rfl (.n (.h ?_)))))))
   rw [← hsu]
   refine W.reach (D := []) (i + 1) ⟨rfl, rfl, rfl, rfl, rfl, rfl, trivial⟩ (.refl _) ⟨hlt, by show A.final.length - (i + 1) < A.final.length - i; omega⟩
 ·rw [hend, Sch.tgI_all]
  refine W.s (.r (.q (.lti (.t rfl) (.t rfl)) rfl (.n (.h (.s ?_))))); refine W.isb 22 false rfl (by exact decide_eq_false (by omega)) ?_; refine W.condF (.t rfl) (.ex (.he (.he (.bh (.h (.s (.s (.r (.q (.assign .k) rfl (.n (.h (.b ?_)))))))))))); refine W.loop (D := []) (ι := Nat × List Int × Bool) (fun z => [(8, true, .bool z.2.2), (0, true, .lit (.pointer (some ⟨b, 0, none⟩))), (3, true, .lit (.pointer (some ⟨b3, 0, none⟩))), (5, true, .lit v17)]) (fun z => [.arr v17 3 1 (z.2.1.map AV.int), .box b3 62 [.sl 1 (A.next.map pav), .sl 1 (A.final.map AV.bool)], .box b 76 [.sl 3 (ts.map tpv), .sl 2 (as_.map Au.avx), .lit vs], .arr vs 3 1 (sz.map AV.int)]) (fun z => z.2.1.length = A.next.length ∧ ((z.2.2 = true ∧ Sch.tgo sz A z.1 z.2.1 = some out) ∨ (z.2.2 = false ∧ z.2.1 = out))) (fun z => if z.2.2 = true then z.1 + 1 else 0) (12, A.final.map (fun b => if b = true then (0 : Int) else -1), true) ⟨rfl, rfl, rfl, rfl, trivial⟩ (.refl _) ⟨by rw [List.length_map, hfn], .inl ⟨rfl, htg⟩⟩ ?_
  rintro ⟨f, o, mo⟩ ⟨hol0, hor⟩
  dsimp only at hol0 hor ⊢
  rcases hor with ⟨rfl, hrun⟩ | ⟨rfl, rfl⟩
  ·obtain ⟨m, rfl⟩ : ∃ m, f = m + 1 := by cases f; (cases hrun); exact ⟨_, rfl⟩
   simp only [Sch.tgo] at hrun
   refine W.s (.s (.r (.mv rfl rfl (.n (.h (.condT (.t rfl) (.k (.h (.b (.s (.r (.q (.assign .k) rfl (.n (.h (.s (.r (.q (.fab (.t rfl) fa62_0) rfl (.q (.ldb1 1 (.t rfl) rfl ag59 rfl) rfl (.q (.lensl (.t rfl) Tryz.underlying59) rfl ?_)))))))))))))))))))
   refine W.q (.move .k) rfl ?_; refine W.n ?_; refine W.h ?_; refine W.b ?_; refine W.loop (D := []) (ι := Nat) (fun i => [(36, true, .int (i : Int)), (35, true, .int ((A.next.map pav).length : Int)), (34, true, .sl 1 (A.next.map pav)), (8, true, .bool (Sch.rndc sz A (o, false) i).2), (0, true, .lit (.pointer (some ⟨b, 0, none⟩))), (3, true, .lit (.pointer (some ⟨b3, 0, none⟩))), (5, true, .lit v17)]) (fun i => [.arr v17 3 1 ((Sch.rndc sz A (o, false) i).1.map AV.int), .box b3 62 [.sl 1 (A.next.map pav), .sl 1 (A.final.map AV.bool)], .box b 76 [.sl 3 (ts.map tpv), .sl 2 (as_.map Au.avx), .lit vs], .arr vs 3 1 (sz.map AV.int)]) (fun i => i ≤ A.next.length) (fun i => A.next.length - i) 0 ⟨rfl, rfl, rfl, rfl, rfl, rfl, rfl, trivial⟩ (.refl _) (Nat.zero_le _) ?_; intro i hi
   dsimp only at hi ⊢
   rcases (show i < A.next.length ∨ i = A.next.length from by omega) with hlti | hend
   ·have hgr := getD_mapG pav [] A.next i hlti
    have hrm := getD_memG [] A.next i hlti
    have hr8 := hsh.mem_row _ hrm
    have hent := hsh.mem_ent _ hrm
    have hcl := hcol _ hrm
    have hsi := Sch.rndc_succ sz A (o, false) i
    generalize A.next.getD i [] = row at hgr hrm hr8 hent hcl hsi
    have hrl : (row.map AV.int).length = 8 := by rw [List.length_map]; exact hr8
    refine W.s (.r (.q (.lti (.t rfl) (.t rfl)) rfl (.n (.h (.s ?_))))); refine W.isb 37 true rfl (by exact decide_eq_true (by omega)) ?_; refine W.condT (.t rfl) (.k (.h (.s (.b (.s (.r (.mv rfl rfl ?_))))))); refine W.q (.at (E := 22) (.t rfl) (.t rfl) Tryz.underlying59 ty22 (fun _ => ⟨by omega, hgr⟩) rfl rfl) rfl ?_; refine W.q (.lde1 (.t rfl) ag22) rfl (.asg rfl rfl (.asg rfl rfl (.n (.h (.s (.r (.mv rfl rfl (.q (.lensl (.t rfl) Tryz.underlying22) rfl ?_))))))))
    refine W.q (.move .k) rfl ?_; refine W.n ?_; refine W.h ?_; refine W.b ?_; refine W.loop (D := []) (ι := Nat) (fun k => [(43, true, .int (k : Int)), (42, true, .int ((row.map AV.int).length : Int)), (41, true, .sl 1 (row.map AV.int)), (9, true, .int (i : Int)), (36, true, .int (i : Int)), (35, true, .int ((A.next.map pav).length : Int)), (34, true, .sl 1 (A.next.map pav)), (10, true, .sl 1 (row.map AV.int)), (8, true, .bool (Sch.rowc sz i row (Sch.rndc sz A (o, false) i) k).2), (0, true, .lit (.pointer (some ⟨b, 0, none⟩))), (3, true, .lit (.pointer (some ⟨b3, 0, none⟩))), (5, true, .lit v17)]) (fun k => [.arr v17 3 1 ((Sch.rowc sz i row (Sch.rndc sz A (o, false) i) k).1.map AV.int), .box b3 62 [.sl 1 (A.next.map pav), .sl 1 (A.final.map AV.bool)], .box b 76 [.sl 3 (ts.map tpv), .sl 2 (as_.map Au.avx), .lit vs], .arr vs 3 1 (sz.map AV.int)]) (fun k => k ≤ 8) (fun k => 8 - k) 0 ⟨rfl, rfl, rfl, rfl, rfl, rfl, rfl, rfl, rfl, rfl, rfl, rfl, trivial⟩ (.refl _) (Nat.zero_le _) ?_; intro k hk
    dsimp only at hk ⊢
    have hol : ((Sch.rowc sz i row (Sch.rndc sz A (o, false) i) k).1.map AV.int).length = A.next.length := by rw [List.length_map, Sch.rowc_len, Sch.rndc_len]; exact hol0
    have hol1 : (Sch.rowc sz i row (Sch.rndc sz A (o, false) i) k).1.length = A.next.length := by rw [Sch.rowc_len, Sch.rndc_len]; exact hol0
    obtain ⟨to, hto⟩ : ∃ z, row.getD k (-1) = z := ⟨_, rfl⟩
    rcases (show (k < 8 ∧ to < 0) ∨ (k < 8 ∧ 0 ≤ to) ∨ k = 8 from by omega) with ⟨hlt, hneg⟩ | ⟨hlt, hpos⟩ | hend
    ·have hgt : (row.map AV.int)[k]? = some (AV.int to) := by rw [List.getElem?_map, ← hto, List.getD_eq_getElem?_getD, List.getElem?_eq_getElem (show k < row.length by omega)]; rfl
     refine W.s (.r (.q (.lti (.t rfl) (.t rfl)) rfl (.n (.h (.s ?_))))); refine W.isb 44 true rfl (by exact decide_eq_true (by omega)) ?_; refine W.condT (.t rfl) (.k (.h (.s (.b (.s (.r (.mv rfl rfl ?_))))))); refine W.q (.at (E := 3) (.t rfl) (.t rfl) Tryz.underlying22 ty3 (fun _ => ⟨by omega, hgt⟩) rfl rfl) rfl ?_; refine W.q (.lde1 (.t rfl) ag3) rfl (.asg rfl rfl (.asg rfl rfl (.n (.h (.s (.s (.r (.mv rfl rfl (.q (.lti (.t rfl) .k) rfl (.mv rfl rfl ?_)))))))))); refine W.is (t := 50) (av' := .bool true) rfl (congrArg AV.bool (decide_eq_true hneg)) ?_; refine W.gnob rfl rfl (by simp) rfl ?_; refine W.gnob rfl rfl (by simp) rfl ?_; refine W.gnob rfl rfl (by simp) rfl ?_; refine W.gnob rfl rfl (by simp) rfl ?_; refine W.gnob rfl rfl (by simp) rfl ?_; refine W.q (.or (.t rfl) ⟨_, _, rfl, rfl, by ((simp; done))⟩) rfl ?_; refine W.mv rfl rfl ?_; refine W.isb 57 true rfl (by simp) ?_; refine W.gnob rfl rfl (by simp) rfl ?_; refine W.gnob rfl rfl (by simp) rfl ?_; refine W.gnob rfl rfl (by simp) rfl ?_; refine W.gnob rfl rfl (by simp) rfl ?_; refine W.gnob rfl rfl (by simp) rfl ?_; refine W.gnob rfl rfl (by simp) rfl ?_; refine W.gnob rfl rfl (by simp) rfl ?_; refine W.gnob rfl rfl (by simp) rfl ?_; refine W.q (.or (.t rfl) ⟨_, _, rfl, rfl, by ((simp; done))⟩) rfl ?_; refine W.n (.h ?_); refine W.isb 66 true rfl (by ((simp; done))) ?_; refine W.condT (.t rfl) (.ex (.he (.bh (.h (.r (.q (.add (.t rfl) .k (fun _ => by omega)) rfl (.mv rfl rfl (.n (.h ?_)))))))))
     have hst2 : Sch.rowc sz i row (Sch.rndc sz A (o, false) i) (k + 1) = Sch.rowc sz i row (Sch.rndc sz A (o, false) i) k := by rw [Sch.rowc_succ, hto]; exact if_pos (.inl hneg)
     refine W.is (t := 8) (av' := .bool (Sch.rowc sz i row (Sch.rndc sz A (o, false) i) (k + 1)).2) rfl (congrArg AV.bool (by rw [hst2])) ?_
     rw [← hst2]
     refine W.reach (D := []) (k + 1) ⟨rfl, rfl, rfl, rfl, rfl, rfl, rfl, rfl, rfl, rfl, rfl, rfl, trivial⟩ (.refl _) ⟨hlt, by show 8 - (k + 1) < 8 - k; omega⟩
    ·have hgt : (row.map AV.int)[k]? = some (AV.int to) := by rw [List.getElem?_map, ← hto, List.getD_eq_getElem?_getD, List.getElem?_eq_getElem (show k < row.length by omega)]; rfl
     have htn : to < A.next.length := (hent to (by rw [← hto]; exact getD_memG (-1) row k (by omega))).2
     have hks := hcl k hlt (by omega)
     have hgs := getD_map sz k hks
     have hgo := getD_map (Sch.rowc sz i row (Sch.rndc sz A (o, false) i) k).1 to.toNat (by omega)
     have hgi := getD_map (Sch.rowc sz i row (Sch.rndc sz A (o, false) i) k).1 i (by omega)
     refine W.s (.r (.q (.lti (.t rfl) (.t rfl)) rfl (.n (.h (.s ?_))))); refine W.isb 44 true rfl (by exact decide_eq_true (by omega)) ?_; refine W.condT (.t rfl) (.k (.h (.s (.b (.s (.r (.mv rfl rfl ?_))))))); refine W.q (.at (E := 3) (.t rfl) (.t rfl) Tryz.underlying22 ty3 (fun _ => ⟨by omega, hgt⟩) rfl rfl) rfl ?_; refine W.q (.lde1 (.t rfl) ag3) rfl (.asg rfl rfl (.asg rfl rfl (.n (.h (.s (.s (.r (.mv rfl rfl (.q (.lti (.t rfl) .k) rfl (.mv rfl rfl ?_)))))))))); refine W.is (t := 50) (av' := .bool false) rfl (congrArg AV.bool (decide_eq_false (by omega))) ?_; refine W.gyes rfl rfl (.mv rfl rfl (.gyes rfl rfl (.mv rfl rfl (.gyes rfl rfl ?_)))); refine W.q (.ata 0 (.t rfl) rfl (.t rfl) Tryz.underlying22 ty3 (fun hg => by rw [hol]; omega)) rfl ?_; refine W.gyes rfl rfl (.q (.lda1 0 to.toNat 0 (.t rfl) rfl hgo (by omega) rfl rfl rfl ag3) rfl (.gyes rfl rfl (.q (.lti (.t rfl) .k) rfl ?_))); refine W.q (.or (.t rfl) ⟨_, _, rfl, rfl, by ((simp; done))⟩) rfl ?_; refine W.mv rfl rfl (.qgF rfl rfl (.move (.t rfl)) rfl (.qgF rfl rfl (.nilc (.c rfl)) rfl (.qgF rfl rfl (.fab (.c rfl) fa76_2) rfl (.qgF rfl rfl (.ldb1 2 (.c rfl) rfl ag22 rfl) rfl ?_))))
     refine W.qgF rfl rfl (.move (.t rfl)) rfl ?_; refine W.qgF rfl rfl (.ata 3 (.c rfl) rfl (.c rfl) Tryz.underlying22 ty3 (fun hg => by omega)) rfl ?_; refine W.qgF rfl rfl (.lda1 3 k 0 (.c rfl) rfl hgs (by omega) rfl rfl rfl ag3) rfl ?_; refine W.qgF rfl rfl (.eqi (.c rfl) .k) rfl ?_; refine W.q (.or (.t rfl) ⟨_, _, rfl, rfl, by ((simp; done))⟩) rfl ?_; refine W.n ?_; refine W.h ?_; refine W.cond (.t rfl) (fun hc_t66 => ?_) (fun hc_t66 => ?_)
     ·have hst2 : Sch.rowc sz i row (Sch.rndc sz A (o, false) i) (k + 1) = Sch.rowc sz i row (Sch.rndc sz A (o, false) i) k := by rw [Sch.rowc_succ, hto]; unfold Sch.stepc; refine if_pos (.inr ?_); simpa using hc_t66
      refine W.ex (.he (.bh (.h (.r (.q (.add (.t rfl) .k (fun _ => by omega)) rfl (.mv rfl rfl (.n (.h ?_)))))))); refine W.is (t := 8) (av' := .bool (Sch.rowc sz i row (Sch.rndc sz A (o, false) i) (k + 1)).2) rfl (congrArg AV.bool (by rw [hst2])) ?_
      rw [← hst2]
      refine W.reach (D := []) (k + 1) ⟨rfl, rfl, rfl, rfl, rfl, rfl, rfl, rfl, rfl, rfl, rfl, rfl, trivial⟩ (.refl _) ⟨hlt, by show 8 - (k + 1) < 8 - k; omega⟩
     ·have h66 : ¬ (to < 0 ∨ (Sch.rowc sz i row (Sch.rndc sz A (o, false) i) k).1.getD to.toNat 0 < 0 ∨ sz.getD k 0 = 0) := by have hn0 : ¬ to < 0 := (by omega); simp only [hn0, false_or]; simpa using hc_t66
      refine W.k (.h (.s ?_)); refine W.drawn (by kernel_rfl) (by kernel_rfl) ?_; refine DP.q (.move (.t rfl)) rfl (.q (.nilc (.t rfl)) rfl (.q (.fab (.t rfl) fa76_2) rfl (.q (.ldb1 2 (.t rfl) rfl ag22 rfl) rfl (.q (.move (.t rfl)) rfl (.q (.ata 3 (.t rfl) rfl (.t rfl) Tryz.underlying22 ty3 (fun hg => by omega)) rfl (.q (.lda1 3 k 0 (.t rfl) rfl hgs (by omega) rfl rfl rfl ag3) rfl (.q (.move (.t rfl)) rfl (.q (.move (.t rfl)) rfl ?_)))))))); refine DP.q (.ata 0 (.t rfl) rfl (.t rfl) Tryz.underlying22 ty3 (fun hg => by rw [hol]; omega)) rfl ?_; refine DP.q (.lda1 0 to.toNat 0 (.t rfl) rfl hgo (by omega) rfl rfl rfl ag3) rfl (.q (.addw (.t rfl) (.t rfl)) rfl ?_)
      refine DP.q (.assign (.t rfl)) rfl ?_; refine DP.nil ?_; refine W.h ?_; refine W.s ?_; refine W.r ?_; refine W.q (.move (.t rfl)) rfl ?_; refine W.q (.move (.t rfl)) rfl ?_; refine W.q (.ata 0 (.t rfl) rfl (.t rfl) Tryz.underlying22 ty3 (fun hg => by rw [hol]; omega)) rfl ?_; refine W.q (.lda1 0 i 0 (.t rfl) rfl hgi (by omega) rfl rfl rfl ag3) rfl ?_; refine W.q (.lti (.t rfl) .k) rfl ?_; refine W.q (.move (.t rfl)) rfl ?_; refine W.qgF rfl rfl (.move (.t rfl)) rfl ?_; refine W.qgF rfl rfl (.move (.t rfl)) rfl ?_; refine W.qgF rfl rfl (.move (.t rfl)) rfl ?_; refine W.qgF rfl rfl (.ata 0 (.c rfl) rfl (.c rfl) Tryz.underlying22 ty3 (fun hg => by rw [hol]; omega)) rfl ?_; refine W.qgF rfl rfl (.lda1 0 i 0 (.c rfl) rfl hgi (by omega) rfl rfl rfl ag3) rfl ?_; refine W.qgF rfl rfl (.lti (.c rfl) (.c rfl)) rfl ?_; refine W.q (.or (.t rfl) ⟨_, _, rfl, rfl, by ((simp; done))⟩) rfl ?_; refine W.n ?_; refine W.h ?_; refine W.cond (.t rfl) (fun hc_t91 => ?_) (fun hc_t91 => ?_)
      ·have hst2 : Sch.rowc sz i row (Sch.rndc sz A (o, false) i) (k + 1) = ((Sch.rowc sz i row (Sch.rndc sz A (o, false) i) k).1.set i (Sch.wr (sz.getD k 0 + (Sch.rowc sz i row (Sch.rndc sz A (o, false) i) k).1.getD to.toNat 0)), true) := by rw [Sch.rowc_succ, hto]; unfold Sch.stepc; rw [if_neg h66]; refine if_pos ?_; simpa [Sch.wr] using hc_t91
       refine W.r (.mv rfl rfl (.mv rfl rfl (.mv rfl rfl ?_))); refine W.q (.ata 0 (.t rfl) rfl (.t rfl) Tryz.underlying22 ty3 (fun hg => by rw [hol]; omega)) rfl ?_; refine W.sta 0 i 0 (e := AV.int ((Sch.rowc sz i row (Sch.rndc sz A (o, false) i) k).1.getD i 0)) (e' := AV.int (Sch.wr (sz.getD k 0 + (Sch.rowc sz i row (Sch.rndc sz A (o, false) i) k).1.getD to.toNat 0))) (.t rfl) (.t rfl) rfl hgi (by omega) ty3 rfl rfl rfl rfl rfl rfl rfl ?_; refine W.q (.assign .k) rfl (.n (.bn (.h (.r (.q (.add (.t rfl) .k (fun _ => by omega)) rfl (.mv rfl rfl (.n (.h ?_)))))))); refine W.is (t := 8) (av' := .bool (Sch.rowc sz i row (Sch.rndc sz A (o, false) i) (k + 1)).2) rfl (congrArg AV.bool (by rw [hst2])) ?_
       rw [← List.map_set, show (Sch.rowc sz i row (Sch.rndc sz A (o, false) i) k).1.set i (Sch.wr (sz.getD k 0 + (Sch.rowc sz i row (Sch.rndc sz A (o, false) i) k).1.getD to.toNat 0)) = (Sch.rowc sz i row (Sch.rndc sz A (o, false) i) (k + 1)).1 from by rw [hst2]]
       refine W.reach (D := []) (k + 1) ⟨rfl, rfl, rfl, rfl, rfl, rfl, rfl, rfl, rfl, rfl, rfl, rfl, trivial⟩ (.refl _) ⟨hlt, by show 8 - (k + 1) < 8 - k; omega⟩
      ·have hst2 : Sch.rowc sz i row (Sch.rndc sz A (o, false) i) (k + 1) = Sch.rowc sz i row (Sch.rndc sz A (o, false) i) k := by rw [Sch.rowc_succ, hto]; unfold Sch.stepc; rw [if_neg h66]; refine if_neg ?_; simpa [Sch.wr] using hc_t91
       refine W.k (.bn (.h (.r (.q (.add (.t rfl) .k (fun _ => by omega)) rfl (.mv rfl rfl (.n (.h ?_))))))); refine W.is (t := 8) (av' := .bool (Sch.rowc sz i row (Sch.rndc sz A (o, false) i) (k + 1)).2) rfl (congrArg AV.bool (by rw [hst2])) ?_
       rw [← hst2]
       refine W.reach (D := []) (k + 1) ⟨rfl, rfl, rfl, rfl, rfl, rfl, rfl, rfl, rfl, rfl, rfl, rfl, trivial⟩ (.refl _) ⟨hlt, by show 8 - (k + 1) < 8 - k; omega⟩
    ·subst hend
     refine W.s (.r (.q (.lti (.t rfl) (.t rfl)) rfl (.n (.h (.s ?_))))); refine W.isb 44 false rfl (by exact decide_eq_false (by omega)) ?_; refine W.condF (.t rfl) (.ex (.he (.he (.bh (.bn (.h (.r (.q (.add (.t rfl) .k (fun _ => by omega)) rfl (.mv rfl rfl (.n (.h ?_)))))))))))
     rw [← hsi]
     refine W.reach (D := []) (i + 1) ⟨rfl, rfl, rfl, rfl, rfl, rfl, rfl, trivial⟩ (.refl _) ⟨hlti, by show A.next.length - (i + 1) < A.next.length - i; omega⟩
   ·rw [hend]
    have hrl2 := Sch.rndc_len sz A (o, false) A.next.length
    have hor2 : ((Sch.rndc sz A (o, false) A.next.length).2 = true ∧ Sch.tgo sz A m (Sch.rndc sz A (o, false) A.next.length).1 = some out) ∨ ((Sch.rndc sz A (o, false) A.next.length).2 = false ∧ (Sch.rndc sz A (o, false) A.next.length).1 = out) := by
     split at hrun
     ·rename_i h; exact .inl ⟨h, hrun⟩
     ·rename_i h; exact .inr ⟨Bool.eq_false_iff.2 h, Option.some.inj hrun⟩
    refine W.s ?_; refine W.r ?_; refine W.q (.lti (.t rfl) (.t rfl)) rfl ?_; refine W.n ?_; refine W.h ?_; refine W.s ?_; refine W.isb 37 false rfl (by exact decide_eq_false (by omega)) ?_; refine W.condF (.t rfl) ?_; refine W.ex ?_; refine W.he ?_; refine W.he ?_; refine W.bh ?_; refine W.bn ?_; refine W.h ?_; refine W.reach (D := []) (m, (Sch.rndc sz A (o, false) A.next.length).1, (Sch.rndc sz A (o, false) A.next.length).2) ⟨rfl, rfl, rfl, rfl, trivial⟩ (.refl _) ⟨⟨by rw [hrl2]; exact hol0, hor2⟩, by have h1 : (if true = true then m + 1 + 1 else 0) = m + 2 := if_pos rfl; show (if (Sch.rndc sz A (o, false) A.next.length).2 = true then m + 1 else 0) < (if true = true then m + 1 + 1 else 0); rw [h1]; split <;> omega⟩
  ·skip
   refine W.s ?_; refine W.s ?_; refine W.r ?_; refine W.q (.move (.t rfl)) rfl ?_; refine W.n ?_; refine W.h ?_; refine W.condF (.t rfl) ?_; refine W.ex ?_; refine W.he ?_; refine W.he ?_; refine W.bh ?_; refine W.h ?_; refine W.s ?_; refine W.r ?_; refine W.q (.move (.t rfl)) rfl ?_; refine W.q (.assign (.t rfl)) rfl ?_; refine W.n ?_; refine W.h ?_; refine W.ret ?_; refine W.freeze (M1 := [.box b 76 [.sl 3 (ts.map tpv), .sl 2 (as_.map Au.avx), .lit vs], .arr vs 3 1 (sz.map AV.int)]) (M2 := [.box b 76 [.sl 3 (ts.map tpv), .sl 2 (as_.map Au.avx), .lit vs], .arr vs 3 1 (sz.map AV.int)]) (D := [_]) (v := v17) (L' := [(4, true, .sl 1 (o.map AV.int))]) (List.Perm.cons _ <| (List.perm_middle (l₁ := [_])).trans <| List.Perm.cons _ <| (List.perm_middle (l₁ := [_])).trans <| List.Perm.cons _ <| List.Perm.cons _ <| .refl _) ⟨⟨_, rfl, .one .hit⟩, trivial⟩ (FrzMs.refl _) ?_; refine W.retn (M' := [.box b 76 [.sl 3 (ts.map tpv), .sl 2 (as_.map Au.avx), .lit vs], .arr vs 3 1 (sz.map AV.int)]) (D := []) (rs := [.tmp 4]) (avs := [_]) Tryz.results90 ⟨rfl, trivial⟩ rfl (.refl _) ?_
   exact ⟨rfl, rfl⟩
end WToGo
end Go.Proofs.YtphlkdbglpcikaaGreatDoor
end
section
namespace Go.Proofs.YtphlkdbglpcikaaGreatDoor
open Go.Vl
open Y
namespace WMeas
theorem c_measure (b : Nat) (ts : List Tp) (as_ : List Au) (has : as_.length = ts.length) (hsh : ∀ A ∈ as_, A.Shape ∧ A.next.length ≤ 100 ∧ ∀ r ∈ A.next, ∀ k, k < 8 → 0 ≤ r.getD k (-1) → k < ts.length) (hts : ts.length ≤ 100) (fin : List Int) (hfin : Sch.sizesOf ts as_ = some fin) : FnC Tryz.prog 53 [.lit (.pointer (some ⟨b, 0, none⟩))] [.box b 76 [.sl 3 (ts.map tpv), .sl 2 (as_.map Au.avx), .lit (.slice none 0 0)]] (fun r M => r = .tup [] ∧ ∃ vs, M = [.box b 76 [.sl 3 (ts.map tpv), .sl 2 (as_.map Au.avx), .lit vs], .arr vs 3 1 (fin.map AV.int)]) :=  by
 refine FnC.mk Tryz.func53 (by kernel_rfl) rfl Tryz.ntmps53 rfl (fun w0 F => ?_)
 have hnl : (ts.map tpv).length = ts.length := List.length_map ..
 have hal : (as_.map Au.avx).length = as_.length := List.length_map ..
 refine W.s (.r (.mv rfl rfl (.mv rfl rfl (.q (.nilc (.t rfl)) rfl (.q (.fab (.t rfl) fa76_0) rfl (.q (.ldb1 0 (.t rfl) rfl ag23 rfl) rfl (.q (.lensl (.t rfl) Tryz.underlying23) rfl ?_)))))))
 refine W.mk (.t rfl) (.t rfl) Tryz.underlying22 ty3 rfl rfl rfl rfl rfl (by omega) rfl ?_; intro v13; refine W.arr_inv 0 rfl (fun a13 n13 c13 h13 => ?_)
 subst h13
 have h00 : List.replicate (ts.map tpv).length (AV.int 0) = (List.replicate ts.length (0 : Int)).map AV.int := by rw [hnl, List.map_replicate]
 refine W.perm (List.Perm.of_eq (show _ = [.arr (.slice a13 n13 c13) 3 1 ((List.replicate ts.length (0 : Int)).map AV.int), .box b 76 [.sl 3 (ts.map tpv), .sl 2 (as_.map Au.avx), .lit (.slice none 0 0)]] from by show (ME.arr _ _ _ (List.replicate (ts.map tpv).length (AV.int 0)) :: _) = _; rw [h00])) ?_; refine W.q (.nilc (.t rfl)) rfl (.q (.fab (.t rfl) fa76_2) rfl (.stb 1 (.t rfl) (.t rfl) rfl ty22 rfl rfl rfl (.n (.h (.s (.r (.q (.assign .k) rfl (.n (.h (.b ?_)))))))))); refine W.loop (D := []) (ι := Nat × List Int × Bool) (fun z => [(2, true, .bool z.2.2), (0, true, .lit (.pointer (some ⟨b, 0, none⟩)))]) (fun z => [.arr (.slice a13 n13 c13) 3 1 (z.2.1.map AV.int), .box b 76 [.sl 3 (ts.map tpv), .sl 2 (as_.map Au.avx), .lit (.slice a13 n13 c13)]]) (fun z => z.2.1.length = ts.length ∧ ((z.2.2 = true ∧ Sch.mso ts as_ z.1 z.2.1 = some fin) ∨ (z.2.2 = false ∧ z.2.1 = fin))) (fun z => if z.2.2 = true then z.1 + 1 else 0) (10, List.replicate ts.length 0, true) ⟨rfl, rfl, trivial⟩ (.refl _) ⟨List.length_replicate, .inl ⟨rfl, hfin⟩⟩ ?_
 rintro ⟨f, z, mo⟩ ⟨hzl, hor⟩
 dsimp only at hzl hor ⊢
 rcases hor with ⟨rfl, hrun⟩ | ⟨rfl, rfl⟩
 ·obtain ⟨m, rfl⟩ : ∃ m, f = m + 1 := by cases f; (cases hrun); exact ⟨_, rfl⟩
  simp only [Sch.mso] at hrun
  obtain ⟨rr, hrr⟩ : ∃ r, Sch.rndm ts as_ (z, false) ts.length = some r := by
   cases h : Sch.rndm ts as_ (z, false) ts.length with
   | none => rw [h] at hrun; cases hrun
   | some r => exact ⟨r, rfl⟩
  rw [hrr] at hrun
  dsimp only at hrun
  refine W.s (.s (.r (.mv rfl rfl (.n (.h (.condT (.t rfl) (.k (.h (.b (.s (.r (.q (.assign .k) rfl (.n (.h (.s (.r (.mv rfl rfl (.q (.nilc (.t rfl)) rfl (.q (.fab (.t rfl) fa76_0) rfl (.q (.ldb1 1 (.t rfl) rfl ag23 rfl) rfl (.q (.lensl (.t rfl) Tryz.underlying23) rfl (.q (.move .k) rfl (.n ?_))))))))))))))))))))))); refine W.h (.b ?_); refine W.loop (D := []) (ι := Nat × List Int × Bool) (fun q => [(22, true, .int (q.1 : Int)), (21, true, .int ((ts.map tpv).length : Int)), (20, true, .sl 3 (ts.map tpv)), (0, true, .lit (.pointer (some ⟨b, 0, none⟩))), (2, true, .bool q.2.2)]) (fun q => [.arr (.slice a13 n13 c13) 3 1 (q.2.1.map AV.int), .box b 76 [.sl 3 (ts.map tpv), .sl 2 (as_.map Au.avx), .lit (.slice a13 n13 c13)]]) (fun q => q.1 ≤ ts.length ∧ Sch.rndm ts as_ (z, false) q.1 = some q.2 ∧ q.2.1.length = ts.length) (fun q => ts.length - q.1) (0, z, false) ⟨rfl, rfl, rfl, rfl, rfl, trivial⟩ (.refl _) ⟨Nat.zero_le _, rfl, hzl⟩ ?_
  rintro ⟨i, s⟩ ⟨hi, hs, hsl⟩
  dsimp only at hi hs hsl ⊢
  rcases (show i < ts.length ∨ i = ts.length from by omega) with hlt | hend
  ·have hgt := getD_mapG tpv Sch.dT ts i hlt
   have hgA := getD_mapG Au.avx Sch.dA as_ i (by omega)
   have hAm := getD_memG Sch.dA as_ i (by omega)
   have hgi := getD_map s.1 i (by omega)
   obtain ⟨s2, hs2⟩ := Sch.rndm_some hrr (i + 1) hlt
   rw [Sch.rndm_succ hs] at hs2
   have hstep := hs2
   refine W.s (.r (.q (.lti (.t rfl) (.t rfl)) rfl (.n (.h (.s ?_))))); refine W.isb 23 true rfl (by exact decide_eq_true (by omega)) ?_; refine W.condT (.t rfl) (.k (.h (.s (.b (.s (.r (.mv rfl rfl ?_))))))); refine W.q (.at (E := 28) (.t rfl) (.t rfl) Tryz.underlying23 ty28 (fun _ => ⟨by omega, hgt⟩) rfl rfl) rfl ?_; refine W.q (.lden (.t rfl) ag28 ty28 rfl rfl) rfl ?_
   refine W.alloc ty28 rfl rfl ?_; intro b4; refine W.q (.assign (.t rfl)) rfl ?_
   refine W.stb 0 (.t rfl) (.t rfl) rfl ty28 rfl rfl rfl (.n (.h (.s (.r (.q (.assign .k) rfl (.n (.h (.s (.s (.r (.q (.fab (.t rfl) fa28_0) rfl (.q (.ldb1 0 (.t rfl) rfl ag9 rfl) rfl ?_))))))))))))
   refine W.q (.nes (.t rfl) .k) rfl ?_; refine W.n ?_; refine W.h ?_; refine W.cond (.t rfl) (fun hc_t29 => ?_) (fun hc_t29 => ?_)
   ·have hne : ¬ (ts.getD i Sch.dT).name = [] := by simpa using hc_t29
    unfold Sch.stepm at hstep
    rw [if_neg hne] at hstep
    obtain ⟨o, hto⟩ : ∃ o, Sch.toGo s.1 (as_.getD i Sch.dA) = some o := by
     cases h : Sch.toGo s.1 (as_.getD i Sch.dA) with
     | none => rw [h] at hstep; cases hstep
     | some o => exact ⟨o, rfl⟩
    rw [hto] at hstep
    dsimp only at hstep
    have hol := Sch.toGo_len hto
    have hpos := (hsh _ hAm).1.pos
    have hfnl := (hsh _ hAm).1.fin
    have hg0 := getD_map o 0 (by omega)
    refine W.s (.r (.mv rfl rfl (.mv rfl rfl (.q (.nilc (.t rfl)) rfl (.q (.fab (.t rfl) fa76_1) rfl (.q (.ldb1 2 (.t rfl) rfl ag74 rfl) rfl (.mv rfl rfl ?_))))))); refine W.q (.at (E := 62) (.t rfl) (.t rfl) Tryz.underlying74 ty62 (fun _ => ⟨by omega, hgA⟩) rfl rfl) rfl ?_; refine W.q (.lden (.t rfl) ag62 ty62 rfl rfl) rfl ?_
    refine W.call (WToGo.c_ToGo b ts as_ (.slice a13 n13 c13) s.1 (as_.getD i Sch.dA) (hsh _ hAm).1 (hsh _ hAm).2.1 (fun r hr k hk h => by rw [hsl]; exact (hsh _ hAm).2.2 r hr k hk h) o hto) ⟨(.t rfl), (.t rfl), trivial⟩ (((List.perm_middle (l₁ := [_, _])).trans <| List.Perm.cons _ <| (List.perm_middle (l₁ := [_])).trans <| List.Perm.cons _ <| List.Perm.cons _ <| .refl _)) rfl ?_
    rintro _ _ ⟨rfl, rfl⟩
    refine W.perm ((List.perm_middle (l₁ := [_, _])).trans <| List.Perm.cons _ <| (List.perm_middle (l₁ := [_])).trans <| List.Perm.cons _ <| List.Perm.cons _ <| .refl _) ?_; refine W.q (.at (E := 3) (.t rfl) .k Tryz.underlying22 ty3 (fun _ => ⟨by omega, hg0⟩) rfl rfl) rfl ?_
    refine W.q (.lde1 (.t rfl) ag3) rfl ?_
    refine W.q (.assign (.t rfl)) rfl ?_; refine W.n ?_; refine W.h ?_; refine W.s ?_; refine W.s ?_; refine W.r ?_; refine W.q (.move (.t rfl)) rfl ?_; refine W.q (.lti (.t rfl) .k) rfl ?_; refine W.n ?_; refine W.h ?_; refine W.cond (.t rfl) (fun hc_t42 => ?_) (fun hc_t42 => ?_)
    ·have h42 := of_decide_eq_true hc_t42
     rw [if_pos h42] at hstep
     refine W.ex (.he (.he (.bh (.h (.r (.q (.add (.t rfl) .k (fun _ => by omega)) rfl ?_))))))
     refine W.q (.move (.t rfl)) rfl ?_; refine W.n ?_; refine W.h ?_; refine W.reach (D := [_]) (i + 1, s.1, s.2) ⟨rfl, rfl, rfl, rfl, rfl, trivial⟩ ((List.perm_middle (l₁ := [_])).trans <| List.Perm.cons _ <| (List.perm_middle (l₁ := [_])).trans <| List.Perm.cons _ <| List.Perm.cons _ <| .refl _) ⟨⟨hlt, by rw [Sch.rndm_succ hs, hs2]; exact hstep.symm, by have h9 := Sch.stepm_len hs2; rw [← Option.some.inj hstep] at h9; exact h9.trans hsl⟩, by show ts.length - (i + 1) < ts.length - i; omega⟩
    ·have h42 := of_decide_eq_false hc_t42
     rw [if_neg (by omega)] at hstep
     refine W.k (.h (.r (.mv rfl rfl (.mv rfl rfl (.q (.addw (.t rfl) (.t rfl)) rfl ?_)))))
     rw [show (IntKind.i64.wrap (1 + o.getD 0 0)) = Sch.wr (1 + o.getD 0 0) from rfl]
     obtain ⟨nn, hnn⟩ : ∃ z : Int, Sch.wr (1 + o.getD 0 0) = z := ⟨_, rfl⟩
     rw [hnn] at hstep ⊢
     refine W.asg rfl rfl (.n (.h (.s (.r (.mv rfl rfl (.q (.nilc (.t rfl)) rfl (.q (.fab (.t rfl) fa76_2) rfl (.q (.ldb1 2 (.t rfl) rfl ag22 rfl) rfl (.mv rfl rfl ?_))))))))); refine W.q (.ata 1 (.t rfl) rfl (.t rfl) Tryz.underlying22 ty3 (fun hg => by rw [List.length_map]; omega)) rfl ?_; refine W.q (.lda1 1 i 0 (.t rfl) rfl hgi (by omega) rfl rfl rfl ag3) rfl (.q (.eqi (.t rfl) .k) rfl (.mv rfl rfl (.qgF rfl rfl (.move (.t rfl)) rfl (.qgF rfl rfl (.move (.t rfl)) rfl (.qgF rfl rfl (.nilc (.c rfl)) rfl (.qgF rfl rfl (.fab (.c rfl) fa76_2) rfl (.qgF rfl rfl (.ldb1 2 (.c rfl) rfl ag22 rfl) rfl ?_)))))))
     refine W.qgF rfl rfl (.move (.t rfl)) rfl ?_; refine W.qgF rfl rfl (.ata 1 (.c rfl) rfl (.c rfl) Tryz.underlying22 ty3 (fun hg => by rw [List.length_map]; omega)) rfl ?_; refine W.qgF rfl rfl (.lda1 1 i 0 (.c rfl) rfl hgi (by omega) rfl rfl rfl ag3) rfl ?_; refine W.qgF rfl rfl (.lti (.c rfl) (.c rfl)) rfl ?_; refine W.q (.or (.t rfl) ⟨_, _, rfl, rfl, by ((simp; done))⟩) rfl ?_; refine W.n ?_; refine W.h ?_; refine W.cond (.t rfl) (fun hc_t64 => ?_) (fun hc_t64 => ?_)
     ·have hu : Sch.upd s i nn = (s.1.set i nn, true) := if_pos (by simpa using hc_t64)
      refine W.r (.mv rfl rfl (.q (.nilc (.t rfl)) rfl (.q (.fab (.t rfl) fa76_2) rfl (.q (.ldb1 2 (.t rfl) rfl ag22 rfl) rfl (.mv rfl rfl (.mv rfl rfl ?_)))))); refine W.q (.ata 1 (.t rfl) rfl (.t rfl) Tryz.underlying22 ty3 (fun hg => by rw [List.length_map]; omega)) rfl ?_; refine W.sta 1 i 0 (e := AV.int (s.1.getD i 0)) (e' := AV.int nn) (.t rfl) (.t rfl) rfl hgi (by omega) ty3 rfl rfl rfl rfl rfl rfl rfl ?_; refine W.q (.assign .k) rfl (.n (.bn (.h (.r (.q (.add (.t rfl) .k (fun _ => by omega)) rfl (.mv rfl rfl (.n (.h ?_))))))))
      rw [hu] at hstep
      rw [← List.map_set]
      refine W.reach (D := [_]) (i + 1, s.1.set i nn, true) ⟨rfl, rfl, rfl, rfl, rfl, trivial⟩ ((List.perm_middle (l₁ := [_])).trans <| List.Perm.cons _ <| (List.perm_middle (l₁ := [_])).trans <| List.Perm.cons _ <| List.Perm.cons _ <| .refl _) ⟨⟨hlt, by rw [Sch.rndm_succ hs, hs2]; exact hstep.symm, by have h9 := Sch.stepm_len hs2; rw [← Option.some.inj hstep] at h9; exact h9.trans hsl⟩, by show ts.length - (i + 1) < ts.length - i; omega⟩
     ·have hu : Sch.upd s i nn = s := if_neg (by simpa using hc_t64)
      refine W.k (.bn (.h (.r (.q (.add (.t rfl) .k (fun _ => by omega)) rfl (.mv rfl rfl (.n (.h ?_)))))))
      rw [hu] at hstep
      refine W.reach (D := [_]) (i + 1, s.1, s.2) ⟨rfl, rfl, rfl, rfl, rfl, trivial⟩ ((List.perm_middle (l₁ := [_])).trans <| List.Perm.cons _ <| (List.perm_middle (l₁ := [_])).trans <| List.Perm.cons _ <| List.Perm.cons _ <| .refl _) ⟨⟨hlt, by rw [Sch.rndm_succ hs, hs2]; exact hstep.symm, by have h9 := Sch.stepm_len hs2; rw [← Option.some.inj hstep] at h9; exact h9.trans hsl⟩, by show ts.length - (i + 1) < ts.length - i; omega⟩
   ·have hne : (ts.getD i Sch.dT).name = [] := by simpa using hc_t29
    unfold Sch.stepm at hstep
    rw [if_pos hne] at hstep
    obtain ⟨nn, hnn⟩ : ∃ z : Int, (1 : Int) = z := ⟨_, rfl⟩
    refine W.is (t := 5) (av' := .int nn) rfl (congrArg AV.int hnn) ?_
    rw [hnn] at hstep
    refine W.k (.h (.s (.r (.mv rfl rfl (.q (.nilc (.t rfl)) rfl (.q (.fab (.t rfl) fa76_2) rfl (.q (.ldb1 2 (.t rfl) rfl ag22 rfl) rfl (.mv rfl rfl ?_)))))))); refine W.q (.ata 1 (.t rfl) rfl (.t rfl) Tryz.underlying22 ty3 (fun hg => by rw [List.length_map]; omega)) rfl ?_; refine W.q (.lda1 1 i 0 (.t rfl) rfl hgi (by omega) rfl rfl rfl ag3) rfl (.q (.eqi (.t rfl) .k) rfl (.mv rfl rfl (.qgF rfl rfl (.move (.t rfl)) rfl (.qgF rfl rfl (.move (.t rfl)) rfl (.qgF rfl rfl (.nilc (.c rfl)) rfl (.qgF rfl rfl (.fab (.c rfl) fa76_2) rfl (.qgF rfl rfl (.ldb1 2 (.c rfl) rfl ag22 rfl) rfl ?_)))))))
    refine W.qgF rfl rfl (.move (.t rfl)) rfl ?_; refine W.qgF rfl rfl (.ata 1 (.c rfl) rfl (.c rfl) Tryz.underlying22 ty3 (fun hg => by rw [List.length_map]; omega)) rfl ?_; refine W.qgF rfl rfl (.lda1 1 i 0 (.c rfl) rfl hgi (by omega) rfl rfl rfl ag3) rfl ?_; refine W.qgF rfl rfl (.lti (.c rfl) (.c rfl)) rfl ?_; refine W.q (.or (.t rfl) ⟨_, _, rfl, rfl, by ((simp; done))⟩) rfl ?_; refine W.n ?_; refine W.h ?_; refine W.cond (.t rfl) (fun hc_t64 => ?_) (fun hc_t64 => ?_)
    ·have hu : Sch.upd s i nn = (s.1.set i nn, true) := if_pos (by simpa using hc_t64)
     refine W.r (.mv rfl rfl (.q (.nilc (.t rfl)) rfl (.q (.fab (.t rfl) fa76_2) rfl (.q (.ldb1 2 (.t rfl) rfl ag22 rfl) rfl (.mv rfl rfl (.mv rfl rfl ?_)))))); refine W.q (.ata 1 (.t rfl) rfl (.t rfl) Tryz.underlying22 ty3 (fun hg => by rw [List.length_map]; omega)) rfl ?_; refine W.sta 1 i 0 (e := AV.int (s.1.getD i 0)) (e' := AV.int nn) (.t rfl) (.t rfl) rfl hgi (by omega) ty3 rfl rfl rfl rfl rfl rfl rfl ?_; refine W.q (.assign .k) rfl (.n (.bn (.h (.r (.q (.add (.t rfl) .k (fun _ => by omega)) rfl (.mv rfl rfl (.n (.h ?_))))))))
     rw [hu] at hstep
     rw [← List.map_set]
     refine W.reach (D := [_]) (i + 1, s.1.set i nn, true) ⟨rfl, rfl, rfl, rfl, rfl, trivial⟩ ((List.perm_middle (l₁ := [_])).trans <| List.Perm.cons _ <| (List.perm_middle (l₁ := [_])).trans <| List.Perm.cons _ <| List.Perm.cons _ <| .refl _) ⟨⟨hlt, by rw [Sch.rndm_succ hs, hs2]; exact hstep.symm, by have h9 := Sch.stepm_len hs2; rw [← Option.some.inj hstep] at h9; exact h9.trans hsl⟩, by show ts.length - (i + 1) < ts.length - i; omega⟩
    ·have hu : Sch.upd s i nn = s := if_neg (by simpa using hc_t64)
     refine W.k (.bn (.h (.r (.q (.add (.t rfl) .k (fun _ => by omega)) rfl (.mv rfl rfl (.n (.h ?_)))))))
     rw [hu] at hstep
     refine W.reach (D := [_]) (i + 1, s.1, s.2) ⟨rfl, rfl, rfl, rfl, rfl, trivial⟩ ((List.perm_middle (l₁ := [_])).trans <| List.Perm.cons _ <| (List.perm_middle (l₁ := [_])).trans <| List.Perm.cons _ <| List.Perm.cons _ <| .refl _) ⟨⟨hlt, by rw [Sch.rndm_succ hs, hs2]; exact hstep.symm, by have h9 := Sch.stepm_len hs2; rw [← Option.some.inj hstep] at h9; exact h9.trans hsl⟩, by show ts.length - (i + 1) < ts.length - i; omega⟩
  ·subst hend
   rw [hrr] at hs
   obtain rfl := Option.some.inj hs
   have hor2 : (rr.2 = true ∧ Sch.mso ts as_ m rr.1 = some fin) ∨ (rr.2 = false ∧ rr.1 = fin) := by
    split at hrun
    ·rename_i h; exact .inl ⟨h, hrun⟩
    ·rename_i h; exact .inr ⟨Bool.eq_false_iff.2 h, Option.some.inj hrun⟩
   refine W.s ?_; refine W.r ?_; refine W.q (.lti (.t rfl) (.t rfl)) rfl ?_; refine W.n ?_; refine W.h ?_; refine W.s ?_; refine W.isb 23 false rfl (by exact decide_eq_false (by omega)) ?_; refine W.condF (.t rfl) ?_; refine W.ex ?_; refine W.he ?_; refine W.he ?_; refine W.bh ?_; refine W.bn ?_; refine W.h ?_; refine W.reach (D := []) (m, rr.1, rr.2) ⟨rfl, rfl, trivial⟩ (.refl _) ⟨⟨hsl, hor2⟩, by have h1 : (if true = true then m + 1 + 1 else 0) = m + 2 := if_pos rfl; show (if rr.2 = true then m + 1 else 0) < (if true = true then m + 1 + 1 else 0); rw [h1]; split <;> omega⟩
 ·skip
  refine W.s ?_; refine W.s ?_; refine W.r ?_; refine W.q (.move (.t rfl)) rfl ?_; refine W.n ?_; refine W.h ?_; refine W.condF (.t rfl) ?_; refine W.ex ?_; refine W.he ?_; refine W.he ?_; refine W.bh ?_; refine W.endn (M' := [.box b 76 [.sl 3 (ts.map tpv), .sl 2 (as_.map Au.avx), .lit (.slice a13 n13 c13)], .arr (.slice a13 n13 c13) 3 1 (z.map AV.int)]) (D := []) (rs := []) (avs := []) Tryz.results53 trivial rfl ((List.perm_middle (l₁ := [_])).trans <| List.Perm.cons _ <| List.Perm.cons _ <| .refl _) ?_
  exact ⟨rfl, _, rfl⟩
end WMeas
end Go.Proofs.YtphlkdbglpcikaaGreatDoor
end
section
namespace Go.Vl
open Go.RowKit (Below)
theorem Fr.of_below {w w' : World} (h : Below w.heap.size w w') : Fr w [] w' [] :=
 ⟨h.os, h.tape, h.output, h.size, fun k hk _ => ⟨h.block k hk, by simp⟩⟩
theorem FnP.of_below {P : Program} {f : FuncId} {args : List AV} {r : AV} (hc : CallOk P f)
 (h : ∀ (w : World) (F : List Nat) (vs : List Value), RepT w F args vs → Calls P f vs.toArray w fun e w' => ∃ v, e = .returned v ∧ Rep w' F r v ∧ Below w.heap.size w w') : FnP P f args r :=
 ⟨hc, fun w F vs hF hm ha => (h w F vs (by simpa [bl] using ha)).mono fun e w' ⟨v, he, hr, hb⟩ => ⟨v, r, [], he, ⟨rfl, rfl⟩, MOk.nil w' F, by simpa [bl] using hr, by simpa [bl] using Fr.of_below hb⟩⟩
theorem CallOk.of {P : Program} {f : FuncId} {fn : Func} (h1 : P.funcs[f]? = some fn) (h2 : (fn.name == "runtime.NumGoroutine") = false) (h3 : fn.body.isNone = false) : CallOk P f := ⟨fn, h1, h2, h3⟩
theorem RepE.strs {w : World} {N : List Nat} {l : List (List UInt8)} {row : List Value} (h : RepE w N 1 (l.map AV.str) row) (j : Nat) (x : List UInt8) (hj : l[j]? = some x) : row[j]? = some (.string ⟨x.toArray⟩) := by
 obtain ⟨h1, h2⟩ := RepE.get (i := j) (e := AV.str x) h (by rw [List.getElem?_map, hj]; rfl)
 simp only [RepC, Nat.mul_one] at h2
 have h3 : (List.take 1 (List.drop j row)) = [Value.string ⟨x.toArray⟩] := h2
 have : (List.take 1 (List.drop j row))[0]? = row[j]? := by simp [List.getElem?_take, List.getElem?_drop]
 rw [← this, h3]; rfl
theorem joinP {P : Program} {f : FuncId} (hc : CallOk P f)
 (h0 : ∀ (a : Option Addr) (c : Nat) (sep : ByteArray) (w : World), Calls P f #[.slice a 0 c, .string sep] w fun e w' => e = .returned (.string ⟨#[]⟩) ∧ w' = w)
 (h1 : ∀ (bk o c : Nat) (xs : List ByteArray) (sep : ByteArray) (w : World), (∀ (j : Nat) x, xs[j]? = some x → w.cell? ⟨bk, o + j, none⟩ = some (.string x)) → bk < w.heap.size → xs.length ≤ 140737488355328 → xs.length ≤ c →
  (Lib.join (xs.map (·.data.toList)) sep.data.toList).length ≤ 140737488355328 → Calls P f #[.slice (some ⟨bk, o, none⟩) xs.length c, .string sep] w fun e w' => e = .returned (.string ⟨(Lib.join (xs.map (·.data.toList)) sep.data.toList).toArray⟩) ∧ Below w.heap.size w w')
 (l : List (List UInt8)) (sep : List UInt8) (hl : l.length ≤ 140737488355328) (hj : (Lib.join l sep).length ≤ 140737488355328) : FnP P f [.sl 1 (l.map AV.str), .str sep] (.str (Lib.join l sep)) := by
 refine FnP.of_below hc fun w F vs ha => ?_
 simp only [RepT] at ha
 obtain ⟨v0, _, rfl, ⟨hs0, h2⟩, v1, _, rfl, ⟨hs1, h3⟩, rfl⟩ := ha
 have e1 : v1 = .string ⟨sep.toArray⟩ := Rep.lit_iff.1 (show Rep w F (.str sep) v1 from ⟨hs1, h3⟩)
 subst e1
 obtain ⟨a, cap, rfl, h4, h5, h6⟩ := Rep.sl_inv (show Rep w F (.sl 1 (l.map AV.str)) v0 from ⟨hs0, h2⟩)
 rw [List.length_map] at h4
 rcases h6 with h6 | ⟨b, off, cur, T, fr, rfl, hb, hcur, he⟩
 ·obtain rfl : l = [] := by simpa using h6
  refine (h0 a cap ⟨sep.toArray⟩ w).mono fun e w' ⟨e1, e2⟩ => ?_
  subst e2
  exact ⟨_, e1, Rep.lit _, Below.refl _ _⟩
 ·have hx : (l.map fun x => (⟨x.toArray⟩ : ByteArray)).map (·.data.toList) = l := by rw [List.map_map]; exact List.map_id' _
  have key := h1 b off cap (l.map fun x => (⟨x.toArray⟩ : ByteArray)) ⟨sep.toArray⟩ w (fun j x hjx => by
   rw [List.getElem?_map] at hjx
   obtain ⟨y, hy, rfl⟩ := Option.map_eq_some_iff.1 hjx
   have := RepE.strs he j y hy
   rw [cell_of hcur]
   rw [List.getElem?_drop, Array.getElem?_toList] at this
   exact this) (heap_lt hcur) (by rw [List.length_map]; exact hl) (by rw [List.length_map]; exact h4) (by rw [hx]; exact hj)
  rw [hx, List.length_map] at key
  rw [List.length_map]
  exact key.mono fun e w' ⟨e1, e2⟩ => ⟨_, e1, Rep.lit _, e2⟩
end Go.Vl
end
section
namespace Go.Vl
open Go.RowKit (Below)
theorem MOk.below {w w' : World} {M : List ME} {F : List Nat} (h : MOk w M F) (hb : Below w.heap.size w w') (hF : ∀ b ∈ F, b < w.heap.size) : MOk w' M F := by
 refine ⟨h.nodup, h.apart, fun m hm => ME.holds_keep (w := w) (N := bl M ++ F) ?_ (fun b hb' => ?_) (h.holds m hm)⟩
 ·intro b c T fr hn hc
  exact ⟨hn, (hb.block b (heap_lt hc)).trans hc⟩
 ·exact hb.block b (bl_lt h b (List.mem_flatMap.2 ⟨m, hm, hb'⟩))
theorem Fr.below {w w' : World} {N : List Nat} (h : Below w.heap.size w w') : Fr w N w' N :=
 ⟨h.os, h.tape, h.output, h.size, fun k hk hn => ⟨h.block k hk, hn⟩⟩
theorem FnC.belowM {P : Program} {f : FuncId} {args : List AV} {M0 : List ME} {r : AV} (hc : CallOk P f)
 (h : ∀ (w : World) (F : List Nat) (vs : List Value), MOk w M0 F → RepT w (bl M0 ++ F) args vs → Calls P f vs.toArray w fun e w' => ∃ v, e = .returned v ∧ Rep w' (bl M0 ++ F) r v ∧ Below w.heap.size w w') : FnC P f args M0 (fun r' M => r' = r ∧ M = M0) :=
 ⟨hc, fun w F vs hF hm ha => (h w F vs hm ha).mono fun e w' ⟨v, he, hr, hb⟩ => ⟨v, r, M0, he, ⟨rfl, rfl⟩, hm.below hb hF, hr, Fr.below hb⟩⟩
theorem lit_cell {w : World} {N : List Nat} {v u : Value} (h1 : (AV.lit v).sh = 0) (h3 : RepC w N (.lit v) [u]) : u = v := by
 simp only [RepC] at h3
 have e : v.cells.toList = [v] := by cases v <;> simp_all [AV.sh, shV, Value.cells]
 rw [e] at h3
 exact (List.cons.inj h3).1
end Go.Vl
end
section
namespace Go.Vl
open Go.RowKit (Below)
open Go.Sort
theorem RepE.ints {w : World} {N : List Nat} : ∀ {l : List Int} {row : List Value}, row.take l.length = l.map (Value.int .i64) → RepE w N 1 (l.map AV.int) row
 | [], row, _ => by simp only [List.map_nil, RepE]
 | n :: l, row, h => by
  cases row with
  | nil => simp at h
  | cons x row =>
   simp only [List.length_cons, List.take_succ_cons, List.map_cons, List.cons.injEq] at h
   simp only [List.map_cons, RepE]
   refine ⟨by simp, ?_, RepE.ints h.2⟩
   rw [h.1]
   simp only [RepC]; rfl
theorem RepE.toInts {w : World} {N : List Nat} : ∀ {l : List Int} {row : List Value}, RepE w N 1 (l.map AV.int) row → row.take l.length = l.map (Value.int .i64)
 | [], row, _ => by simp
 | n :: l, row, h => by
  simp only [List.map_cons, RepE] at h
  obtain ⟨h1, h2, h3⟩ := h
  cases row with
  | nil => simp at h1
  | cons x row =>
   have h2 : [x] = (Value.int .i64 n).cells.toList := by simpa [RepC] using h2
   have hx : x = .int .i64 n := by simpa [Value.cells] using h2
   rw [List.length_cons, List.take_succ_cons, List.map_cons, hx]
   congr 1
   exact RepE.toInts (w := w) (N := N) h3
theorem FnC.belowRow {P : Program} {f : FuncId} {args : List AV} {M0 : List ME} {I : TypeId} {l : List Int} (hc : CallOk P f)
 (h : ∀ (w : World) (F : List Nat) (vs : List Value), (∀ b ∈ F, b < w.heap.size) → MOk w M0 F → RepT w (bl M0 ++ F) args vs → Calls P f vs.toArray w fun e w' => ∃ v, e = .returned v ∧ w'.ownsRow w.heap.size I 1 v l.length (l.map (Value.int .i64)) ∧ Below w.heap.size w w') :
 FnC P f args M0 (fun r M => ∃ v, r = .lit v ∧ M = .arr v I 1 (l.map AV.int) :: M0) := by
 refine ⟨hc, fun w F vs hF hm ha => (h w F vs hF hm ha).mono fun e w' ⟨v, he, hr, hb⟩ => ?_⟩
 have hm' := hm.below hb hF
 refine ⟨v, .lit v, .arr v I 1 (l.map AV.int) :: M0, he, ⟨v, rfl, rfl⟩, ?_, Rep.lit v, ?_⟩
 ·rcases hr.2 with ⟨rfl, h0⟩ | ⟨g, cap, cur, rfl, hbase, hg, h1, h2, h3, h4⟩
  ·have : l = [] := List.eq_nil_of_length_eq_zero h0
   subst this
   refine ⟨hm'.nodup, hm'.apart, fun m hmm => ?_⟩
   rcases List.mem_cons.1 hmm with rfl | hmm
   ·exact ⟨none, 0, rfl, Nat.le_refl _, by simp [maxLen], .inl ⟨rfl, rfl⟩⟩
   ·exact hm'.holds m hmm
  ·have hgn : g ∉ bl M0 ++ F := fun hg' => by
    rcases List.mem_append.1 hg' with h' | h'
    ·have := bl_lt hm g h'; omega
    ·have := hF g h'; omega
   have hbl : bl (.arr (.slice (some ⟨g, 0, none⟩) l.length cap) I 1 (l.map AV.int) :: M0) = g :: bl M0 := rfl
   refine ⟨?_, ?_, ?_⟩
   ·rw [hbl]
    exact List.nodup_cons.2 ⟨fun h' => hgn (List.mem_append_left _ h'), hm'.nodup⟩
   ·rw [hbl]
    intro b hb'
    rcases List.mem_cons.1 hb' with rfl | hb'
    ·exact fun h' => hgn (List.mem_append_right _ h')
    ·exact hm'.apart b hb'
   ·intro m hmm
    rw [hbl]
    rcases List.mem_cons.1 hmm with rfl | hmm
    ·refine ⟨some ⟨g, 0, none⟩, cap, by rw [List.length_map], by rw [List.length_map]; exact h1, h2, .inr ⟨g, 0, cur, 0, 0, rfl, hg, by omega, .inl (Nat.le_refl _), ?_⟩⟩
     rw [List.drop_zero]
     exact RepE.ints (by rw [Nat.mul_one] at h4; exact h4)
    ·have h5 := hm.holds m hmm
     refine ME.holds_keep (w := w) (N := bl M0 ++ F) ?_ (fun b hb' => hb.block b (bl_lt hm b (List.mem_flatMap.2 ⟨m, hmm, hb'⟩))) h5
     intro b c T fr hn hcc
     refine ⟨fun h' => ?_, (hb.block b (heap_lt hcc)).trans hcc⟩
     rcases List.mem_cons.1 h' with rfl | h'
     ·have := heap_lt hcc; omega
     ·exact hn h'
 ·have hF2 := Fr.below (N := bl M0) hb
  refine ⟨hF2.os, hF2.tape, hF2.output, hF2.size, fun k hk hn => ⟨(hF2.block k hk hn).1, fun h' => ?_⟩⟩
  rcases hr.2 with ⟨rfl, h0⟩ | ⟨g, cap, cur, rfl, hbase, _⟩
  ·exact hn h'
  ·have h' : k ∈ g :: bl M0 := h'
   rcases List.mem_cons.1 h' with rfl | h'
   ·omega
   ·exact hn h'
theorem take_putCells (cur : Array Value) (off : Nat) (ts : List Int) (h : off + ts.length ≤ cur.size) : ((putCells (Value.int .i64) off ts.toArray cur).toList.drop off).take ts.length = ts.map (Value.int .i64) := by
 apply List.ext_getElem?
 intro j
 by_cases hj : j < ts.length
 ·rw [List.getElem?_take_of_lt hj, List.getElem?_drop, Array.getElem?_toList]
  simp [putCells, hj, show off + j < cur.size by omega]
 ·rw [List.getElem?_take_eq_none (by omega), List.getElem?_eq_none (by simp; omega)]
theorem FnC.row {P : Program} {f : FuncId} {I : TypeId} {v : Value} {l : List Int} (hc : CallOk P f) (new : List Int) (hn : new.length = l.length) (m : Nat) (hm : m ≤ l.length) (rv : Option Addr → Nat → Value)
 (h0 : l = [] → ∀ (ad : Option Addr) (cap : Nat) (w : World), Calls P f #[.slice ad 0 cap] w fun e w' => e = .returned (rv ad cap) ∧ w' = w)
 (h1 : l ≠ [] → ∀ (g off cap : Nat) (w : World), Holds (Value.int .i64) w g off l.toArray → g < w.heap.size → l.length ≤ cap → cap ≤ maxLen → Calls P f #[.slice (some ⟨g, off, none⟩) l.length cap] w fun e w' => e = .returned (rv (some ⟨g, off, none⟩) cap) ∧ ∃ n os, w' = grow (putRow (Value.int .i64) (Sort.ahead w n) g off new.toArray) os) :
 FnC P f [.lit v] [.arr v I 1 (l.map AV.int)] (fun r M => ∃ ad cap, v = .slice ad l.length cap ∧ r = .lit (rv ad cap) ∧ M = [.arr (.slice ad m cap) I 1 ((new.take m).map AV.int)]) := by
 refine ⟨hc, fun w F vs hF hmk ha => ?_⟩
 simp only [RepT] at ha
 obtain ⟨v0, _, rfl, ⟨hs0, hr0⟩, rfl⟩ := ha
 have e0 : v0 = v := Rep.lit_iff.1 (show Rep w (bl [.arr v I 1 (l.map AV.int)] ++ F) (.lit v) v0 from ⟨hs0, hr0⟩)
 subst e0
 obtain ⟨ad, cap, rfl, hl1, hl2, h3⟩ := hmk.holds _ List.mem_cons_self
 rw [List.length_map] at *
 by_cases hl : l = []
 ·subst hl
  refine (h0 rfl ad cap w).mono fun e w' ⟨he, hw⟩ => ?_
  subst hw
  obtain rfl : m = 0 := by simpa using hm
  have hnew : new = [] := List.eq_nil_of_length_eq_zero hn
  subst hnew
  exact ⟨_, _, _, he, ⟨ad, cap, rfl, rfl, rfl⟩, hmk, Rep.lit _, Fr.refl _ _⟩
 ·rcases h3 with ⟨_, h3⟩ | ⟨g, off, cur, lo, hi, rfl, hg, hsz, hfr, he⟩
  ·have : l.length ≠ 0 := fun h => hl (List.eq_nil_of_length_eq_zero h)
   omega
  ·have hti := RepE.toInts he
   have hle : off + l.length ≤ cur.size := by omega
   have hH : Holds (Value.int .i64) w g off l.toArray := by
    intro j hj
    have hj' : j < l.length := by simpa using hj
    refine ⟨?_, ?_⟩
    ·rw [cell_of hg]
     have h5 : ((cur.toList.drop off).take l.length)[j]? = (l.map (Value.int .i64))[j]? := by rw [hti]
     rw [List.getElem?_take_of_lt hj', List.getElem?_drop, Array.getElem?_toList] at h5
     rw [h5]; simp [hj']
    ·simp only [World.frozen?, hg]
     rcases hfr with h5 | h5
     ·simp; omega
     ·simp; omega
   refine (h1 hl g off cap w hH (heap_lt hg) hl1 hl2).mono fun e w' ⟨he', n, os, hw⟩ => ?_
   subst hw
   have hg' : (grow (putRow (Value.int .i64) (Sort.ahead w n) g off new.toArray) os).heap[g]? = some (.cells (putCells (Value.int .i64) off new.toArray cur) I (lo, hi)) := by
    rw [heap_grow_old _ _ (by simpa using heap_lt hg)]
    simp [putRow, mapBlock, Sort.ahead, Array.getElem?_modify, hg, onCells]
   have hother : ∀ k, k < w.heap.size → k ≠ g → (grow (putRow (Value.int .i64) (Sort.ahead w n) g off new.toArray) os).heap[k]? = w.heap[k]? := fun k hk hne => by
    rw [heap_grow_old _ _ (by simpa using hk)]
    have hne' : ¬ g = k := fun e => hne e.symm
    simp [putRow, mapBlock, Sort.ahead, Array.getElem?_modify, hne']
   have htl : (new.take m).length = m := by rw [List.length_take]; omega
   refine ⟨_, _, [.arr (.slice (some ⟨g, off, none⟩) m cap) I 1 ((new.take m).map AV.int)], he', ⟨_, cap, rfl, rfl, rfl⟩, ⟨?_, ?_, ?_⟩, Rep.lit _, ?_⟩
   ·exact hmk.nodup
   ·exact hmk.apart
   ·intro q hq
    rw [List.mem_singleton.1 hq]
    refine ⟨some ⟨g, off, none⟩, cap, by rw [List.length_map, htl], by rw [List.length_map, htl]; omega, hl2, .inr ⟨g, off, _, lo, hi, rfl, hg', by simpa [putCells] using hsz, hfr, ?_⟩⟩
    refine RepE.ints ?_
    rw [htl]
    have := take_putCells cur off new (by omega)
    have h6 := congrArg (List.take m) this
    rw [List.take_take, Nat.min_eq_left (by omega), ← List.map_take] at h6
    exact h6
   ·refine ⟨rfl, rfl, rfl, by simp [grow, Sort.ahead], fun k hk hkn => ?_⟩
    have hne : k ≠ g := fun e => hkn (by rw [e]; exact List.mem_cons_self)
    exact ⟨hother k hk hne, hkn⟩
end Go.Vl
end
section
namespace Go.Vl
open Go.Lib
def srt (l : List Int) : List Int := l.mergeSort fun x y => decide (x ≤ y)
def norm (l : List Int) : List Int := compact (srt l)
theorem srt_len (l : List Int) : (srt l).length = l.length := by simp [srt]
theorem srt_mem (l : List Int) (x : Int) : x ∈ srt l ↔ x ∈ l := (List.mergeSort_perm l _).mem_iff
theorem srt_asc (l : List Int) : (srt l).Pairwise (· ≤ ·) := by
 have h := List.pairwise_mergeSort (le := fun x y : Int => decide (x ≤ y)) (fun a b c h1 h2 => by simp at h1 h2 ⊢; omega) (fun a b => by simp; omega) l
 exact h.imp fun h => by simpa using h
theorem compact_all' (zs : List Int) (hs : zs.Pairwise (· ≤ ·)) : ∀ m, m ≤ zs.length → (compactUpTo zs.toArray m).Pairwise (· < ·) ∧ (∀ x, x ∈ compactUpTo zs.toArray m ↔ ∃ j, j < m ∧ zs.toArray[j]! = x) ∧ (compactUpTo zs.toArray m).length ≤ m := by
 have hle : ∀ i j, i ≤ j → j < zs.length → zs.toArray[i]! ≤ zs.toArray[j]! := fun i j hij hj => by
  have hi : i < zs.length := by omega
  have e : ∀ k, (hk : k < zs.length) → zs.toArray[k]! = zs[k] := fun k hk => by simp [hk]
  rw [e i hi, e j hj]
  rcases Nat.lt_or_ge i j with h | h
  ·exact List.pairwise_iff_getElem.1 hs i j hi hj h
  ·obtain rfl : i = j := by omega
   exact Int.le_refl _
 intro m
 induction m with
 | zero => intro _; exact ⟨by simp [compactUpTo], by simp [compactUpTo], by simp [compactUpTo]⟩
 | succ m ih =>
  intro hm
  obtain ⟨h1, h2, h3⟩ := ih (by omega)
  rw [compactUpTo_succ]
  by_cases hk : keeps zs.toArray m = true
  ·rw [if_pos hk]
   refine ⟨?_, fun x => ?_, by simp; omega⟩
   ·refine List.pairwise_append.2 ⟨h1, by simp, fun x hx y hy => ?_⟩
    rw [List.mem_singleton.1 hy]
    obtain ⟨j, hj, rfl⟩ := (h2 x).1 hx
    have hkk : m = 0 ∨ zs.toArray[m]! ≠ zs.toArray[m - 1]! := by simpa [keeps] using hk
    have a1 := hle j (m - 1) (by omega) (by omega)
    have a2 := hle (m - 1) m (by omega) (by omega)
    rcases hkk with h | h
    ·omega
    ·have : zs.toArray[m]! ≠ zs.toArray[m - 1]! := h
     omega
   ·rw [List.mem_append, List.mem_singleton, h2]
    constructor
    ·rintro (⟨j, hj, e⟩ | e)
     ·exact ⟨j, by omega, e⟩
     ·exact ⟨m, by omega, e.symm⟩
    ·rintro ⟨j, hj, e⟩
     rcases Nat.lt_or_ge j m with h | h
     ·exact .inl ⟨j, h, e⟩
     ·obtain rfl : j = m := by omega
      exact .inr e.symm
  ·rw [if_neg hk, List.append_nil]
   have hkk : m ≠ 0 ∧ zs.toArray[m]! = zs.toArray[m - 1]! := by
    have : ¬ (m = 0 ∨ zs.toArray[m]! ≠ zs.toArray[m - 1]!) := by simpa [keeps] using hk
    exact ⟨fun h => this (.inl h), Classical.byContradiction fun h => this (.inr h)⟩
   refine ⟨h1, fun x => ?_, by omega⟩
   rw [h2]
   constructor
   ·rintro ⟨j, hj, e⟩; exact ⟨j, by omega, e⟩
   ·rintro ⟨j, hj, e⟩
    rcases Nat.lt_or_ge j m with h | h
    ·exact ⟨j, h, e⟩
    ·obtain rfl : j = m := by omega
     exact ⟨j - 1, by omega, by rw [← hkk.2]; exact e⟩
theorem norm_all (l : List Int) : (norm l).Pairwise (· < ·) ∧ (∀ x, x ∈ norm l ↔ x ∈ l) ∧ (norm l).length ≤ l.length := by
 obtain ⟨h1, h2, h3⟩ := compact_all' (srt l) (srt_asc l) (srt l).length (Nat.le_refl _)
 refine ⟨h1, fun x => ?_, by rw [← srt_len l]; exact h3⟩
 rw [← srt_mem l x]
 refine (h2 x).trans ⟨?_, fun hx => ?_⟩
 ·rintro ⟨j, hj, e⟩
  rw [← e]
  simp [hj]
 ·obtain ⟨j, hj, rfl⟩ := List.mem_iff_getElem.1 hx
  exact ⟨j, hj, by simp [hj]⟩
theorem norm_mem (l : List Int) (x : Int) : x ∈ norm l ↔ x ∈ l := (norm_all l).2.1 x
theorem norm_len (l : List Int) : (norm l).length ≤ l.length := (norm_all l).2.2
theorem compact_len (l : List Int) (hs : l.Pairwise (· ≤ ·)) : (compact l).length ≤ l.length := (compact_all' l hs l.length (Nat.le_refl _)).2.2
theorem asc_ext : ∀ {l m : List Int}, l.Pairwise (· < ·) → m.Pairwise (· < ·) → (∀ x, x ∈ l ↔ x ∈ m) → l = m
 | [], [], _, _, _ => rfl
 | [], b :: m, _, _, h => absurd ((h b).2 List.mem_cons_self) (by simp)
 | a :: l, [], _, _, h => absurd ((h a).1 List.mem_cons_self) (by simp)
 | a :: l, b :: m, hl, hm, h => by
  obtain ⟨l1, l2⟩ := List.pairwise_cons.1 hl
  obtain ⟨m1, m2⟩ := List.pairwise_cons.1 hm
  have hab : a = b := by
   rcases List.mem_cons.1 ((h a).1 List.mem_cons_self) with e | e
   ·exact e
   ·rcases List.mem_cons.1 ((h b).2 List.mem_cons_self) with e' | e'
    ·exact e'.symm
    ·have := m1 a e; have := l1 b e'; omega
  subst hab
  congr 1
  refine asc_ext l2 m2 fun x => ?_
  constructor
  ·intro hx
   rcases List.mem_cons.1 ((h x).1 (List.mem_cons_of_mem _ hx)) with e | e
   ·have := l1 x hx; omega
   ·exact e
  ·intro hx
   rcases List.mem_cons.1 ((h x).2 (List.mem_cons_of_mem _ hx)) with e | e
   ·have := m1 x hx; omega
   ·exact e
theorem norm_ext {l m : List Int} (h : ∀ x, x ∈ l ↔ x ∈ m) : norm l = norm m :=
 asc_ext (norm_all l).1 (norm_all m).1 fun x => (norm_mem l x).trans ((h x).trans (norm_mem m x).symm)
theorem itoa_lib (n : Int) (h0 : -1 ≤ n) (h1 : n < 100) : Lib.itoa n = itoa n := by
 unfold Lib.itoa itoa
 by_cases h : n < 0
 ·obtain rfl : n = -1 := by omega
  rw [if_pos h, if_pos h, Lib.decDigits, dif_pos (by decide)]; rfl
 ·rw [if_neg h, if_neg h]
  by_cases h9 : n < 10
  ·rw [if_pos h9, Lib.decDigits, dif_pos (by omega), dgt]
   congr 1
   rw [UInt8.ofNat_add]; rfl
  ·rw [if_neg h9, Lib.decDigits, dif_neg (by omega), Lib.decDigits, dif_pos (by omega)]
   show [_, _] = [_, _]
   unfold dgt
   rw [UInt8.ofNat_add, UInt8.ofNat_add]; rfl
end Go.Vl
end
section
namespace Go.Vl
abbrev Ss := List Int × Bool
structure Gp where
 tys : List Int
 F : Fol
 fi : List Nat
 la : List Nat
 no : Bool
namespace Gp
def ints (l : List Nat) : List Int := l.map fun n : Nat => (n : Int)
theorem ints_mem (l : List Nat) (x : Int) : x ∈ ints l ↔ ∃ n, n ∈ l ∧ x = (n : Int) := by
 simp only [ints, List.mem_map]
 exact ⟨fun ⟨n, h, e⟩ => ⟨n, h, e.symm⟩, fun ⟨n, h, e⟩ => ⟨n, h, e.symm⟩⟩
theorem ints_av (l : List Nat) : (ints l).map AV.int = l.map natv := by rw [ints, List.map_map]; rfl
def sel (g : Gp) (S : List Int) (c : Nat) : List Int := S.filter fun k => tyOf g.tys k.toNat == (c : Int)
def tos (g : Gp) (P : List Int) : List Int := P.flatMap fun k => ints (g.F.getD k.toNat [])
def fins (g : Gp) (P : List Int) : Bool := P.any fun k => decide (k.toNat ∈ g.la)
def stp (g : Gp) (s : Ss) (c : Nat) : Ss := (norm (g.tos (g.sel s.1 c)), g.fins (g.sel s.1 c))
theorem sel_snoc (g : Gp) (S : List Int) (c i : Nat) (h : i < S.length) : g.sel (S.take (i + 1)) c = g.sel (S.take i) c ++ (if tyOf g.tys (S.getD i 0).toNat == (c : Int) then [S.getD i 0] else []) := by
 rw [take_getDG 0 S i h, sel, List.filter_append]
 congr 1
 simp only [List.filter_cons, List.filter_nil]
theorem tos_snoc (g : Gp) (P : List Int) (k : Int) : g.tos (P ++ [k]) = g.tos P ++ ints (g.F.getD k.toNat []) := by simp [tos]
theorem fins_snoc (g : Gp) (P : List Int) (k : Int) : g.fins (P ++ [k]) = (g.fins P || decide (k.toNat ∈ g.la)) := by simp [fins]
def lgs (g : Gp) (s : Ss) : Lg
 | [] => s.2 = true
 | c :: u => ∃ q : Nat, (q : Int) ∈ s.1 ∧ tyOf g.tys q = c ∧ (glOf 0 g.F g.fi g.la g.no).rd (tyOf g.tys) q u
structure Ok (g : Gp) : Prop where
 len : g.F.length = g.tys.length
 fi : ∀ p ∈ g.fi, p < g.tys.length
 la : ∀ p ∈ g.la, p < g.tys.length
 fol : ∀ p q, q ∈ g.F.getD p [] → q < g.tys.length
 ty : ∀ c ∈ g.tys, 0 ≤ c ∧ c < 8
def In (g : Gp) (s : Ss) : Prop := ∀ x ∈ s.1, 0 ≤ x ∧ x < g.tys.length
theorem stp_in (g : Gp) (h : g.Ok) (s : Ss) (c : Nat) : g.In (g.stp s c) := by
 intro x hx
 have hx := (norm_mem _ x).1 hx
 obtain ⟨k, _, hk⟩ := List.mem_flatMap.1 hx
 obtain ⟨n, hn, rfl⟩ := (ints_mem _ x).1 hk
 have := h.fol _ n hn
 omega
theorem start_in (g : Gp) (h : g.Ok) : g.In (norm (ints g.fi), g.no) := by
 intro x hx
 obtain ⟨n, hn, rfl⟩ := (ints_mem _ x).1 ((norm_mem _ x).1 hx)
 have := h.fi n hn
 omega
theorem lgs_start (g : Gp) : g.lgs (norm (ints g.fi), g.no) = (glOf 0 g.F g.fi g.la g.no).lg (tyOf g.tys) := Lg.ext fun w => by
 cases w with
 | nil => exact Iff.rfl
 | cons c u =>
  simp only [lgs, Gl.lg, norm_mem, ints_mem, glOf]
  constructor
  ·rintro ⟨q, ⟨n, hn, e⟩, h1, h2⟩
   obtain rfl : q = n := by omega
   exact ⟨q, hn, h1, h2⟩
  ·rintro ⟨q, hq, h1, h2⟩
   exact ⟨q, ⟨q, hq, rfl⟩, h1, h2⟩
theorem mem_sel (g : Gp) {s : Ss} (hs : g.In s) (c : Nat) (x : Int) : x ∈ g.sel s.1 c ↔ ∃ q : Nat, x = (q : Int) ∧ (q : Int) ∈ s.1 ∧ tyOf g.tys q = (c : Int) := by
 simp only [sel, List.mem_filter, beq_iff_eq]
 constructor
 ·rintro ⟨h1, h2⟩
  have := hs x h1
  exact ⟨x.toNat, by omega, by rw [Int.toNat_of_nonneg this.1]; exact h1, h2⟩
 ·rintro ⟨q, rfl, h1, h2⟩
  exact ⟨h1, h2⟩
theorem lgs_stp (g : Gp) (h : g.Ok) {s : Ss} (hs : g.In s) (c : Nat) (u : List Int) : g.lgs s ((c : Int) :: u) ↔ g.lgs (g.stp s c) u := by
 cases u with
 | nil =>
  show (∃ q : Nat, (q : Int) ∈ s.1 ∧ tyOf g.tys q = (c : Int) ∧ q ∈ g.la) ↔ g.fins (g.sel s.1 c) = true
  simp only [fins, List.any_eq_true, decide_eq_true_eq]
  constructor
  ·rintro ⟨q, h1, h2, h3⟩
   exact ⟨(q : Int), (g.mem_sel hs c _).2 ⟨q, rfl, h1, h2⟩, by rw [Int.toNat_natCast]; exact h3⟩
  ·rintro ⟨x, h1, h2⟩
   obtain ⟨q, rfl, h3, h4⟩ := (g.mem_sel hs c x).1 h1
   exact ⟨q, h3, h4, by rw [Int.toNat_natCast] at h2; exact h2⟩
 | cons d u =>
  show (∃ q : Nat, (q : Int) ∈ s.1 ∧ tyOf g.tys q = (c : Int) ∧ ∃ r, (0 ≤ q ∧ r ∈ g.F.getD q []) ∧ tyOf g.tys r = d ∧ _) ↔ ∃ r : Nat, (r : Int) ∈ norm (g.tos (g.sel s.1 c)) ∧ tyOf g.tys r = d ∧ _
  simp only [norm_mem, tos, List.mem_flatMap, ints_mem]
  constructor
  ·rintro ⟨q, h1, h2, r, ⟨_, h3⟩, h4, h5⟩
   exact ⟨r, ⟨(q : Int), (g.mem_sel hs c _).2 ⟨q, rfl, h1, h2⟩, r, by rw [Int.toNat_natCast]; exact h3, rfl⟩, h4, h5⟩
  ·rintro ⟨r, ⟨x, h1, n, h2, e⟩, h4, h5⟩
   obtain rfl : r = n := by omega
   obtain ⟨q, rfl, h6, h7⟩ := (g.mem_sel hs c x).1 h1
   exact ⟨q, h6, h7, r, ⟨Nat.zero_le _, by rw [Int.toNat_natCast] at h2; exact h2⟩, h4, h5⟩
theorem lgs_none (g : Gp) {s : Ss} (hs : g.In s) (c : Nat) (hn : g.sel s.1 c = []) (u : List Int) : ¬ g.lgs s ((c : Int) :: u) := by
 rintro ⟨q, h1, h2, _⟩
 have := (g.mem_sel hs c _).2 ⟨q, rfl, h1, h2⟩
 rw [hn] at this; cases this
theorem lgs_over (g : Gp) (h : g.Ok) {s : Ss} (hs : g.In s) {c : Int} (hc : ¬ (0 ≤ c ∧ c < 8)) (u : List Int) : ¬ g.lgs s (c :: u) := by
 rintro ⟨q, h1, h2, _⟩
 have hq := hs _ h1
 have : tyOf g.tys q ∈ g.tys := getD_memG 0 g.tys q (by omega)
 rw [h2] at this
 exact hc (h.ty c this)
end Gp
structure Sts (g : Gp) (SL : List Ss) (T : Nat → Nat → Int) (i c : Nat) : Prop where
 zero : SL.getD 0 ([], false) = (norm (Gp.ints g.fi), g.no) ∧ 0 < SL.length
 nodup : SL.Nodup
 inn : ∀ s ∈ SL, g.In s
 asc : ∀ s ∈ SL, s.1.Pairwise (· < ·)
 ent : ∀ k d, k < SL.length → d < 8 → (k < i ∨ (k = i ∧ d < c)) → (T k d = -1 ∧ g.sel (SL.getD k ([], false)).1 d = []) ∨ ∃ j : Nat, j < SL.length ∧ T k d = (j : Int) ∧ SL.getD j ([], false) = g.stp (SL.getD k ([], false)) d
 src : ∀ k, 0 < k → k < SL.length → ∃ s d, g.In s ∧ g.sel s.1 d ≠ [] ∧ SL.getD k ([], false) = g.stp s d
section sts
variable {g : Gp} {SL : List Ss} {T : Nat → Nat → Int} {i c : Nat}
theorem Sts.start (hg : g.Ok) (T : Nat → Nat → Int) : Sts g [(norm (Gp.ints g.fi), g.no)] T 0 0 :=
 ⟨⟨rfl, by simp⟩, by simp, fun s hs => by rw [List.mem_singleton.1 hs]; exact g.start_in hg, fun s hs => by rw [List.mem_singleton.1 hs]; exact (norm_all _).1, fun k d _ _ h => by omega, fun k h0 hk => by simp only [List.length_singleton] at hk; omega⟩
theorem Sts.row (h : Sts g SL T i 8) : Sts g SL T (i + 1) 0 := ⟨h.zero, h.nodup, h.inn, h.asc, fun k d hk hd hx => h.ent k d hk hd (by omega), h.src⟩
theorem Sts.setI (h : Sts g SL T i c) (x : Int) : Sts g SL (Au.setI T i c x) i c :=
 ⟨h.zero, h.nodup, h.inn, h.asc, fun k d hk hd hx => by rw [Au.setI_ne T i c x (by omega)]; exact h.ent k d hk hd hx, h.src⟩
theorem Sts.none (h : Sts g SL T i c) (hT : T i c = -1) (hn : g.sel (SL.getD i ([], false)).1 c = []) : Sts g SL T i (c + 1) := by
 refine ⟨h.zero, h.nodup, h.inn, h.asc, fun k d hk hd hx => ?_, h.src⟩
 by_cases h1 : k < i ∨ (k = i ∧ d < c)
 ·exact h.ent k d hk hd h1
 ·obtain ⟨rfl, rfl⟩ : k = i ∧ d = c := by omega
  exact .inl ⟨hT, hn⟩
theorem Sts.old (h : Sts g SL T i c) {j : Nat} (hT : T i c = (j : Int)) (hj : j < SL.length) (he : SL.getD j ([], false) = g.stp (SL.getD i ([], false)) c) : Sts g SL T i (c + 1) := by
 refine ⟨h.zero, h.nodup, h.inn, h.asc, fun k d hk hd hx => ?_, h.src⟩
 by_cases h1 : k < i ∨ (k = i ∧ d < c)
 ·exact h.ent k d hk hd h1
 ·obtain ⟨rfl, rfl⟩ : k = i ∧ d = c := by omega
  exact .inr ⟨j, hj, hT, he⟩
theorem Sts.new (hg : g.Ok) (h : Sts g SL T i c) (hi : i < SL.length) (hc : c < 8) (hT : T i c = (SL.length : Int)) (hs : g.sel (SL.getD i ([], false)).1 c ≠ []) (hn : g.stp (SL.getD i ([], false)) c ∉ SL) : Sts g (SL ++ [g.stp (SL.getD i ([], false)) c]) T i (c + 1) := by
 have hl : (SL ++ [g.stp (SL.getD i ([], false)) c]).length = SL.length + 1 := by simp
 have g1 : ∀ k, k < SL.length → (SL ++ [g.stp (SL.getD i ([], false)) c]).getD k ([], false) = SL.getD k ([], false) := fun k hk => getD_app _ _ _ hk
 have g2 : (SL ++ [g.stp (SL.getD i ([], false)) c]).getD SL.length ([], false) = g.stp (SL.getD i ([], false)) c := by
  rw [List.getD_eq_getElem?_getD, List.getElem?_append_right (Nat.le_refl _), Nat.sub_self]; rfl
 have hin := h.inn _ (getD_memG ([], false) SL i hi)
 refine ⟨⟨by rw [g1 0 h.zero.2]; exact h.zero.1, by omega⟩, ?_, ?_, ?_, ?_, ?_⟩
 ·exact List.nodup_append.2 ⟨h.nodup, by simp, fun a ha b hb e => hn (by rw [← List.mem_singleton.1 hb, ← e]; exact ha)⟩
 ·intro s hs
  rcases List.mem_append.1 hs with hs | hs
  ·exact h.inn s hs
  ·rw [List.mem_singleton.1 hs]; exact g.stp_in hg _ _
 ·intro s hs
  rcases List.mem_append.1 hs with hs | hs
  ·exact h.asc s hs
  ·rw [List.mem_singleton.1 hs]; exact (norm_all _).1
 ·intro k d hk hd hx
  by_cases h1 : k < i ∨ (k = i ∧ d < c)
  ·rw [g1 k (by omega)]
   rcases h.ent k d (by omega) hd h1 with h2 | ⟨j, h2, h3, h4⟩
   ·exact .inl h2
   ·exact .inr ⟨j, by omega, h3, by rw [g1 j h2]; exact h4⟩
  ·obtain ⟨rfl, rfl⟩ : k = i ∧ d = c := by omega
   exact .inr ⟨SL.length, by omega, hT, by rw [g2, g1 k hi]⟩
 ·intro k h0 hk
  rcases Nat.lt_or_ge k SL.length with h1 | h1
  ·rw [g1 k h1]; exact h.src k h0 h1
  ·obtain rfl : k = SL.length := by omega
   exact ⟨_, c, hin, hs, g2⟩
theorem Sts.len (h : Sts g SL T i c) : SL.length ≤ 2 ^ g.tys.length := by
 classical
 -- a set of places, not empty, for each state but the first
 have key : ∀ k, k < SL.length → ∃ X : Nat → Bool, (k = 0 → ∀ j, X j = false) ∧ (0 < k → (∃ j, j < g.tys.length ∧ X j = true) ∧ SL.getD k ([], false) = (norm (g.tos (((List.range g.tys.length).filter X).map fun n : Nat => (n : Int))), g.fins (((List.range g.tys.length).filter X).map fun n : Nat => (n : Int)))) := by
  intro k hk
  rcases Nat.eq_zero_or_pos k with h0 | h0
  ·exact ⟨fun _ => false, fun _ _ => rfl, fun h => by omega⟩
  ·obtain ⟨s, d, hs, hne, he⟩ := h.src k h0 hk
   refine ⟨fun j : Nat => decide ((j : Int) ∈ g.sel s.1 d), fun h => by omega, fun _ => ⟨?_, ?_⟩⟩
   ·obtain ⟨x, hx⟩ := List.exists_mem_of_ne_nil _ hne
    obtain ⟨q, rfl, h1, h2⟩ := (g.mem_sel hs d x).1 hx
    have := hs _ h1
    exact ⟨q, by omega, decide_eq_true hx⟩
   ·rw [he, Gp.stp]
    have hm : ∀ x : Int, x ∈ (((List.range g.tys.length).filter fun j : Nat => decide ((j : Int) ∈ g.sel s.1 d)).map fun n : Nat => (n : Int)) ↔ x ∈ g.sel s.1 d := fun x => by
     simp only [List.mem_map, List.mem_filter, List.mem_range, decide_eq_true_eq]
     constructor
     ·rintro ⟨q, ⟨_, h1⟩, rfl⟩; exact h1
     ·intro hx
      obtain ⟨q, rfl, h1, h2⟩ := (g.mem_sel hs d x).1 hx
      have := hs _ h1
      exact ⟨q, ⟨by omega, hx⟩, rfl⟩
    congr 1
    ·refine norm_ext fun x => ?_
     simp only [Gp.tos, List.mem_flatMap]
     exact ⟨fun ⟨k, h1, h2⟩ => ⟨k, (hm k).2 h1, h2⟩, fun ⟨k, h1, h2⟩ => ⟨k, (hm k).1 h1, h2⟩⟩
    ·refine Bool.eq_iff_iff.2 ?_
     simp only [Gp.fins, List.any_eq_true]
     exact ⟨fun ⟨k, h1, h2⟩ => ⟨k, (hm k).2 h1, h2⟩, fun ⟨k, h1, h2⟩ => ⟨k, (hm k).1 h1, h2⟩⟩
 let X : Nat → Nat → Bool := fun k => if hk : k < SL.length then Classical.choose (key k hk) else fun _ => false
 have hX : ∀ k, k < SL.length → (k = 0 → ∀ j, X k j = false) ∧ (0 < k → (∃ j, j < g.tys.length ∧ X k j = true) ∧ SL.getD k ([], false) = (norm (g.tos (((List.range g.tys.length).filter (X k)).map fun n : Nat => (n : Int))), g.fins (((List.range g.tys.length).filter (X k)).map fun n : Nat => (n : Int)))) := fun k hk => by
  have := Classical.choose_spec (key k hk)
  simp only [X, dif_pos hk]; exact this
 have hlen : ∀ k, ((List.range g.tys.length).map (X k)).length = g.tys.length := fun k => by simp
 refine pigeon (2 ^ g.tys.length) SL.length (fun k => bval ((List.range g.tys.length).map (X k))) (fun k hk => ?_) (fun a b ha hb e => ?_)
 ·have := bval_lt ((List.range g.tys.length).map (X k))
  rwa [hlen] at this
 ·have e := bval_inj _ _ (by rw [hlen, hlen]) e
  have e2 : ∀ j, j < g.tys.length → X a j = X b j := fun j hj => by
   have := congrArg (fun l => l[j]?) e
   simpa [hj] using this
  have hne : ∀ a b, a < SL.length → b < SL.length → (∀ j, j < g.tys.length → X a j = X b j) → a = 0 → 0 < b → False := fun a b ha hb e2 h0 h1 => by
   obtain ⟨⟨j, hj, hx⟩, _⟩ := (hX b hb).2 h1
   rw [← e2 j hj, (hX a ha).1 h0 j] at hx; cases hx
  rcases Nat.eq_zero_or_pos a with h0 | h0
  ·rcases Nat.eq_zero_or_pos b with h1 | h1
   ·omega
   ·exact (hne a b ha hb e2 h0 h1).elim
  ·rcases Nat.eq_zero_or_pos b with h1 | h1
   ·exact (hne b a hb ha (fun j hj => (e2 j hj).symm) h1 h0).elim
   ·have ea := ((hX a ha).2 h0).2
    have eb := ((hX b hb).2 h1).2
    have ef : (List.range g.tys.length).filter (X a) = (List.range g.tys.length).filter (X b) := List.filter_congr fun j hj => e2 j (List.mem_range.1 hj)
    rw [ef, ← eb] at ea
    rw [List.getD_eq_getElem?_getD, List.getD_eq_getElem?_getD, List.getElem?_eq_getElem ha, List.getElem?_eq_getElem hb] at ea
    exact (List.getElem_inj h.nodup).1 ea
theorem Sts.done (hg : g.Ok) (h : Sts g SL T SL.length 0) : (Au.auOf SL.length T (SL.map (·.2))).Shape ∧ ∀ u, (Au.auOf SL.length T (SL.map (·.2))).acc 0 u ↔ (glOf 0 g.F g.fi g.la g.no).lg (tyOf g.tys) u := by
 have hto := fun k c hk hc => Au.auOf_to SL.length T (SL.map (·.2)) k c hk hc
 have hshape : (Au.auOf SL.length T (SL.map (·.2))).Shape := by
  refine ⟨by rw [Au.auOf_len]; exact h.zero.2, by rw [Au.auOf_len]; show (SL.map (·.2)).length = _; rw [List.length_map], fun k hk => Au.auOf_row _ _ _ k (by rwa [Au.auOf_len] at hk), fun k hk d hd => ?_⟩
  rw [Au.auOf_len] at hk ⊢
  have h1 := hto k d hk hd
  simp only [Au.to, Int.toNat_natCast] at h1
  rw [h1]
  rcases h.ent k d hk hd (.inl hk) with ⟨h2, _⟩ | ⟨j, h2, h3, _⟩ <;> omega
 have key : ∀ (u : List Int) (k : Nat), k < SL.length → ((Au.auOf SL.length T (SL.map (·.2))).acc (k : Int) u ↔ g.lgs (SL.getD k ([], false)) u) := by
  intro u
  induction u with
  | nil =>
   intro k hk
   rw [Au.acc_nil, Au.fin, Int.toNat_natCast, decide_eq_true (show (0 : Int) ≤ (k : Int) by omega), Bool.true_and]
   show (SL.map (·.2)).getD k false = true ↔ (SL.getD k ([], false)).2 = true
   rw [List.getD_eq_getElem?_getD, List.getElem?_map, List.getD_eq_getElem?_getD, List.getElem?_eq_getElem hk]; rfl
  | cons c u ih =>
   intro k hk
   have hin := h.inn _ (getD_memG ([], false) SL k hk)
   by_cases hc : 0 ≤ c ∧ c < 8
   ·obtain ⟨c, rfl⟩ : ∃ j : Nat, c = (j : Int) := ⟨c.toNat, by omega⟩
    rw [Au.acc_step k c (by omega), hto k c hk (by omega)]
    rcases h.ent k c hk (by omega) (.inl hk) with ⟨h1, h2⟩ | ⟨j, h1, h2, h3⟩
    ·rw [h1]
     exact ⟨fun h => absurd h (Au.acc_neg (by decide) _), fun h' => absurd h' (g.lgs_none hin c h2 u)⟩
    ·rw [h2, ih j h1, h3, g.lgs_stp hg hin c u]
   ·refine ⟨fun h' => ?_, fun h' => absurd h' (g.lgs_over hg hin hc u)⟩
    simp only [Au.acc] at h'
    exact absurd ⟨h'.2.1, h'.2.2.1⟩ hc
 refine ⟨hshape, fun u => ?_⟩
 have h1 := key u 0 h.zero.2
 rw [h.zero.1, g.lgs_start] at h1
 exact h1
end sts
theorem Sts.sle {g : Gp} {SL : List Ss} {T : Nat → Nat → Int} {i c : Nat} (h : Sts g SL T i c) {s : Ss} (hs : s ∈ SL) : s.1.length ≤ g.tys.length := by
 have h1 := h.inn s hs
 have h2 := h.asc s hs
 refine pigeon g.tys.length s.1.length (fun k => (s.1.getD k 0).toNat) (fun k hk => by have := h1 _ (getD_memG 0 s.1 k hk); show (s.1.getD k 0).toNat < _; omega) (fun a b ha hb e => ?_)
 have ea := h1 _ (getD_memG 0 s.1 a ha)
 have eb := h1 _ (getD_memG 0 s.1 b hb)
 have e : (s.1.getD a 0).toNat = (s.1.getD b 0).toNat := e
 have e' : s.1.getD a 0 = s.1.getD b 0 := by omega
 rw [List.getD_eq_getElem?_getD, List.getD_eq_getElem?_getD, List.getElem?_eq_getElem ha, List.getElem?_eq_getElem hb] at e'
 simp only [Option.getD_some] at e'
 rcases Nat.lt_trichotomy a b with h3 | h3 | h3
 ·have := List.pairwise_iff_getElem.1 h2 a b ha hb h3; omega
 ·exact h3
 ·have := List.pairwise_iff_getElem.1 h2 b a hb ha h3; omega
theorem Gp.tos_len (g : Gp) {m : Nat} (hr : ∀ p, (g.F.getD p []).length ≤ m) : ∀ P : List Int, (g.tos P).length ≤ P.length * m
 | [] => by simp [Gp.tos]
 | k :: P => by
  have h1 := Gp.tos_len g hr P
  have h2 := hr k.toNat
  show ((Gp.ints (g.F.getD k.toNat [])) ++ g.tos P).length ≤ _
  rw [List.length_append, Gp.ints, List.length_map, List.length_cons, Nat.add_mul]; omega
theorem Gp.sel_len (g : Gp) (S : List Int) (c : Nat) : (g.sel S c).length ≤ S.length := List.length_filter_le _ _
theorem Pl.gp {tys : List Int} {F : Fol} {fi la : List Nat} {no : Bool} {A : Lg} (h : Pl [] [] tys F fi la no A) (hty : Tys [] tys) : (Gp.mk tys F fi la no).Ok ∧ (glOf 0 F fi la no).lg (tyOf tys) = A ∧ ∀ p, (F.getD p []).length ≤ tys.length := by
 refine ⟨⟨h.len, fun p hp => (h.inn.F p hp).2, fun p hp => (h.inn.L p hp).2, fun p q hq => (h.inn.E p q ⟨Nat.zero_le _, hq⟩).2.2, fun c hc => (hty c hc).resolve_left (by simp)⟩, h.lang, fun p => ?_⟩
 exact nodup_len (h.nodup p (Nat.zero_le _)) fun q hq => (h.inn.E p q ⟨Nat.zero_le _, hq⟩).2.2
theorem Au.rowV_splice (T : Nat → Nat → Int) (i c : Nat) (x : Int) (hc : c < 8) : splice (Au.rowV T i c) c [.int x] = Au.rowV (Au.setI T i c x) i (c + 1) := by
 rw [← Au.rowV_step T i c x hc]
 unfold Au.rowV
 rw [row8_splice _ c hc, row8_set _ c hc]
theorem Au.rowV_splice2 (T : Nat → Nat → Int) (i c : Nat) (y x : Int) (hc : c < 8) : splice (splice (Au.rowV T i c) c [.int y]) c [.int x] = Au.rowV (Au.setI T i c x) i (c + 1) := by
 rw [← Au.rowV_splice T i c x hc]
 unfold Au.rowV
 rw [row8_splice _ c hc, row8_splice _ c hc, row8_splice _ c hc]
 exact row8_congr fun d _ => by by_cases h : d = c <;> simp [h]
theorem rows_setI (T : Nat → Nat → Int) (i c : Nat) (x : Int) : ((List.range i).map fun k => r8av (Au.setI T i c x k)) = (List.range i).map fun k => r8av (T k) :=
 rows_congr i (T := Au.setI T i c x) (T' := T) fun k hk d _ => Au.setI_ne T i c x (by omega)
def keyS (s : Ss) : List UInt8 := keyL s.1 ++ fmtB s.2
theorem keyS_inj {s t : Ss} (hs : sml s.1) (ht : sml t.1) (h : keyS s = keyS t) : s = t := by
 obtain ⟨h1, h2⟩ := keyB_inj hs ht h
 exact Prod.ext h1 h2
theorem keyS_place {s : Ss} {SL : List Ss} (hs : sml s.1) (hL : ∀ t ∈ SL, sml t.1) : place (keyS s) (SL.map keyS) = place s SL := place_map fun t ht e => keyS_inj hs (hL t ht) e
theorem Gp.In.sml {g : Gp} {s : Ss} (h : g.In s) (hn : g.tys.length ≤ 100) : sml s.1 := fun x hx => by have := h x hx; omega
end Go.Vl
end
section
namespace Go.Proofs
open Go.Shelf
def Tryz.lays156_ren : Go.Shelf.Ren := ⟨fun | 156 => 101 | 165 => 120 | 166 => 106 | 169 => 108 | 240 => 125 | 241 => 132 | 276 => 145 | 277 => 148 | n => n, fun | 31 => 26 | 9 => 9 | 3 => 3 | 4 => 4 | 0 => 0 | 20 => 20 | 72 => 177 | 76 => 180 | 70 => 174 | 37 => 175 | 75 => 179 | 127 => 198 | 164 => 217 | 5 => 5 | 80 => 183 | n => n, fun | n => n⟩
theorem Tryz.lays156 : Go.Proofs.Lays.n156 Tryz.prog Tryz.lays156_ren := {
 mixed := by kernel_rfl
 f156 := Tryz.func101.trans (congrArg some (by kernel_rfl))
 f165 := Tryz.func120.trans (congrArg some (by kernel_rfl))
 f166 := Tryz.func106.trans (congrArg some (by kernel_rfl))
 f169 := Tryz.func108.trans (congrArg some (by kernel_rfl))
 f240 := Tryz.func125.trans (congrArg some (by kernel_rfl))
 f241 := Tryz.func132.trans (congrArg some (by kernel_rfl))
 f276 := Tryz.func145.trans (congrArg some (by kernel_rfl))
 f277 := Tryz.func148.trans (congrArg some (by kernel_rfl))
 t0 := Tryz.underlying0
 a0 := Tryz.isAgg0
 z0 := Tryz.sizeOf0
 v0 := Tryz.zeroValue0
 t3 := Tryz.underlying3
 a3 := Tryz.isAgg3
 z3 := Tryz.sizeOf3
 v3 := Tryz.zeroValue3
 t4 := Tryz.underlying4
 a4 := Tryz.isAgg4
 z4 := Tryz.sizeOf4
 v4 := Tryz.zeroValue4
 t9 := Tryz.underlying9
 a9 := Tryz.isAgg9
 z9 := Tryz.sizeOf9
 v9 := Tryz.zeroValue9
 t20 := Tryz.underlying20
 a20 := Tryz.isAgg20
 z20 := Tryz.sizeOf20
 v20 := Tryz.zeroValue20
 t31 := Tryz.underlying26
 a31 := Tryz.isAgg26
 z31 := Tryz.sizeOf26
 v31 := Tryz.zeroValue26
 t37 := Tryz.underlying175
 a37 := Tryz.isAgg175
 z37 := Tryz.sizeOf175
 v37 := Tryz.zeroValue175
 t70 := Tryz.underlying174
 a70 := Tryz.isAgg174
 z70 := Tryz.sizeOf174
 v70 := Tryz.zeroValue174
 t72 := Tryz.underlying177
 a72 := Tryz.isAgg177
 z72 := Tryz.sizeOf177
 v72 := Tryz.zeroValue177
 t75 := Tryz.underlying179
 a75 := Tryz.isAgg179
 z75 := Tryz.sizeOf179
 v75 := Tryz.zeroValue179
 t76 := Tryz.underlying180
 a76 := Tryz.isAgg180
 z76 := Tryz.sizeOf180
 v76 := Tryz.zeroValue180
 t127 := Tryz.underlying198
 a127 := Tryz.isAgg198
 z127 := Tryz.sizeOf198
 v127 := Tryz.zeroValue198
 t164 := Tryz.underlying217
 a164 := Tryz.isAgg217
 z164 := Tryz.sizeOf217
 v164 := Tryz.zeroValue217 }
theorem Tryz.Builder_Extra_156 : Builder.Extra Tryz.prog Tryz.lays156_ren := {
 sizeBuilder := by kernel_rfl
 liesBuilder := by kernel_rfl
 t5 := Tryz.underlying5
 a5 := Tryz.isAgg5
 z5 := Tryz.sizeOf5
 v5 := Tryz.zeroValue5
 infoByte := by kernel_rfl
 cellsByte := by kernel_rfl
 sizeByte := by kernel_rfl
 neB5 := by decide }
open Go.RowKit in
theorem Tryz.strings_Join_none (a : Option Addr) (c : Nat) (sep : ByteArray) (w : World) :
 Calls Tryz.prog 101 #[.slice a 0 c, .string sep] w fun e w' => e = .returned (.string ⟨#[]⟩) ∧ w' = w := Any.strings_Join_none Tryz.lays156 Tryz.Builder_Extra_156 a c sep w
open Go.RowKit in
theorem Tryz.strings_Join (bk o c : Nat) (xs : List ByteArray) (sep : ByteArray) (w : World) (hcells : ∀ (j : Nat) x, xs[j]? = some x → w.cell? ⟨bk, o + j, none⟩ = some (.string x)) (hbk : bk < w.heap.size) (hN : xs.length ≤ 140737488355328) (hcap : xs.length ≤ c) (hlen : (Lib.join (xs.map (·.data.toList)) sep.data.toList).length ≤ 140737488355328) :
 Calls Tryz.prog 101 #[.slice (some ⟨bk, o, none⟩) xs.length c, .string sep] w fun e w' => e = .returned (.string ⟨(Lib.join (xs.map (·.data.toList)) sep.data.toList).toArray⟩) ∧ Below w.heap.size w w' := Any.strings_Join Tryz.lays156 Tryz.Builder_Extra_156 bk o c xs sep w hcells hbk hN hcap hlen
def Tryz.laysM171_ren : Go.Shelf.Ren := ⟨fun | 171 => 107 | 243 => 126 | 246 => 146 | 283 => 155 | 284 => 156 | 285 => 157 | 286 => 158 | 129 => 144 | 317 => 160 | 318 => 161 | 319 => 162 | 320 => 163 | 337 => 164 | 338 => 165 | n => n, fun | 3 => 3 | 9 => 9 | 2 => 2 | 4 => 4 | 171 => 227 | 0 => 0 | 53 => 203 | 37 => 175 | 5 => 5 | 173 => 229 | 212 => 234 | 51 => 200 | 20 => 20 | 213 => 235 | 46 => 185 | 232 => 236 | 233 => 237 | n => n, fun | 17 => 1 | 18 => 2 | 19 => 3 | n => n⟩
theorem Tryz.laysM171 : Go.Proofs.LaysM.n171 Tryz.prog Tryz.laysM171_ren := {
 mixed := by kernel_rfl
 f129 := Tryz.func144.trans (congrArg some (by kernel_rfl))
 f171 := Tryz.func107.trans (congrArg some (by kernel_rfl))
 f243 := Tryz.func126.trans (congrArg some (by kernel_rfl))
 f246 := Tryz.func146.trans (congrArg some (by kernel_rfl))
 f283 := Tryz.func155.trans (congrArg some (by kernel_rfl))
 f284 := Tryz.func156.trans (congrArg some (by kernel_rfl))
 f285 := Tryz.func157.trans (congrArg some (by kernel_rfl))
 f286 := Tryz.func158.trans (congrArg some (by kernel_rfl))
 f317 := Tryz.func160.trans (congrArg some (by kernel_rfl))
 f318 := Tryz.func161.trans (congrArg some (by kernel_rfl))
 f319 := Tryz.func162.trans (congrArg some (by kernel_rfl))
 f320 := Tryz.func163.trans (congrArg some (by kernel_rfl))
 f337 := Tryz.func164.trans (congrArg some (by kernel_rfl))
 f338 := Tryz.func165.trans (congrArg some (by kernel_rfl))
 t0 := Tryz.underlying0
 a0 := Tryz.isAgg0
 z0 := Tryz.sizeOf0
 v0 := Tryz.zeroValue0
 t2 := Tryz.underlying2
 a2 := Tryz.isAgg2
 z2 := Tryz.sizeOf2
 v2 := Tryz.zeroValue2
 t3 := Tryz.underlying3
 a3 := Tryz.isAgg3
 z3 := Tryz.sizeOf3
 v3 := Tryz.zeroValue3
 t4 := Tryz.underlying4
 a4 := Tryz.isAgg4
 z4 := Tryz.sizeOf4
 v4 := Tryz.zeroValue4
 t5 := Tryz.underlying5
 a5 := Tryz.isAgg5
 z5 := Tryz.sizeOf5
 v5 := Tryz.zeroValue5
 t9 := Tryz.underlying9
 a9 := Tryz.isAgg9
 z9 := Tryz.sizeOf9
 v9 := Tryz.zeroValue9
 t20 := Tryz.underlying20
 a20 := Tryz.isAgg20
 z20 := Tryz.sizeOf20
 v20 := Tryz.zeroValue20
 t37 := Tryz.underlying175
 a37 := Tryz.isAgg175
 z37 := Tryz.sizeOf175
 v37 := Tryz.zeroValue175
 t46 := Tryz.underlying185
 a46 := Tryz.isAgg185
 z46 := Tryz.sizeOf185
 v46 := Tryz.zeroValue185
 t51 := Tryz.underlying200
 a51 := Tryz.isAgg200
 z51 := Tryz.sizeOf200
 v51 := Tryz.zeroValue200
 t53 := Tryz.underlying203
 a53 := Tryz.isAgg203
 z53 := Tryz.sizeOf203
 v53 := Tryz.zeroValue203
 t171 := Tryz.underlying227
 a171 := Tryz.isAgg227
 z171 := Tryz.sizeOf227
 v171 := Tryz.zeroValue227
 t173 := Tryz.underlying229
 a173 := Tryz.isAgg229
 z173 := Tryz.sizeOf229
 v173 := Tryz.zeroValue229
 t212 := Tryz.underlying234
 a212 := Tryz.isAgg234
 z212 := Tryz.sizeOf234
 v212 := Tryz.zeroValue234
 t213 := Tryz.underlying235
 a213 := Tryz.isAgg235
 z213 := Tryz.sizeOf235
 t232 := Tryz.underlying236
 a232 := Tryz.isAgg236
 z232 := Tryz.sizeOf236
 v232 := Tryz.zeroValue236
 t233 := Tryz.underlying237
 a233 := Tryz.isAgg237
 z233 := Tryz.sizeOf237
 v233 := Tryz.zeroValue237
 g17 := by kernel_rfl
 g18 := by kernel_rfl
 g19 := by kernel_rfl
 i0 := by kernel_rfl
 i2 := by kernel_rfl
 i3 := by kernel_rfl
 i4 := by kernel_rfl
 i5 := by kernel_rfl
 i9 := by kernel_rfl
 i20 := by kernel_rfl
 i37 := by kernel_rfl
 i46 := by kernel_rfl
 i51 := by kernel_rfl
 i53 := by kernel_rfl
 i171 := by kernel_rfl
 i173 := by kernel_rfl
 i212 := by kernel_rfl
 i232 := by kernel_rfl
 i233 := by kernel_rfl
 m17 := by kernel_rfl
 m18 := by kernel_rfl
 m19 := by kernel_rfl }
open Go.RowKit Go.Sort Go.Lib in
theorem Tryz.strconv_Itoa (n : Int) (h0 : -9223372036854775808 ≤ n) (h1 : n ≤ 9223372036854775807) (w : World) (htab : Lib.TabIs Tryz.prog w "internal/strconv.uint64pow10" .u64 Lib.pow10Tab) :
 Calls Tryz.prog 107 #[.int .i64 n] w fun e w' => e = .returned (.string ⟨(Lib.itoa n).toArray⟩) ∧ ∃ k os, w' = grow (w.drewN k) os := Any.strconv_Itoa Tryz.laysM171 n h0 h1 w htab
def Tryz.lays171_ren : Go.Shelf.Ren := ⟨fun | 171 => 107 | 243 => 126 | 246 => 146 | 283 => 155 | 284 => 156 | 285 => 157 | 286 => 158 | 129 => 144 | 317 => 160 | 318 => 161 | 319 => 162 | 320 => 163 | 337 => 164 | 338 => 165 | n => n, fun | 3 => 3 | 9 => 9 | 2 => 2 | 4 => 4 | 171 => 227 | 0 => 0 | 53 => 203 | 37 => 175 | 5 => 5 | 173 => 229 | 212 => 234 | 51 => 200 | 20 => 20 | 213 => 235 | 46 => 185 | 232 => 236 | 233 => 237 | n => n, fun | 17 => 1 | 18 => 2 | 19 => 3 | n => n⟩
theorem Tryz.lays171 : Go.Proofs.Lays.n171 Tryz.prog Tryz.lays171_ren := {
 mixed := by kernel_rfl
 f129 := Tryz.func144.trans (congrArg some (by kernel_rfl))
 f171 := Tryz.func107.trans (congrArg some (by kernel_rfl))
 f243 := Tryz.func126.trans (congrArg some (by kernel_rfl))
 f246 := Tryz.func146.trans (congrArg some (by kernel_rfl))
 f283 := Tryz.func155.trans (congrArg some (by kernel_rfl))
 f284 := Tryz.func156.trans (congrArg some (by kernel_rfl))
 f285 := Tryz.func157.trans (congrArg some (by kernel_rfl))
 f286 := Tryz.func158.trans (congrArg some (by kernel_rfl))
 f317 := Tryz.func160.trans (congrArg some (by kernel_rfl))
 f318 := Tryz.func161.trans (congrArg some (by kernel_rfl))
 f319 := Tryz.func162.trans (congrArg some (by kernel_rfl))
 f320 := Tryz.func163.trans (congrArg some (by kernel_rfl))
 f337 := Tryz.func164.trans (congrArg some (by kernel_rfl))
 f338 := Tryz.func165.trans (congrArg some (by kernel_rfl))
 t0 := Tryz.underlying0
 a0 := Tryz.isAgg0
 z0 := Tryz.sizeOf0
 v0 := Tryz.zeroValue0
 t2 := Tryz.underlying2
 a2 := Tryz.isAgg2
 z2 := Tryz.sizeOf2
 v2 := Tryz.zeroValue2
 t3 := Tryz.underlying3
 a3 := Tryz.isAgg3
 z3 := Tryz.sizeOf3
 v3 := Tryz.zeroValue3
 t4 := Tryz.underlying4
 a4 := Tryz.isAgg4
 z4 := Tryz.sizeOf4
 v4 := Tryz.zeroValue4
 t5 := Tryz.underlying5
 a5 := Tryz.isAgg5
 z5 := Tryz.sizeOf5
 v5 := Tryz.zeroValue5
 t9 := Tryz.underlying9
 a9 := Tryz.isAgg9
 z9 := Tryz.sizeOf9
 v9 := Tryz.zeroValue9
 t20 := Tryz.underlying20
 a20 := Tryz.isAgg20
 z20 := Tryz.sizeOf20
 v20 := Tryz.zeroValue20
 t37 := Tryz.underlying175
 a37 := Tryz.isAgg175
 z37 := Tryz.sizeOf175
 v37 := Tryz.zeroValue175
 t46 := Tryz.underlying185
 a46 := Tryz.isAgg185
 z46 := Tryz.sizeOf185
 v46 := Tryz.zeroValue185
 t51 := Tryz.underlying200
 a51 := Tryz.isAgg200
 z51 := Tryz.sizeOf200
 v51 := Tryz.zeroValue200
 t53 := Tryz.underlying203
 a53 := Tryz.isAgg203
 z53 := Tryz.sizeOf203
 v53 := Tryz.zeroValue203
 t171 := Tryz.underlying227
 a171 := Tryz.isAgg227
 z171 := Tryz.sizeOf227
 v171 := Tryz.zeroValue227
 t173 := Tryz.underlying229
 a173 := Tryz.isAgg229
 z173 := Tryz.sizeOf229
 v173 := Tryz.zeroValue229
 t212 := Tryz.underlying234
 a212 := Tryz.isAgg234
 z212 := Tryz.sizeOf234
 v212 := Tryz.zeroValue234
 t213 := Tryz.underlying235
 a213 := Tryz.isAgg235
 z213 := Tryz.sizeOf235
 t232 := Tryz.underlying236
 a232 := Tryz.isAgg236
 z232 := Tryz.sizeOf236
 v232 := Tryz.zeroValue236
 t233 := Tryz.underlying237
 a233 := Tryz.isAgg237
 z233 := Tryz.sizeOf237
 v233 := Tryz.zeroValue237
 g17 := by kernel_rfl
 g18 := by kernel_rfl
 g19 := by kernel_rfl }
open Go.RowKit Go.Sort Go.Lib in
theorem Tryz.strconv_Itoa_small (i : Nat) (hi : i < 100) (w : World) :
 Calls Tryz.prog 107 #[.int .i64 i] w fun e w' => e = .returned (.string ⟨(Lib.decDigits i).toArray⟩) ∧ w' = w := Any.strconv_Itoa_small Tryz.lays171 i hi w
def Tryz.lays189_ren : Go.Shelf.Ren := ⟨fun | 189 => 104 | 125 => 124 | 257 => 123 | 128 => 143 | 129 => 144 | 294 => 134 | 295 => 135 | 296 => 136 | 297 => 137 | 298 => 138 | 299 => 139 | 216 => 140 | 300 => 141 | 301 => 142 | 328 => 149 | 329 => 150 | 330 => 151 | 331 => 152 | 332 => 153 | 215 => 154 | 343 => 159 | n => n, fun | 28 => 22 | 3 => 3 | 46 => 185 | 0 => 0 | 51 => 200 | 53 => 203 | 4 => 4 | 183 => 210 | 182 => 209 | 131 => 145 | 5 => 5 | 9 => 9 | 218 => 221 | 222 => 225 | 228 => 231 | 229 => 49 | n => n, fun | n => n⟩
theorem Tryz.lays189 : Go.Proofs.Lays.n189 Tryz.prog Tryz.lays189_ren := {
 mixed := by kernel_rfl
 f125 := Tryz.func124.trans (congrArg some (by kernel_rfl))
 f128 := Tryz.func143.trans (congrArg some (by kernel_rfl))
 f129 := Tryz.func144.trans (congrArg some (by kernel_rfl))
 f189 := Tryz.func104.trans (congrArg some (by kernel_rfl))
 f215 := Tryz.func154.trans (congrArg some (by kernel_rfl))
 f216 := Tryz.func140.trans (congrArg some (by kernel_rfl))
 f257 := Tryz.func123.trans (congrArg some (by kernel_rfl))
 f294 := Tryz.func134.trans (congrArg some (by kernel_rfl))
 f295 := Tryz.func135.trans (congrArg some (by kernel_rfl))
 f296 := Tryz.func136.trans (congrArg some (by kernel_rfl))
 f297 := Tryz.func137.trans (congrArg some (by kernel_rfl))
 f298 := Tryz.func138.trans (congrArg some (by kernel_rfl))
 f299 := Tryz.func139.trans (congrArg some (by kernel_rfl))
 f300 := Tryz.func141.trans (congrArg some (by kernel_rfl))
 f301 := Tryz.func142.trans (congrArg some (by kernel_rfl))
 f328 := Tryz.func149.trans (congrArg some (by kernel_rfl))
 f329 := Tryz.func150.trans (congrArg some (by kernel_rfl))
 f330 := Tryz.func151.trans (congrArg some (by kernel_rfl))
 f331 := Tryz.func152.trans (congrArg some (by kernel_rfl))
 f332 := Tryz.func153.trans (congrArg some (by kernel_rfl))
 f343 := Tryz.func159.trans (congrArg some (by kernel_rfl))
 t0 := Tryz.underlying0
 a0 := Tryz.isAgg0
 z0 := Tryz.sizeOf0
 v0 := Tryz.zeroValue0
 t3 := Tryz.underlying3
 a3 := Tryz.isAgg3
 z3 := Tryz.sizeOf3
 v3 := Tryz.zeroValue3
 t4 := Tryz.underlying4
 a4 := Tryz.isAgg4
 z4 := Tryz.sizeOf4
 v4 := Tryz.zeroValue4
 t5 := Tryz.underlying5
 a5 := Tryz.isAgg5
 z5 := Tryz.sizeOf5
 v5 := Tryz.zeroValue5
 t9 := Tryz.underlying9
 a9 := Tryz.isAgg9
 z9 := Tryz.sizeOf9
 v9 := Tryz.zeroValue9
 t28 := Tryz.underlying22
 a28 := Tryz.isAgg22
 z28 := Tryz.sizeOf22
 v28 := Tryz.zeroValue22
 t46 := Tryz.underlying185
 a46 := Tryz.isAgg185
 z46 := Tryz.sizeOf185
 v46 := Tryz.zeroValue185
 t51 := Tryz.underlying200
 a51 := Tryz.isAgg200
 z51 := Tryz.sizeOf200
 v51 := Tryz.zeroValue200
 t53 := Tryz.underlying203
 a53 := Tryz.isAgg203
 z53 := Tryz.sizeOf203
 v53 := Tryz.zeroValue203
 t131 := Tryz.underlying145
 a131 := Tryz.isAgg145
 z131 := Tryz.sizeOf145
 v131 := Tryz.zeroValue145
 t182 := Tryz.underlying209
 a182 := Tryz.isAgg209
 z182 := Tryz.sizeOf209
 v182 := Tryz.zeroValue209
 t183 := Tryz.underlying210
 a183 := Tryz.isAgg210
 z183 := Tryz.sizeOf210
 v183 := Tryz.zeroValue210
 t218 := Tryz.underlying221
 a218 := Tryz.isAgg221
 z218 := Tryz.sizeOf221
 v218 := Tryz.zeroValue221
 t222 := Tryz.underlying225
 a222 := Tryz.isAgg225
 z222 := Tryz.sizeOf225
 v222 := Tryz.zeroValue225
 t228 := Tryz.underlying231
 a228 := Tryz.isAgg231
 z228 := Tryz.sizeOf231
 v228 := Tryz.zeroValue231
 t229 := Tryz.underlying49
 a229 := Tryz.isAgg49
 z229 := Tryz.sizeOf49
 v229 := Tryz.zeroValue49 }
open Go.Sort Go.RowKit in
theorem Tryz.slices_Sort_int (blk off cap : Nat) (zs : List Int) (w : World) (hH : Holds (Value.int .i64) w blk off zs.toArray) (hblk : blk < w.heap.size) (hsz : zs.length < 4611686018427387904) :
 Calls Tryz.prog 104 #[.slice (some ⟨blk, off, none⟩) zs.length cap] w fun e w' =>
  e = .returned (.tuple #[]) ∧ ∃ n os, w' = grow (putRow (Value.int .i64) (Sort.ahead w n) blk off (zs.mergeSort fun x y => decide (x ≤ y)).toArray) os := Any.slices_Sort_int Tryz.lays189 blk off cap zs w hH hblk hsz
def Tryz.lays212_ren : Go.Shelf.Ren := ⟨fun | 212 => 111 | 263 => 128 | 264 => 129 | n => n, fun | 46 => 185 | 51 => 200 | 146 => 201 | 53 => 203 | 148 => 204 | n => n, fun | n => n⟩
theorem Tryz.lays212 : Go.Proofs.Lays.n212 Tryz.prog Tryz.lays212_ren := {
 mixed := by kernel_rfl
 f212 := Tryz.func111.trans (congrArg some (by kernel_rfl))
 f263 := Tryz.func128.trans (congrArg some (by kernel_rfl))
 f264 := Tryz.func129.trans (congrArg some (by kernel_rfl))
 t46 := Tryz.underlying185
 a46 := Tryz.isAgg185
 z46 := Tryz.sizeOf185
 v46 := Tryz.zeroValue185
 t51 := Tryz.underlying200
 a51 := Tryz.isAgg200
 z51 := Tryz.sizeOf200
 v51 := Tryz.zeroValue200
 t53 := Tryz.underlying203
 a53 := Tryz.isAgg203
 z53 := Tryz.sizeOf203
 v53 := Tryz.zeroValue203
 t146 := Tryz.underlying201
 a146 := Tryz.isAgg201
 z146 := Tryz.sizeOf201
 v146 := Tryz.zeroValue201
 t148 := Tryz.underlying204
 a148 := Tryz.isAgg204
 z148 := Tryz.sizeOf204
 v148 := Tryz.zeroValue204 }
open Go.RowKit Go.Lib in
theorem Tryz.bits_Mul (x y : Nat) (hx : x < 18446744073709551616) (hy : y < 18446744073709551616) (w : World) :
 Calls Tryz.prog 111 #[.int .u64 x, .int .u64 y] w fun e w' => e = .returned (.tuple #[.int .u64 ((x * y / 18446744073709551616 : Nat) : Int), .int .u64 ((x * y % 18446744073709551616 : Nat) : Int)]) ∧ w' = w := Any.bits_Mul Tryz.lays212 x y hx hy w
def Tryz.laysNm220_ren : Go.Shelf.Ren := ⟨fun | 20 => 71 | n => n, fun | 22 => 22 | 3 => 3 | 4 => 4 | 0 => 0 | n => n, fun | n => n⟩
theorem Tryz.laysNm220 : Go.Proofs.Lays2.n20 Tryz.prog Tryz.laysNm220_ren := {
 mixed := by kernel_rfl
 f20 := Tryz.func71.trans (congrArg some (by kernel_rfl))
 t0 := Tryz.underlying0
 a0 := Tryz.isAgg0
 z0 := Tryz.sizeOf0
 v0 := Tryz.zeroValue0
 t3 := Tryz.underlying3
 a3 := Tryz.isAgg3
 z3 := Tryz.sizeOf3
 v3 := Tryz.zeroValue3
 t4 := Tryz.underlying4
 a4 := Tryz.isAgg4
 z4 := Tryz.sizeOf4
 v4 := Tryz.zeroValue4
 t22 := Tryz.underlying22
 a22 := Tryz.isAgg22
 z22 := Tryz.sizeOf22
 v22 := Tryz.zeroValue22
 i3 := by kernel_rfl }
open Go.RowKit Go.Lib Go.Sort in
theorem Tryz.slices_Compact_int (blk off cap : Nat) (zs : List Int) (w : World) (hH : Holds (Value.int .i64) w blk off zs.toArray) (hsz : zs.length ≤ 9223372036854775807) (hcap : zs.length ≤ cap) :
 Calls Tryz.prog 71 #[.slice (some ⟨blk, off, none⟩) zs.length cap] w fun e w' => e = .returned (.slice (some ⟨blk, off, none⟩) (Lib.compact zs).length cap) ∧ ∃ q, w' = putRow (Value.int .i64) (Sort.ahead w q) blk off (Lib.compact zs ++ List.replicate (zs.length - (Lib.compact zs).length) 0).toArray := Any.slices_Compact_int Tryz.laysNm220 blk off cap zs w hH hsz hcap
open Go.RowKit Go.Lib Go.Sort in
theorem Tryz.slices_Compact_int_empty (a : Option Addr) (cap : Nat) (w : World) :
 Calls Tryz.prog 71 #[.slice a 0 cap] w fun e w' => e = .returned (.slice a 0 cap) ∧ w' = w := Any.slices_Compact_int_empty Tryz.laysNm220 a cap w
open Go.RowKit Go.Sort in
theorem Tryz.slices_Sort_int_none (p : Option Addr) (cap : Nat) (w : World) :
 Calls Tryz.prog 104 #[.slice p 0 cap] w fun e w' => e = .returned (.tuple #[]) ∧ w' = w := Any.slices_Sort_int_none Tryz.lays189 p cap w
end Go.Proofs
end
section
namespace Go.Proofs.YtphlkdbglpcikaaGreatDoor.WSeq
open Go.RowKit Go.Shelf Go.Sort
attribute [local go_sem] Oper.semAt_some
def upto {α : Type} (f : Nat → α) (k : Nat) : List α := (List.range k).map f
theorem upto_succ {α : Type} (f : Nat → α) (k : Nat) : upto f (k + 1) = upto f k ++ [f k] := by simp [upto, List.range_succ]
theorem upto_length {α : Type} (f : Nat → α) (k : Nat) : (upto f k).length = k := by simp [upto]
theorem upto_all (zs : List Int) : upto (fun j => zs[j]?.getD 0) zs.length = zs := by
 apply List.ext_getElem
 ·simp [upto]
 ·intro i h1 h2
  simp [upto, h2]
theorem upto_take (zs : List Int) {k : Nat} (hk : k ≤ zs.length) : upto (fun j => zs[j]?.getD 0) k = zs.take k := by
 apply List.ext_getElem
 ·simp [upto, hk]
 ·intro i h1 h2
  have : i < zs.length := by simp [upto] at h1; omega
  simp [upto, this]
set_option maxRecDepth 100000 in
set_option maxHeartbeats 2000000 in
theorem values1_in (F : Fence) (n : Nat) (h7 : F.fn 105) (hro : F.round = none) (hn : 1 ≤ n) (l Bs n₀ b off len cap : Nat) (zs : List Int) (hreach : len * 8 ≤ 140737488351232) (hb : b < n₀) (J Jx : List Int → World → Prop)
 (hY : ∀ pre x W, J pre W → pre.length < len → YieldAt F (n - 1) Tryz.prog l #[.int .i64 x] W fun e W' =>
  (e = .returned (.bool true) ∧ J (pre ++ [x]) W' ∧ Below n₀ W W') ∨ (e = .returned (.bool false) ∧ Jx (pre ++ [x]) W'))
 (W : World) (hBs : W.cell? ⟨Bs, 0, none⟩ = some (.slice (some ⟨b, off, none⟩) len cap)) (hc : ∀ j, j < len → W.cell? ⟨b, off + j, none⟩ = some (.int .i64 (zs[j]?.getD 0))) (h0 : J [] W) :
 CallsIn F n Tryz.prog 105 #[.func (.yield l) #[] #[], .pointer (some ⟨Bs, 0, none⟩)] W fun e W' => (∃ v, e = .returned v) ∧
  ((∃ ys, ys = upto (fun j => zs[j]?.getD 0) len ∧ J ys W') ∨ (∃ pre, (∃ k, k ≤ len ∧ pre = upto (fun j => zs[j]?.getD 0) k) ∧ Jx pre W')) := by
 refine callsIn_of_wp Tryz.func105 rfl h7 ?_ hro
 simp only [Tryz.ntmps105, List.size_toArray, List.length_cons, List.length_nil, Nat.reduceAdd, Nat.reduceSub, Array.replicate_succ, Array.replicate_zero, List.push_toArray, List.append_toArray, List.nil_append, List.cons_append]
 gi_wp2
 gi_loopw [7] (fun i wr => ∃ k : Nat, k ≤ len ∧ i = .int .i64 k ∧ J (upto (fun j => zs[j]?.getD 0) k) wr ∧ Below n₀ W wr)
  (fun i _ => len - (intOf i).toNat)
 case atStart => exact ⟨0, Nat.zero_le _, rfl, h0, Below.refl _ _⟩
 case round =>
  obtain ⟨k, hk, rfl, hJs, hnx⟩ := hrel
  have hcx : k < len → wr.cell? ⟨b, off + k, none⟩ = some (.int .i64 (zs[k]?.getD 0)) := fun h => (hnx.cell (p := ⟨b, off + k, none⟩) hb).trans (hc k h)
  by_cases hlt : k < len
  ·obtain ⟨fn, tmps, assign, body, hy, hR⟩ := hY _ (zs[k]?.getD 0) wr hJs (by rw [upto_length]; exact hlt)
   have hcx' := hcx hlt
   gi_wp2
   refine hR.mono ?_
   rintro e W3 (⟨rfl, hJ3, hk3⟩ | ⟨rfl, hJx3⟩)
   ·gi_wp2
    go_roundw
    case rel => exact ⟨k + 1, by omega, by simp, by rw [upto_succ]; exact hJ3, hnx.trans hk3⟩
    case measure => simp [intOf]; omega
   ·gi_wp2
    refine bodyPost_ret (results_none rfl _ _ _) rfl ?_
    exact ⟨⟨_, rfl⟩, .inr ⟨_, ⟨k + 1, by omega, (upto_succ _ _).symm⟩, hJx3⟩⟩
  ·obtain rfl : k = len := by omega
   gi_wp2
   go_end0
   exact ⟨⟨_, rfl⟩, .inl ⟨_, rfl, hJs⟩⟩
def Ints (n₀ : Nat) (W : World) (sv : Value) (zs : List Int) : Prop :=
 (∃ a cap, sv = .slice a 0 cap ∧ zs = []) ∨ ∃ b off cap, sv = .slice (some ⟨b, off, none⟩) zs.length cap ∧ b < n₀ ∧ ∀ j, j < zs.length → W.cell? ⟨b, off + j, none⟩ = some (.int .i64 (zs[j]?.getD 0))
theorem Ints.below {n₀ : Nat} {A B : World} (h : Below n₀ A B) {sv : Value} {zs : List Int} : Ints n₀ A sv zs → Ints n₀ B sv zs
 | .inl e => .inl e
 | .inr ⟨b, off, cap, e, hb, hc⟩ => .inr ⟨b, off, cap, e, hb, fun j hj => (h.cell (p := ⟨b, off + j, none⟩) hb).trans (hc j hj)⟩
set_option maxRecDepth 100000 in
set_option maxHeartbeats 1000000 in
theorem values1_nil_in (F : Fence) (n : Nat) (h7 : F.fn 105) (hro : F.round = none) (l Bs : Nat) (a : Option Addr) (cap : Nat) (J : List Int → World → Prop) (W : World) (hBs : W.cell? ⟨Bs, 0, none⟩ = some (.slice a 0 cap)) (h0 : J [] W) :
 CallsIn F n Tryz.prog 105 #[.func (.yield l) #[] #[], .pointer (some ⟨Bs, 0, none⟩)] W fun e W' => (∃ v, e = .returned v) ∧ J [] W' := by
 refine callsIn_of_wp Tryz.func105 rfl h7 ?_ hro
 simp only [Tryz.ntmps105, List.size_toArray, List.length_cons, List.length_nil, Nat.reduceAdd, Nat.reduceSub, Array.replicate_succ, Array.replicate_zero, List.push_toArray, List.append_toArray, List.nil_append, List.cons_append]
 gi_wp2
 gi_loopw [7] (fun i wr => i = .int .i64 0 ∧ J [] wr) (fun _ _ => 0)
 case atStart => exact ⟨rfl, h0⟩
 case round =>
  obtain ⟨rfl, hJs⟩ := hrel
  gi_wp2
  go_end0
  exact ⟨⟨_, rfl⟩, hJs⟩
theorem values_stops (F : Fence) (n : Nat) (h7 : F.fn 105) (hro : F.round = none) (hn : 1 ≤ n) (Bs n₀ : Nat) (sv : Value) (zs : List Int) (hreach : zs.length * 8 ≤ 140737488351232) (w : World) (hBs : Bs < w.heap.size) (hn₀ : n₀ ≤ w.heap.size)
 (hc : w.cell? ⟨Bs, 0, none⟩ = some sv) (hI : Ints n₀ w sv zs) :
 SeqStopsK F n Tryz.prog 105 #[.pointer (some ⟨Bs, 0, none⟩)] (fun x : Int => #[Value.int .i64 x]) (Below n₀) (fun ys => ys = zs) (fun pre => pre <+: zs) zs.length w := fun l J Jx W hW _ _ hY h0 => by
 have hc' := (hW.cell (p := ⟨Bs, 0, none⟩) hBs).trans hc
 rcases hI.below (hW.mono hn₀) with ⟨a, cap, rfl, rfl⟩ | ⟨b, off, cap, rfl, hb, hcs⟩
 ·exact (values1_nil_in F n h7 hro l Bs a cap J W hc' h0).mono fun e W' ⟨he, hj⟩ => ⟨he, .inl ⟨_, rfl, hj⟩⟩
 ·refine (values1_in F n h7 hro hn l Bs n₀ b off zs.length cap zs hreach hb J Jx hY W hc' hcs h0).mono ?_
  rintro e W' ⟨he, ⟨ys, rfl, hj⟩ | ⟨pre, ⟨k, hk, rfl⟩, hj⟩⟩
  ·exact ⟨he, .inl ⟨_, upto_all zs, hj⟩⟩
  ·exact ⟨he, .inr ⟨_, by rw [upto_take zs hk]; exact List.take_prefix _ _, hj⟩⟩
theorem infoI : (Tryz.prog.info? 3).map (fun i => (i.zero, i.size, i.bytes)) = some (some (.int .i64 0), 1, 8) := by kernel_rfl
set_option maxRecDepth 100000 in
set_option maxHeartbeats 2000000 in
theorem appendSeq_in (F : Fence) (n : Nat) (h3 : F.fn 122) (h5 : F.fn 105) (hro : F.round = none) (hn : 3 ≤ n) (Bc : Nat) (sv : Value) (zs : List Int) (hlen : zs.length ≤ maxLen) (hbytes : zs.length * 8 ≤ 140737488351232) (w : World) (hBc : w.cell? ⟨Bc, 0, none⟩ = some sv) (hBl : Bc < w.heap.size) (hI : Ints w.heap.size w sv zs) :
 CallsIn F n Tryz.prog 122 #[.slice none 0 0, .func (.func 105) #[] #[.pointer (some ⟨Bc, 0, none⟩)]] w fun e W' => ∃ v, e = .returned v ∧ W'.ownsRow w.heap.size 3 1 v zs.length (zs.map (Value.int .i64)) ∧ (v = .slice none 0 0 ↔ zs = []) ∧ Below w.heap.size w W' := by
 have h1 : 1 ≤ n := by omega
 obtain ⟨i0, hi, hz0, hz1, hz2⟩ := info_parts infoI
 refine callsIn_of_wp_marks Tryz.func122 rfl h3 ?_ hro
 simp only [Tryz.ntmps122, List.size_toArray, List.length_cons, List.length_nil, Nat.reduceAdd, Nat.reduceSub, Array.replicate_succ, Array.replicate_zero, List.push_toArray, List.append_toArray, List.nil_append, List.cons_append]
 gi_wp2
 have bO := Boxed.new w 22 (.slice none 0 0)
 have hB0 : Below w.heap.size w (w.alloc (.cells #[.slice none 0 0] 22)) := (Below.refl _ w).alloc (Nat.le_refl _) _
 refine wpIn_rangeFunc_ownG hro h1 (gf := 105) (lb := #[.pointer (some ⟨Bc, 0, none⟩)]) rfl h5 (enters_of Tryz.func105 (by kernel_rfl) rfl)
  (values_stops F (n - 1) h5 hro (by omega) Bc w.heap.size sv zs (by omega) _ (by simp; omega) (by simp) ((hB0.cell (p := ⟨Bc, 0, none⟩) hBl).trans hBc) (hI.below hB0)) belowK_t (belowK_b (by simp)) (Below.refl _ _) (fun _ => rfl)
  (fun pre W => (∃ v, Boxed W w.heap.size 22 v ∧ W.ownsRow w.heap.size 3 1 v pre.length (pre.map (Value.int .i64)) ∧ (v = .slice none 0 0 ↔ pre = [])) ∧ Below w.heap.size w W)
  (fun _ _ _ => False)
  (OwnFrom.and (Own.from (holdsRow_own w.heap.size w.heap.size 22 3 1 (fun pre : List Int => pre.length) (fun pre => pre.map (Value.int .i64)) (fun pre v => v = .slice none 0 0 ↔ pre = [])) _) (ownFrom_below (Nat.le_refl _) (by simp)))
  (fun _ _ _ _ _ hs _ _ => hs)
  ⟨⟨_, bO, World.ownsRow_nil _ _ _ _, by simp⟩, hB0⟩
  (fun x => { tmps := #[.slice none 0 0, .func (.func 105) #[] #[.pointer (some ⟨Bc, 0, none⟩)], .pointer (some ⟨w.heap.size, 0, none⟩), undef, .slice none 0 0, .int .i64 x, .func (.func 105) #[] #[.pointer (some ⟨Bc, 0, none⟩)], .int .i64 x, undef, undef, undef, undef, undef], defers := [] }) ?assign ?body ?done ?stop
 case assign =>
  intro l x W K hK
  gi_wp2
  exact hK
 case body =>
  rintro l pre x W ⟨⟨v, hv, hrow, hnil⟩, hB⟩ hlt
  have hc := hv.cell
  gi_wp2_with (gi_at_builtin; refine wpListIn_append_own _ rfl _ _ 22 rfl w.heap.size 3 i0 (.int .i64 0) 1 8 Tryz.underlying22 hi hz0 hz1 hz2 rfl (by decide) _ _ _ rfl (hrow.alloc _) ⟨W.heap.size, 0, none⟩ 1 1 [.int .i64 x] rfl rfl (cell_one_new _ _ _) (by simp [Value.oneCell']) (by omega) (by omega) (by have := hB.size; simp; omega) ?_; intro v' w1 hown' hgrow _; obtain ⟨g', cap', rfl⟩ := ownsRow_succ hown'; obtain ⟨hv1, hv2, hr2, hk2, hb2⟩ := hv.appended (by decide) hrow hB.size (Nat.le_refl _) hown' hgrow; have hc1 := hv1.cell; have hf1 := hv1.frozen)
  exact ⟨hk2.from _, hb2, ⟨_, hv2, by simpa using hr2, by simp⟩, hB.trans hb2⟩
 case done =>
  rintro D ys W hD rfl ⟨⟨v, hv, hrow, hnil⟩, hB⟩ hK
  have hc := hv.cell
  gi_wp2
  refine ⟨by simp, .inl ⟨_, _, rfl, run_takeDeferred hK, ?_⟩⟩
  exact ⟨_, results_tmp rfl _ _ _, v, rfl, ownsRow_putObj hrow _ hK rfl, hnil, hB.trans (belowK_b (w := w) (Nat.le_refl _) W D _ _ (by simp at hD; omega) hK rfl rfl)⟩
 case stop =>
  rintro D c pre W _ _ h _
  exact h.elim
def SortsIn (F : Fence) (m : Nat) : Prop :=
 (∀ (blk off cap : Nat) (ss : List Int) (W : World), Holds (Value.int .i64) W blk off ss.toArray → blk < W.heap.size → ss.length < 4611686018427387904 →
  CallsIn F m Tryz.prog 104 #[.slice (some ⟨blk, off, none⟩) ss.length cap] W fun e w' => e = .returned (.tuple #[]) ∧ ∃ k os, w' = grow (putRow (Value.int .i64) (Sort.ahead W k) blk off (ss.mergeSort fun x y => decide (x ≤ y)).toArray) os) ∧
 (∀ (p : Option Addr) (cap : Nat) (W : World), CallsIn F m Tryz.prog 104 #[.slice p 0 cap] W fun e w' => e = .returned (.tuple #[]) ∧ w' = W)
theorem sorts_wide (m : Nat) : SortsIn Fence.wide m :=
 ⟨fun blk off cap ss W hH hblk hsz => callsIn_wide.2 (Go.Proofs.Tryz.slices_Sort_int blk off cap ss W hH hblk hsz), fun p cap W => callsIn_wide.2 (Go.Proofs.Tryz.slices_Sort_int_none p cap W)⟩
set_option maxRecDepth 100000 in
set_option maxHeartbeats 1000000 in
theorem collect_in (F : Fence) (n : Nat) (h8 : F.fn 103) (h3 : F.fn 122) (h5 : F.fn 105) (hro : F.round = none) (hn : 4 ≤ n) (Bc : Nat) (sv : Value) (zs : List Int) (hlen : zs.length ≤ maxLen) (hbytes : zs.length * 8 ≤ 140737488351232) (w : World) (hBc : w.cell? ⟨Bc, 0, none⟩ = some sv) (hBl : Bc < w.heap.size) (hI : Ints w.heap.size w sv zs) :
 CallsIn F n Tryz.prog 103 #[.func (.func 105) #[] #[.pointer (some ⟨Bc, 0, none⟩)]] w fun e W' => ∃ v, e = .returned v ∧ W'.ownsRow w.heap.size 3 1 v zs.length (zs.map (Value.int .i64)) ∧ (v = .slice none 0 0 ↔ zs = []) ∧ Below w.heap.size w W' := by
 have h1 : 1 ≤ n := by omega
 refine callsIn_of_wp Tryz.func103 rfl h8 ?_ hro
 simp only [Tryz.ntmps103, List.size_toArray, List.length_cons, List.length_nil, Nat.reduceAdd, Nat.reduceSub, Array.replicate_succ, Array.replicate_zero, List.push_toArray, List.append_toArray, List.nil_append, List.cons_append]
 gi_wp2_with (gi_at_call 122; refine (appendSeq_in F (n - 1) h3 h5 hro (by omega) Bc sv zs hlen hbytes _ hBc hBl hI).mono ?_; rintro e W ⟨v, rfl, hrow, hnil, hb⟩)
 go_ret
 exact ⟨v, rfl, hrow, hnil, hb⟩
set_option maxRecDepth 100000 in
set_option maxHeartbeats 2000000 in
theorem sorted_in (F : Fence) (n : Nat) (h6 : F.fn 72) (h8 : F.fn 103) (h9 : F.fn 104) (h3 : F.fn 122) (h5 : F.fn 105) (hro : F.round = none) (hn : 5 ≤ n) (hsort : SortsIn F (n - 1)) (Bc : Nat) (sv : Value) (zs : List Int) (hlen : zs.length ≤ maxLen) (hbytes : zs.length * 8 ≤ 140737488351232) (w : World) (hBc : w.cell? ⟨Bc, 0, none⟩ = some sv) (hBl : Bc < w.heap.size) (hI : Ints w.heap.size w sv zs) :
 CallsIn F n Tryz.prog 72 #[.func (.func 105) #[] #[.pointer (some ⟨Bc, 0, none⟩)]] w fun e w' => ∃ v, e = .returned v ∧ w'.ownsRow w.heap.size 3 1 v zs.length ((zs.mergeSort (fun x y => decide (x ≤ y))).map (Value.int .i64)) ∧ Below w.heap.size w w' := by
 have h1 : 1 ≤ n := by omega
 refine callsIn_of_wp Tryz.func72 rfl h6 ?_ hro
 simp only [Tryz.ntmps72, List.size_toArray, List.length_cons, List.length_nil, Nat.reduceAdd, Nat.reduceSub, Array.replicate_succ, Array.replicate_zero, List.push_toArray, List.append_toArray, List.nil_append, List.cons_append]
 gi_wp2_with (gi_at_call 103; refine (collect_in F (n - 1) h8 h3 h5 hro (by omega) Bc sv zs hlen hbytes _ hBc hBl hI).mono ?_; rintro e W ⟨v, rfl, hrow, hnil, hb⟩)
 rcases hrow.2 with ⟨rfl, hz⟩ | ⟨gb, cap, cur, rfl, hbase, hgb, r1, r2, r3, r4⟩
 ·have hss : zs = [] := List.eq_nil_of_length_eq_zero hz
  subst hss
  gi_wp2_with (gi_at_call 104; refine (hsort.2 none 0 W).mono ?_; rintro e w' ⟨rfl, rfl⟩)
  go_ret
  exact ⟨.slice none 0 0, rfl, by simpa using hrow, hb⟩
 ·have hH : Holds (Value.int .i64) W gb 0 zs.toArray := holds_of_blockI hgb (by simpa using r4)
  have hgl : gb < W.heap.size := (Array.getElem?_eq_some_iff.1 hgb).1
  have cS := hsort.1 gb 0 cap zs W hH hgl (by omega)
  gi_wp2_with (gi_at_call 104; refine cS.mono ?_; rintro e w' ⟨rfl, nn, os, rfl⟩)
  go_ret
  exact ⟨_, rfl, ownsRow_sortedI (by simp) hbase hgb r1 r2 r3, hb.grown (grownBy_sortedI _) hb.size (fun j hj => by cases hj; exact hbase)⟩
theorem sorted (Bc : Nat) (sv : Value) (zs : List Int) (hlen : zs.length ≤ maxLen) (hbytes : zs.length * 8 ≤ 140737488351232) (w : World) (hBc : w.cell? ⟨Bc, 0, none⟩ = some sv) (hBl : Bc < w.heap.size) (hI : Ints w.heap.size w sv zs) :
 Calls Tryz.prog 72 #[.func (.func 105) #[] #[.pointer (some ⟨Bc, 0, none⟩)]] w fun e w' => ∃ v, e = .returned v ∧ w'.ownsRow w.heap.size 3 1 v zs.length ((zs.mergeSort (fun x y => decide (x ≤ y))).map (Value.int .i64)) ∧ Below w.heap.size w w' :=
 callsIn_wide.1 (sorted_in Fence.wide 5 trivial trivial trivial trivial trivial rfl (Nat.le_refl _) (sorts_wide _) Bc sv zs hlen hbytes w hBc hBl hI)
end Go.Proofs.YtphlkdbglpcikaaGreatDoor.WSeq
end
