/-
  Merged: Tr WFGoes WFFill WFPlan WFBest FitG.
-/
import Derived.Test.YtphlkdbglpcikaaGreatDoorG5
set_option linter.unusedVariables false
set_option linter.unusedSimpArgs false
set_option maxRecDepth 100000

section
namespace Go.Vl
namespace Fit
open Sch
def cel (rows : List (List Ct)) (k i : Nat) : Ct := (rows.getD k []).getD i cz
def goesB (rows : List (List Ct)) (i k : Nat) (d f : Int) (to : Int) (nk : Nat) : Bool :=
 if to < 0 ∨ (cel rows nk to.toNat).ok = false then false else (cel rows nk to.toNat).d + d == (cel rows k i).d && (cel rows nk to.toNat).f + f == (cel rows k i).f
def fillP (A : Au) (sz : List Int) (rows : List (List Ct)) (i k n : Nat) : Bool := decide (0 ≤ tr A i n) && goesB rows i k 0 (sz.getD n 0) (tr A i n) k
inductive Tr (A : Au) (sz : List Int) (ks : List Nat) (rows : List (List Ct)) : Nat → Nat → Nat → List Nat → List Int → Prop
 | stop {i k : Nat} (h : (cel rows k i).d = 0 ∧ (cel rows k i).f = 0) (hk : k = ks.length) : Tr A sz ks rows 0 i k [] []
 | keep {m i k : Nat} {w : List Nat} {fr : List Int} (hk : k < ks.length) (h : goesB rows i k 0 0 (tr A i (ks.getD k 0)) (k + 1) = true) (r : Tr A sz ks rows m (tr A i (ks.getD k 0)).toNat (k + 1) w fr) : Tr A sz ks rows (m + 1) i k (ks.getD k 0 :: w) ((k : Int) :: fr)
 | fill {m i k n : Nat} {w : List Nat} {fr : List Int} (hs : ¬ ((cel rows k i).d = 0 ∧ (cel rows k i).f = 0 ∧ k = ks.length)) (hg : ¬ (k < ks.length ∧ goesB rows i k 0 0 (tr A i (ks.getD k 0)) (k + 1) = true)) (hn : firstN (fillP A sz rows i k) 8 0 = some n) (r : Tr A sz ks rows m (tr A i n).toNat k w fr) : Tr A sz ks rows (m + 1) i k (n :: w) (-1 :: fr)
 | drop {m i k : Nat} {w : List Nat} {fr : List Int} (hk : k < ks.length) (hg : goesB rows i k 0 0 (tr A i (ks.getD k 0)) (k + 1) = false) (hn : firstN (fillP A sz rows i k) 8 0 = none) (hc : (cel rows (k + 1) i).ok = true ∧ (cel rows (k + 1) i).d + 1 = (cel rows k i).d ∧ (cel rows (k + 1) i).f = (cel rows k i).f) (r : Tr A sz ks rows m i (k + 1) w fr) : Tr A sz ks rows (m + 1) i k w fr
section
variable {A : Au} {sz : List Int} {ks : List Nat} {rows : List (List Ct)}
theorem Opt.cel_best (ho : Opt A sz ks rows) {k i : Nat} (hk : k ≤ ks.length) (hi : i < A.next.length) : Best A sz i (ks.drop k) (cel rows k i) := ho.best k hk i hi
end
end Fit
end Go.Vl
end
section
namespace Go.Proofs.YtphlkdbglpcikaaGreatDoor
open Go.Vl
open Y
namespace WFGoes
end WFGoes
end Go.Proofs.YtphlkdbglpcikaaGreatDoor
end
section
namespace Go.Proofs.YtphlkdbglpcikaaGreatDoor
open Go.Vl
open Y
namespace WFFill
set_option maxHeartbeats 4000000 in
theorem c_fill (b : Nat) (ts : List Tp) (as_ : List Au) (sz : List Int) (A : Au) (hsh : A.Shape) (hn : A.next.length ≤ 32) (hz : Fit.Sz A sz) (hcol : ∀ i m, 0 ≤ Fit.tr A i m → m < sz.length) (p : Nat) (q3 : AV) (sa : Option Addr) (sn sc : Nat) (vr : Value) (es : List AV) (k : Nat) (hk : es[k]? = some (.lit (.slice sa sn sc))) (ks : List Nat) (hks : ks.length ≤ 64) (FB : Int) (hF0 : 0 ≤ FB) (hF : FB ≤ 400000) (row : List Fit.Ct) (hri : Fit.RI A sz ks FB row) : FnC Tryz.prog 59 [.lit (.pointer (some ⟨p, 0, none⟩)), .int (k : Int)] [.arr (.slice sa sn sc) 82 3 (row.map Fit.ctv), .arr vr 83 1 es, .box p 86 [.lit (.pointer (some ⟨b, 0, none⟩)), .sl 1 (A.next.map pav), .sl 1 (A.final.map AV.bool), q3, .lit vr], .box b 76 [.sl 3 (ts.map tpv), .sl 2 (as_.map Au.avx), .sl 1 (sz.map AV.int)]] (fun r M => r = .tup [] ∧ ∃ row2, Fit.RI A sz ks FB row2 ∧ Fit.Fx A sz row2 ∧ (∀ j d f, (row.getD j Fit.cz).Le d f → (row2.getD j Fit.cz).Le d f) ∧ M = [.arr (.slice sa sn sc) 82 3 (row2.map Fit.ctv), .arr vr 83 1 es, .box p 86 [.lit (.pointer (some ⟨b, 0, none⟩)), .sl 1 (A.next.map pav), .sl 1 (A.final.map AV.bool), q3, .lit vr], .box b 76 [.sl 3 (ts.map tpv), .sl 2 (as_.map Au.avx), .sl 1 (sz.map AV.int)]]) :=  by
 refine FnC.mk Tryz.func59 (by kernel_rfl) rfl Tryz.ntmps59 rfl (fun w0 F => ?_)
 have hkr := hk
 have hkl : k < es.length := by
  rcases Nat.lt_or_ge k es.length with h | h
  ·exact h
  ·rw [List.getElem?_eq_none h] at hk; cases hk
 have hnl : (A.next.map pav).length = A.next.length := List.length_map ..
 refine W.s (.r (.q (.assign .k) rfl (.n (.h (.b ?_))))); refine W.loop (D := []) (ι := List Fit.Ct × Bool) (fun z => [(4, true, .bool z.2), (0, true, .lit (.pointer (some ⟨p, 0, none⟩))), (1, true, .int (k : Int))]) (fun z => [.arr (.slice sa sn sc) 82 3 (z.1.map Fit.ctv), .arr vr 83 1 es, .box p 86 [.lit (.pointer (some ⟨b, 0, none⟩)), .sl 1 (A.next.map pav), .sl 1 (A.final.map AV.bool), q3, .lit vr], .box b 76 [.sl 3 (ts.map tpv), .sl 2 (as_.map Au.avx), .sl 1 (sz.map AV.int)]]) (fun z => Fit.RI A sz ks FB z.1 ∧ (∀ j d f, (row.getD j Fit.cz).Le d f → (z.1.getD j Fit.cz).Le d f) ∧ (z.2 = false → Fit.Fx A sz z.1)) (fun z => if z.2 = true then Fit.meas ks.length z.1 + 1 else 0) (row, true) ⟨rfl, rfl, rfl, trivial⟩ (.refl _) ⟨hri, fun _ _ _ h => h, fun h => by cases h⟩ ?_
 rintro ⟨r0, mo0⟩ ⟨hr0, hmono0, hfx0⟩
 dsimp only at hr0 hmono0 hfx0 ⊢
 cases mo0
 ·have hFx := hfx0 rfl
  refine W.s (.s (.r (.mv rfl rfl (.n (.h (.condF (.t rfl) (.ex (.he (.he (.bh ?_)))))))))); refine W.endn (M' := [.arr (.slice sa sn sc) 82 3 (r0.map Fit.ctv), .arr vr 83 1 es, .box p 86 [.lit (.pointer (some ⟨b, 0, none⟩)), .sl 1 (A.next.map pav), .sl 1 (A.final.map AV.bool), q3, .lit vr], .box b 76 [.sl 3 (ts.map tpv), .sl 2 (as_.map Au.avx), .sl 1 (sz.map AV.int)]]) (D := []) (rs := []) (avs := []) Tryz.results59 trivial rfl (.refl _) ?_
  exact ⟨rfl, r0, hr0, hFx, hmono0, rfl⟩
 ·skip
  refine W.s (.s (.r (.mv rfl rfl (.n (.h (.condT (.t rfl) (.k (.h (.b (.s (.r (.q (.assign .k) rfl (.n (.h (.s (.r (.mv rfl rfl (.q (.nilc (.t rfl)) rfl (.q (.fab (.t rfl) fa86_1) rfl (.q (.fab (.t rfl) fa62_0) rfl (.q (.ldb1 2 (.t rfl) rfl ag59 rfl) rfl (.q (.lensl (.t rfl) Tryz.underlying59) rfl (.q (.move .k) rfl ?_))))))))))))))))))))))); refine W.n (.h (.b ?_)); refine W.loop (D := []) (ι := Nat × List Fit.Ct × Bool) (fun z => [(16, true, .int (z.1 : Int)), (15, true, .int ((A.next.map pav).length : Int)), (14, true, .sl 1 (A.next.map pav)), (4, true, .bool z.2.2), (0, true, .lit (.pointer (some ⟨p, 0, none⟩))), (1, true, .int (k : Int))]) (fun z => [.arr (.slice sa sn sc) 82 3 (z.2.1.map Fit.ctv), .arr vr 83 1 es, .box p 86 [.lit (.pointer (some ⟨b, 0, none⟩)), .sl 1 (A.next.map pav), .sl 1 (A.final.map AV.bool), q3, .lit vr], .box b 76 [.sl 3 (ts.map tpv), .sl 2 (as_.map Au.avx), .sl 1 (sz.map AV.int)]]) (fun z => z.1 ≤ A.next.length ∧ Fit.FI A sz ks FB r0 z.1 0 z.2.1 z.2.2) (fun z => A.next.length - z.1) (0, r0, false) ⟨rfl, rfl, rfl, rfl, rfl, rfl, trivial⟩ (.refl _) ⟨Nat.zero_le _, .start hr0⟩ ?_
  rintro ⟨i, r1, mo1⟩ ⟨hi, hFI1⟩
  dsimp only at hi hFI1 ⊢
  rcases (show i < A.next.length ∨ i = A.next.length from by omega) with hlt | hend
  ·have hgr := getD_mapG pav [] A.next i hlt
   have hr8 := hsh.row i hlt
   have htr : ∀ m, Fit.tr A i m = (A.next.getD i []).getD m (-1) := fun m => rfl
   generalize A.next.getD i [] = rw_ at hgr hr8 htr
   have hrl : (rw_.map AV.int).length = 8 := by rw [List.length_map]; exact hr8
   refine W.s (.r (.q (.lti (.t rfl) (.t rfl)) rfl (.n (.h (.s ?_))))); refine W.isb 17 true rfl (by exact decide_eq_true (by omega)) ?_; refine W.condT (.t rfl) (.k (.h (.s (.b (.s (.r (.mv rfl rfl ?_))))))); refine W.q (.at (E := 22) (.t rfl) (.t rfl) Tryz.underlying59 ty22 (fun hg => ⟨by omega, hgr⟩) rfl rfl) rfl ?_; refine W.q (.lde1 (.t rfl) ag22) rfl (.asg rfl rfl (.asg rfl rfl (.n (.h (.s (.r (.mv rfl rfl (.q (.lensl (.t rfl) Tryz.underlying22) rfl (.q (.move .k) rfl (.n (.h (.b ?_)))))))))))); refine W.loop (D := []) (ι := Nat × List Fit.Ct × Bool) (fun z => [(23, true, .int (z.1 : Int)), (22, true, .int ((rw_.map AV.int).length : Int)), (21, true, .sl 1 (rw_.map AV.int)), (5, true, .int (i : Int)), (16, true, .int (i : Int)), (15, true, .int ((A.next.map pav).length : Int)), (14, true, .sl 1 (A.next.map pav)), (4, true, .bool z.2.2), (0, true, .lit (.pointer (some ⟨p, 0, none⟩))), (1, true, .int (k : Int))]) (fun z => [.arr (.slice sa sn sc) 82 3 (z.2.1.map Fit.ctv), .arr vr 83 1 es, .box p 86 [.lit (.pointer (some ⟨b, 0, none⟩)), .sl 1 (A.next.map pav), .sl 1 (A.final.map AV.bool), q3, .lit vr], .box b 76 [.sl 3 (ts.map tpv), .sl 2 (as_.map Au.avx), .sl 1 (sz.map AV.int)]]) (fun z => z.1 ≤ 8 ∧ Fit.FI A sz ks FB r0 i z.1 z.2.1 z.2.2) (fun z => 8 - z.1) (0, r1, mo1) ⟨rfl, rfl, rfl, rfl, rfl, rfl, rfl, rfl, rfl, rfl, trivial⟩ (.refl _) ⟨Nat.zero_le _, hFI1⟩ ?_
   rintro ⟨m, r, mo⟩ ⟨hm, hFI⟩
   dsimp only at hm hFI ⊢
   have hrlen : r.length = A.next.length := hFI.ri.len
   have hcl : (r.map Fit.ctv).length = A.next.length := by rw [List.length_map, hrlen]
   obtain ⟨to, hto⟩ : ∃ z, Fit.tr A i m = z := ⟨_, rfl⟩
   have hgm : m < 8 → (rw_.map AV.int)[m]? = some (AV.int to) := fun h => by rw [List.getElem?_map, ← hto, htr, List.getD_eq_getElem?_getD, List.getElem?_eq_getElem (show m < rw_.length by omega)]; rfl
   have htl : 0 ≤ to → to.toNat < A.next.length := fun h => by have := Fit.tr_lt hsh hlt (n := m) (by rw [hto]; exact h); rw [hto] at this; exact this.1
   obtain ⟨cc, hcc⟩ : ∃ c, r.getD to.toNat Fit.cz = c := ⟨_, rfl⟩
   have hgt0 : 0 ≤ to → (r.map Fit.ctv)[to.toNat]? = some (Fit.ctv cc) := fun h => by rw [← hcc]; exact Fit.getD_ctv r _ (by rw [hrlen]; exact htl h)
   rcases (show (m < 8 ∧ to < 0) ∨ (m < 8 ∧ 0 ≤ to ∧ cc.ok = false) ∨ (m < 8 ∧ 0 ≤ to ∧ cc.ok = true) ∨ m = 8 from by cases cc.ok <;> simp <;> omega) with ⟨hlm, hneg⟩ | ⟨hlm, hpos, hok⟩ | ⟨hlm, hpos, hok⟩ | hend
   ·have hgm := hgm hlm
    refine W.s (.r (.q (.lti (.t rfl) (.t rfl)) rfl (.n (.h (.s ?_))))); refine W.isb 24 true rfl (by exact decide_eq_true (by omega)) ?_; refine W.condT (.t rfl) (.k (.h (.s (.b (.s (.r (.mv rfl rfl ?_))))))); refine W.q (.at (E := 3) (.t rfl) (.t rfl) Tryz.underlying22 ty3 (fun hg => ⟨by omega, hgm⟩) rfl rfl) rfl ?_; refine W.q (.lde1 (.t rfl) ag3) rfl (.asg rfl rfl (.asg rfl rfl (.n (.h (.s ?_))))); refine W.drawnE (ι := Unit) (fun _ _ => [.arr (.slice sa sn sc) 82 3 (r.map Fit.ctv), .arr vr 83 1 es, .box p 86 [.lit (.pointer (some ⟨b, 0, none⟩)), .sl 1 (A.next.map pav), .sl 1 (A.final.map AV.bool), q3, .lit vr], .box b 76 [.sl 3 (ts.map tpv), .sl 2 (as_.map Au.avx), .sl 1 (sz.map AV.int)]]) 40 () (by kernel_rfl) (by kernel_rfl) rfl ?_; refine DE.q (fun e c hk => (.move (.t rfl))) rfl (fun _ _ => rfl) (.inr fun _ _ => rfl) ?_; refine DE.q (av := fun _ => .bool false) (fun e c_ hk_ => Ev.as_ (.gei (.t rfl) .k) (congrArg AV.bool (by exact decide_eq_false (by omega)))) rfl (fun _ _ => rfl) (.inr fun _ _ => rfl) ?_; refine DE.q (fun e c hk => (.move (.t rfl))) rfl (fun _ _ => rfl) (.inr fun _ _ => rfl) (.skipg rfl (fun _ => rfl) rfl rfl (fun _ _ => rfl) (.skipg rfl (fun _ => rfl) rfl rfl (fun _ _ => rfl) (.skipg rfl (fun _ => rfl) rfl rfl (fun _ _ => rfl) (.skipg rfl (fun _ => rfl) rfl rfl (fun _ _ => rfl) (.skipg rfl (fun _ => rfl) rfl rfl (fun _ _ => rfl) (.skipg rfl (fun _ => rfl) rfl rfl (fun _ _ => rfl) (.skipg rfl (fun _ => rfl) rfl rfl (fun _ _ => rfl) (.skipg rfl (fun _ => rfl) rfl rfl (fun _ _ => rfl) (.skipg rfl (fun _ => rfl) rfl rfl (fun _ _ => rfl) (.skipg rfl (fun _ => rfl) rfl rfl (fun _ _ => rfl) (.skipg rfl (fun _ => rfl) rfl rfl (fun _ _ => rfl) (.q (fun e c_ hk_ => Ev.andF (.t rfl)) rfl (fun _ _ => rfl) (.inr fun _ _ => rfl) (.q (fun e c hk => (.move (.t rfl))) rfl (fun _ _ => rfl) (.inr fun _ _ => rfl) (.skipg rfl (fun _ => rfl) rfl rfl (fun _ _ => rfl) (.skipg rfl (fun _ => rfl) rfl rfl (fun _ _ => rfl) (.skipg rfl (fun _ => rfl) rfl rfl (fun _ _ => rfl) (.skipg rfl (fun _ => rfl) rfl rfl (fun _ _ => rfl) (.skipg rfl (fun _ => rfl) rfl rfl (fun _ _ => rfl) (.skipg rfl (fun _ => rfl) rfl rfl (fun _ _ => rfl) (.skipg rfl (fun _ => rfl) rfl rfl (fun _ _ => rfl) (.skipg rfl (fun _ => rfl) rfl rfl (fun _ _ => rfl) (.skipg rfl (fun _ => rfl) rfl rfl (fun _ _ => rfl) (.skipg rfl (fun _ => rfl) rfl rfl (fun _ _ => rfl) ?_))))))))))))))))))))))); refine DE.skipg rfl (fun _ => rfl) rfl rfl (fun _ _ => rfl) (.skipg rfl (fun _ => rfl) rfl rfl (fun _ _ => rfl) (.skipg rfl (fun _ => rfl) rfl rfl (fun _ _ => rfl) (.skipg rfl (fun _ => rfl) rfl rfl (fun _ _ => rfl) (.skipg rfl (fun _ => rfl) rfl rfl (fun _ _ => rfl) (.skipg rfl (fun _ => rfl) rfl rfl (fun _ _ => rfl) (.skipg rfl (fun _ => rfl) rfl rfl (fun _ _ => rfl) (.skipg rfl (fun _ => rfl) rfl rfl (fun _ _ => rfl) (.skipg rfl (fun _ => rfl) rfl rfl (fun _ _ => rfl) ?_))))))))
    refine DE.skipg rfl (fun _ => rfl) rfl rfl (fun _ _ => rfl) ?_; refine DE.skipg rfl (fun _ => rfl) rfl rfl (fun _ _ => rfl) ?_; refine DE.skipg rfl (fun _ => rfl) rfl rfl (fun _ _ => rfl) ?_; refine DE.skipg rfl (fun _ => rfl) rfl rfl (fun _ _ => rfl) ?_; refine DE.q (fun e c_ hk_ => Ev.andF (.t rfl)) rfl (fun _ _ => rfl) (.inr fun _ _ => rfl) ?_; refine DE.nil (fun c_ e_ he_ => ?_)
    dsimp only
    refine W.h (.condF (.t rfl) (.k (.bn (.h (.r (.q (.add (.t rfl) .k (fun _ => by omega)) rfl ?_))))))
    refine W.q (.move (.t rfl)) rfl ?_; refine W.n ?_; refine W.h ?_; refine W.reach (D := []) (m + 1, r, mo) ⟨rfl, rfl, rfl, rfl, rfl, rfl, rfl, rfl, rfl, rfl, trivial⟩ (.refl _) ⟨⟨by omega, hFI.skip (fun h0 => by rw [hto] at h0; omega)⟩, by show 8 - (m + 1) < 8 - m; omega⟩
   ·have hgm := hgm hlm
    have htl := htl hpos
    have hgt := hgt0 hpos
    refine W.s (.r (.q (.lti (.t rfl) (.t rfl)) rfl (.n (.h (.s ?_))))); refine W.isb 24 true rfl (by exact decide_eq_true (by omega)) ?_; refine W.condT (.t rfl) (.k (.h (.s (.b (.s (.r (.mv rfl rfl ?_))))))); refine W.q (.at (E := 3) (.t rfl) (.t rfl) Tryz.underlying22 ty3 (fun hg => ⟨by omega, hgm⟩) rfl rfl) rfl ?_; refine W.q (.lde1 (.t rfl) ag3) rfl (.asg rfl rfl (.asg rfl rfl (.n (.h (.s ?_))))); refine W.drawnE (ι := Unit) (fun _ _ => [.arr (.slice sa sn sc) 82 3 (r.map Fit.ctv), .arr vr 83 1 es, .box p 86 [.lit (.pointer (some ⟨b, 0, none⟩)), .sl 1 (A.next.map pav), .sl 1 (A.final.map AV.bool), q3, .lit vr], .box b 76 [.sl 3 (ts.map tpv), .sl 2 (as_.map Au.avx), .sl 1 (sz.map AV.int)]]) 40 () (by kernel_rfl) (by kernel_rfl) rfl ?_; refine DE.q (fun e c hk => (.move (.t rfl))) rfl (fun _ _ => rfl) (.inr fun _ _ => rfl) ?_; refine DE.q (av := fun _ => .bool true) (fun e c_ hk_ => Ev.as_ (.gei (.t rfl) .k) (congrArg AV.bool (by exact decide_eq_true (by omega)))) rfl (fun _ _ => rfl) (.inr fun _ _ => rfl) ?_; refine DE.q (fun e c hk => (.move (.t rfl))) rfl (fun _ _ => rfl) (.inr fun _ _ => rfl) (.qy rfl (fun _ => rfl) (fun e c hk => (.move (.t rfl))) rfl (fun _ _ => rfl) (.inr fun _ _ => rfl) (.qy rfl (fun _ => rfl) (fun e c hk => (.nilc (.t rfl))) rfl (fun _ _ => rfl) (.inr fun _ _ => rfl) (.qy rfl (fun _ => rfl) (fun e c hk => (.fab (.t rfl) fa86_3)) rfl (fun _ _ => rfl) (.inr fun _ _ => rfl) (.qy rfl (fun _ => rfl) (fun e c hk => (.ldb1 2 (.t rfl) rfl ag84 rfl)) rfl (fun _ _ => rfl) (.inr fun _ _ => rfl) (.qy rfl (fun _ => rfl) (fun e c hk => (.move (.t rfl))) rfl (fun _ _ => rfl) (.inr fun _ _ => rfl) (.qy rfl (fun _ => rfl) (fun e c_ hk_ => Ev.ata 1 (.t rfl) rfl (.t rfl) Tryz.underlying84 ty83 (fun _ => by omega)) rfl (fun _ _ => rfl) (.inr fun _ _ => rfl) (.qy rfl (fun _ => rfl) (fun e c_ hk_ => Ev.lda1 1 k 0 (.t rfl) rfl hk (by omega) rfl rfl rfl ag83) rfl (fun _ _ => rfl) (.inr fun _ _ => rfl) (.qy rfl (fun _ => rfl) (fun e c hk => (.move (.t rfl))) rfl (fun _ _ => rfl) (.inr fun _ _ => rfl) (.qy rfl (fun _ => rfl) (fun e c_ hk_ => Ev.ata 0 (.t rfl) rfl (.t rfl) Tryz.underlying83 ty82 (fun _ => by omega)) rfl (fun _ _ => rfl) (.inr fun _ _ => rfl) (.qy rfl (fun _ => rfl) (fun e c hk => (.faa (.t rfl) fa82_1)) rfl (fun _ _ => rfl) (.inr fun _ _ => rfl) ?_))))))))))
    refine DE.qy (av := fun _ => .bool false) rfl (fun _ => rfl) (fun e c_ hk_ => Ev.as_ (.lda1 0 to.toNat 2 (.t rfl) rfl hgt (by omega) rfl rfl rfl ag4) (congrArg AV.bool (by exact hok))) rfl (fun _ _ => rfl) (.inr fun _ _ => rfl) ?_; refine DE.q (av := fun _ => .bool false) (fun e c_ hk_ => Ev.as_ (.and (.t rfl) ⟨_, _, rfl, rfl, fun _ _ => rfl⟩) (congrArg AV.bool (by rfl))) rfl (fun _ _ => rfl) (.inr fun _ _ => rfl) ?_; refine DE.q (fun e c hk => (.move (.t rfl))) rfl (fun _ _ => rfl) (.inr fun _ _ => rfl) ?_; refine DE.skipg rfl (fun _ => rfl) rfl rfl (fun _ _ => rfl) ?_; refine DE.skipg rfl (fun _ => rfl) rfl rfl (fun _ _ => rfl) ?_; refine DE.skipg rfl (fun _ => rfl) rfl rfl (fun _ _ => rfl) ?_; refine DE.skipg rfl (fun _ => rfl) rfl rfl (fun _ _ => rfl) ?_; refine DE.skipg rfl (fun _ => rfl) rfl rfl (fun _ _ => rfl) ?_; refine DE.skipg rfl (fun _ => rfl) rfl rfl (fun _ _ => rfl) ?_; refine DE.skipg rfl (fun _ => rfl) rfl rfl (fun _ _ => rfl) ?_; refine DE.skipg rfl (fun _ => rfl) rfl rfl (fun _ _ => rfl) ?_; refine DE.skipg rfl (fun _ => rfl) rfl rfl (fun _ _ => rfl) ?_; refine DE.skipg rfl (fun _ => rfl) rfl rfl (fun _ _ => rfl) ?_; refine DE.skipg rfl (fun _ => rfl) rfl rfl (fun _ _ => rfl) ?_; refine DE.skipg rfl (fun _ => rfl) rfl rfl (fun _ _ => rfl) ?_; refine DE.skipg rfl (fun _ => rfl) rfl rfl (fun _ _ => rfl) ?_; refine DE.skipg rfl (fun _ => rfl) rfl rfl (fun _ _ => rfl) ?_; refine DE.skipg rfl (fun _ => rfl) rfl rfl (fun _ _ => rfl) ?_; refine DE.skipg rfl (fun _ => rfl) rfl rfl (fun _ _ => rfl) ?_; refine DE.skipg rfl (fun _ => rfl) rfl rfl (fun _ _ => rfl) ?_; refine DE.skipg rfl (fun _ => rfl) rfl rfl (fun _ _ => rfl) ?_; refine DE.skipg rfl (fun _ => rfl) rfl rfl (fun _ _ => rfl) ?_; refine DE.skipg rfl (fun _ => rfl) rfl rfl (fun _ _ => rfl) ?_; refine DE.skipg rfl (fun _ => rfl) rfl rfl (fun _ _ => rfl) ?_; refine DE.skipg rfl (fun _ => rfl) rfl rfl (fun _ _ => rfl) ?_; refine DE.skipg rfl (fun _ => rfl) rfl rfl (fun _ _ => rfl) ?_; refine DE.q (fun e c_ hk_ => Ev.andF (.t rfl)) rfl (fun _ _ => rfl) (.inr fun _ _ => rfl) ?_; refine DE.nil (fun c_ e_ he_ => ?_)
    dsimp only
    refine W.h (.condF (.t rfl) (.k (.bn (.h (.r (.q (.add (.t rfl) .k (fun _ => by omega)) rfl ?_))))))
    refine W.q (.move (.t rfl)) rfl ?_; refine W.n ?_; refine W.h ?_; refine W.reach (D := []) (m + 1, r, mo) ⟨rfl, rfl, rfl, rfl, rfl, rfl, rfl, rfl, rfl, rfl, trivial⟩ (.refl _) ⟨⟨by omega, hFI.skip (fun _ => by rw [hto, hcc]; exact hok)⟩, by show 8 - (m + 1) < 8 - m; omega⟩
   ·have hgm := hgm hlm
    have htl := htl hpos
    have hgt := hgt0 hpos
    have hbd := hFI.ri.bnd hz (by omega) to.toNat htl (by rw [hcc]; exact hok)
    rw [hcc] at hbd
    have hzh := hz.hi i m (by rw [hto]; exact hpos)
    have hzl := hz.lo i m (by rw [hto]; exact hpos)
    have hml := hcol i m (by rw [hto]; exact hpos)
    have hFB := hFI.bet hz hsh (by omega) hlt (by rw [hto]; exact hpos) (by rw [hto, hcc]; exact hok)
    rw [hto, hcc] at hFB
    have hplus : FnP Tryz.prog 60 [.agg [.int cc.d, .int cc.f], .agg [.int 0, .int (sz.getD m 0)]] (.agg [.int cc.d, .int (cc.f + sz.getD m 0)]) := by have := WFSmall.c_plus cc.d cc.f 0 (sz.getD m 0) ⟨⟨by omega, by omega⟩, ⟨by omega, by omega⟩, ⟨by omega, by omega⟩, by omega, by omega⟩; rwa [Int.add_zero] at this
    refine W.s (.r (.q (.lti (.t rfl) (.t rfl)) rfl (.n (.h (.s ?_))))); refine W.isb 24 true rfl (by exact decide_eq_true (by omega)) ?_; refine W.condT (.t rfl) (.k (.h (.s (.b (.s (.r (.mv rfl rfl ?_))))))); refine W.q (.at (E := 3) (.t rfl) (.t rfl) Tryz.underlying22 ty3 (fun hg => ⟨by omega, hgm⟩) rfl rfl) rfl ?_; refine W.q (.lde1 (.t rfl) ag3) rfl (.asg rfl rfl (.asg rfl rfl (.n (.h (.s ?_))))); refine W.drawnE (ι := Unit) (fun ee _ => [.arr (.slice sa sn sc) 82 3 (bif ee 38 then ((Fit.betR r i cc.d (cc.f + sz.getD m 0)).map Fit.ctv) else (r.map Fit.ctv)), .arr vr 83 1 es, .box p 86 [.lit (.pointer (some ⟨b, 0, none⟩)), .sl 1 (A.next.map pav), .sl 1 (A.final.map AV.bool), q3, .lit vr], .box b 76 [.sl 3 (ts.map tpv), .sl 2 (as_.map Au.avx), .sl 1 (sz.map AV.int)]]) 38 () (by kernel_rfl) (by kernel_rfl) rfl ?_; refine DE.q (fun e c hk => (.move (.t rfl))) rfl (fun _ _ => rfl) (.inr fun _ _ => rfl) ?_; refine DE.q (av := fun _ => .bool true) (fun e c_ hk_ => Ev.as_ (.gei (.t rfl) .k) (congrArg AV.bool (by exact decide_eq_true (by omega)))) rfl (fun _ _ => rfl) (.inr fun _ _ => rfl) ?_; refine DE.q (fun e c hk => (.move (.t rfl))) rfl (fun _ _ => rfl) (.inr fun _ _ => rfl) (.qy rfl (fun _ => rfl) (fun e c hk => (.move (.t rfl))) rfl (fun _ _ => rfl) (.inr fun _ _ => rfl) (.qy rfl (fun _ => rfl) (fun e c hk => (.nilc (.t rfl))) rfl (fun _ _ => rfl) (.inr fun _ _ => rfl) (.qy rfl (fun _ => rfl) (fun e c hk => (.fab (.t rfl) fa86_3)) rfl (fun _ _ => rfl) (.inr fun _ _ => rfl) (.qy rfl (fun _ => rfl) (fun e c hk => (.ldb1 2 (.t rfl) rfl ag84 rfl)) rfl (fun _ _ => rfl) (.inr fun _ _ => rfl) (.qy rfl (fun _ => rfl) (fun e c hk => (.move (.t rfl))) rfl (fun _ _ => rfl) (.inr fun _ _ => rfl) (.qy rfl (fun _ => rfl) (fun e c_ hk_ => Ev.ata 1 (.t rfl) rfl (.t rfl) Tryz.underlying84 ty83 (fun _ => by omega)) rfl (fun _ _ => rfl) (.inr fun _ _ => rfl) (.qy rfl (fun _ => rfl) (fun e c_ hk_ => Ev.lda1 1 k 0 (.t rfl) rfl hk (by omega) rfl rfl rfl ag83) rfl (fun _ _ => rfl) (.inr fun _ _ => rfl) (.qy rfl (fun _ => rfl) (fun e c hk => (.move (.t rfl))) rfl (fun _ _ => rfl) (.inr fun _ _ => rfl) ?_)))))))); refine DE.qy rfl (fun _ => rfl) (fun e c_ hk_ => by have h_ := hk_.down 38 (by kernel_rfl); simp only [h_, cond_false]; exact Ev.ata 0 (.t rfl) rfl (.t rfl) Tryz.underlying83 ty82 (fun _ => by omega)) rfl (fun _ _ => rfl) (.inr fun _ _ => rfl) ?_; refine DE.qy rfl (fun _ => rfl) (fun e c hk => (.faa (.t rfl) fa82_1)) rfl (fun _ _ => rfl) (.inr fun _ _ => rfl) ?_; refine DE.qy (av := fun _ => .bool true) rfl (fun _ => rfl) (fun e c_ hk_ => by have h_ := hk_.down 38 (by kernel_rfl); simp only [h_, cond_false]; exact Ev.as_ (.lda1 0 to.toNat 2 (.t rfl) rfl hgt (by omega) rfl rfl rfl ag4) (congrArg AV.bool hok)) rfl (fun _ _ => rfl) (.inr fun _ _ => rfl) ?_; refine DE.q (av := fun _ => .bool true) (fun e c_ hk_ => Ev.as_ (.and (.t rfl) ⟨_, _, rfl, rfl, fun _ _ => rfl⟩) (congrArg AV.bool (by rfl))) rfl (fun _ _ => rfl) (.inr fun _ _ => rfl) ?_; refine DE.q (fun e c hk => (.move (.t rfl))) rfl (fun _ _ => rfl) (.inr fun _ _ => rfl) (.qy rfl (fun _ => rfl) (fun e c hk => (.move (.t rfl))) rfl (fun _ _ => rfl) (.inr fun _ _ => rfl) (.qy rfl (fun _ => rfl) (fun e c hk => (.move (.t rfl))) rfl (fun _ _ => rfl) (.inr fun _ _ => rfl) (.qy rfl (fun _ => rfl) (fun e c hk => (.move (.t rfl))) rfl (fun _ _ => rfl) (.inr fun _ _ => rfl) (.qy rfl (fun _ => rfl) (fun e c hk => (.move (.t rfl))) rfl (fun _ _ => rfl) (.inr fun _ _ => rfl) (.qy rfl (fun _ => rfl) (fun e c hk => (.nilc (.t rfl))) rfl (fun _ _ => rfl) (.inr fun _ _ => rfl) (.qy rfl (fun _ => rfl) (fun e c hk => (.fab (.t rfl) fa86_3)) rfl (fun _ _ => rfl) (.inr fun _ _ => rfl) (.qy rfl (fun _ => rfl) (fun e c hk => (.ldb1 2 (.t rfl) rfl ag84 rfl)) rfl (fun _ _ => rfl) (.inr fun _ _ => rfl) (.qy rfl (fun _ => rfl) (fun e c hk => (.move (.t rfl))) rfl (fun _ _ => rfl) (.inr fun _ _ => rfl) (.qy rfl (fun _ => rfl) (fun e c_ hk_ => Ev.ata 1 (.t rfl) rfl (.t rfl) Tryz.underlying84 ty83 (fun _ => by omega)) rfl (fun _ _ => rfl) (.inr fun _ _ => rfl) (.qy rfl (fun _ => rfl) (fun e c_ hk_ => Ev.lda1 1 k 0 (.t rfl) rfl hk (by omega) rfl rfl rfl ag83) rfl (fun _ _ => rfl) (.inr fun _ _ => rfl) (.qy rfl (fun _ => rfl) (fun e c hk => (.move (.t rfl))) rfl (fun _ _ => rfl) (.inr fun _ _ => rfl) ?_))))))))))); refine DE.qy rfl (fun _ => rfl) (fun e c_ hk_ => by have h_ := hk_.down 38 (by kernel_rfl); simp only [h_, cond_false]; exact Ev.ata 0 (.t rfl) rfl (.t rfl) Tryz.underlying83 ty82 (fun _ => by omega)) rfl (fun _ _ => rfl) (.inr fun _ _ => rfl) ?_; refine DE.qy rfl (fun _ => rfl) (fun e c hk => (.faa (.t rfl) fa82_0)) rfl (fun _ _ => rfl) (.inr fun _ _ => rfl) ?_; refine DE.qy rfl (fun _ => rfl) (fun e c_ hk_ => by have h_ := hk_.down 38 (by kernel_rfl); simp only [h_, cond_false]; exact Ev.ldap (n := 2) 0 to.toNat 0 (.t rfl) rfl hgt (by omega) rfl rfl rfl ag81 ty81) rfl (fun _ _ => rfl) (.inr fun _ _ => rfl) ?_; refine DE.qy rfl (fun _ => rfl) (fun e c hk => (.move (.t rfl))) rfl (fun _ _ => rfl) (.inr fun _ _ => rfl) (.qy rfl (fun _ => rfl) (fun e c hk => (.nilc (.t rfl))) rfl (fun _ _ => rfl) (.inr fun _ _ => rfl) (.qy rfl (fun _ => rfl) (fun e c hk => (.fab (.t rfl) fa86_0)) rfl (fun _ _ => rfl) (.inr fun _ _ => rfl) ?_))
    refine DE.qy rfl (fun _ => rfl) (fun e c_ hk_ => Ev.ldb1 2 (.t rfl) rfl ag71 rfl) rfl (fun _ _ => rfl) (.inr fun _ _ => rfl) ?_; refine DE.qy rfl (fun _ => rfl) (fun e c hk => (.move (.t rfl))) rfl (fun _ _ => rfl) (.inr fun _ _ => rfl) ?_; refine DE.callmy rfl (fun _ => rfl) (fun c => WFSmall.c_Size b ts as_ sz m hml) (fun e c => ⟨_, (List.perm_append_comm (l₁ := [_, _, _]) (l₂ := [_]))⟩) (fun c => ⟨(.t rfl), (.t rfl), trivial⟩) rfl (fun _ _ => rfl) (.inr fun _ _ => rfl) ?_; refine DE.qy rfl (fun _ => rfl) (fun e c hk => (.build ty81 st81 rfl (fun hg => ⟨_, _, _, rfl, .k, rfl, rfl, rfl, _, _, _, rfl, (.t rfl), rfl, rfl, rfl, rfl⟩))) rfl (fun _ _ => rfl) (.inr fun _ _ => rfl) ?_; refine DE.cally rfl (fun _ => rfl) (fun c => hplus) (fun c => ⟨(.t rfl), (.t rfl), trivial⟩) rfl (fun _ _ => rfl) (.inr fun _ _ => rfl) ?_; refine DE.effcg (av := fun _ => .bool (Fit.betB r i cc.d (cc.f + sz.getD m 0))) rfl (fun _ => rfl) rfl (.inr fun _ _ => rfl) (fun e c hk L_ hs Q h => ?_) ?_
    ·have hk_38 := hk.not
     simp only [addE, hk_38, Nat.reduceAdd, Nat.reduceEqDiff, ↓reduceIte, cond_true, cond_false] at h ⊢
     refine W.call (WFSmall.c_better p (.lit (.pointer (some ⟨b, 0, none⟩))) (.sl 1 (A.next.map pav)) (.sl 1 (A.final.map AV.bool)) q3 sa sn sc vr es r i k cc.d (cc.f + sz.getD m 0) (by omega) hkr) ⟨(.t (hs _ _ rfl)), (.t (hs _ _ rfl)), (.t (hs _ _ rfl)), (.t (hs _ _ rfl)), trivial⟩ (.refl _) rfl ?_
     rintro _ _ ⟨rfl, rfl⟩
     exact h
    refine DE.q (av := fun _ => .bool (Fit.betB r i cc.d (cc.f + sz.getD m 0))) (fun e c_ hk_ => Ev.as_ (.and (.t rfl) ⟨_, _, rfl, rfl, fun _ _ => rfl⟩) (congrArg AV.bool (by rfl))) rfl (fun _ _ => rfl) (.inr fun _ _ => rfl) ?_; refine DE.nil (fun c_ e_ he_ => ?_)
    simp only [he_ 38 (by decide), cond_true, cond_false]
    refine W.h ?_; refine W.cond (.t rfl) (fun hc_t67 => ?_) (fun hc_t67 => ?_)
    ·have hb1 : Fit.betB r i cc.d (cc.f + sz.getD m 0) = true := hc_t67
     rw [hb1] at hFB
     refine W.r (.q (.assign .k) rfl (.n (.bn (.h (.r (.q (.add (.t rfl) .k (fun _ => by omega)) rfl ?_))))))
     refine W.q (.move (.t rfl)) rfl ?_; refine W.n ?_; refine W.h ?_; refine W.reach (D := []) (m + 1, Fit.betR r i cc.d (cc.f + sz.getD m 0), true) ⟨rfl, rfl, rfl, rfl, rfl, rfl, rfl, rfl, rfl, rfl, trivial⟩ (.refl _) ⟨⟨by omega, hFB⟩, by show 8 - (m + 1) < 8 - m; omega⟩
    ·have hb1 : Fit.betB r i cc.d (cc.f + sz.getD m 0) = false := hc_t67
     rw [hb1] at hFB
     refine W.k (.bn (.h (.r (.q (.add (.t rfl) .k (fun _ => by omega)) rfl ?_))))
     refine W.q (.move (.t rfl)) rfl ?_; refine W.n ?_; refine W.h ?_; refine W.reach (D := []) (m + 1, Fit.betR r i cc.d (cc.f + sz.getD m 0), mo) ⟨rfl, rfl, rfl, rfl, rfl, rfl, rfl, rfl, rfl, rfl, trivial⟩ (.refl _) ⟨⟨by omega, hFB⟩, by show 8 - (m + 1) < 8 - m; omega⟩
   ·subst hend
    refine W.s (.r (.q (.lti (.t rfl) (.t rfl)) rfl (.n (.h (.s ?_))))); refine W.isb 24 false rfl (by exact decide_eq_false (by omega)) ?_; refine W.condF (.t rfl) (.ex (.he (.he (.bh (.bn (.h (.r (.q (.add (.t rfl) .k (fun _ => by omega)) rfl ?_))))))))
    refine W.q (.move (.t rfl)) rfl ?_; refine W.n ?_; refine W.h ?_; refine W.reach (D := []) (i + 1, r, mo) ⟨rfl, rfl, rfl, rfl, rfl, rfl, trivial⟩ (.refl _) ⟨⟨hlt, hFI.row hsh⟩, by show A.next.length - (i + 1) < A.next.length - i; omega⟩
  ·subst hend
   refine W.s (.r (.q (.lti (.t rfl) (.t rfl)) rfl (.n (.h (.s ?_))))); refine W.isb 17 false rfl (by exact decide_eq_false (by omega)) ?_; refine W.condF (.t rfl) (.ex (.he (.he (.bh (.bn (.h ?_))))))
   have hm2 : ∀ j d f, (row.getD j Fit.cz).Le d f → (r1.getD j Fit.cz).Le d f := fun j d f h => hFI1.mono j d f (hmono0 j d f h)
   refine W.reach (D := []) (r1, mo1) ⟨rfl, rfl, rfl, trivial⟩ (.refl _) ⟨⟨hFI1.ri, hm2, fun e => by subst e; exact hFI1.fin.2⟩, ?_⟩
   show (if mo1 = true then Fit.meas ks.length r1 + 1 else 0) < (if true = true then Fit.meas ks.length r0 + 1 else 0)
   rw [if_pos rfl]
   split
   ·rename_i h; have := hFI1.yes h; omega
   ·omega
end WFFill
end Go.Proofs.YtphlkdbglpcikaaGreatDoor
end
section
namespace Go.Proofs.YtphlkdbglpcikaaGreatDoor
open Go.Vl
open Y
namespace WFPlan
set_option maxHeartbeats 8000000 in
theorem c_plan (b : Nat) (ts : List Tp) (as_ : List Au) (sz : List Int) (A : Au) (hsh : A.Shape) (hn : A.next.length ≤ 32) (hz : Fit.Sz A sz) (hcol : ∀ i m, 0 ≤ Fit.tr A i m → m < sz.length) (t : Nat) (hA : (as_.map Au.avx)[t]? = some (Au.avx A)) (ks : List Nat) (hks : ks.length ≤ 64) (hk8 : ∀ k ∈ ks, k < 8) : FnC Tryz.prog 33 [.lit (.pointer (some ⟨b, 0, none⟩)), .int (t : Int), .sl 1 (ks.map fun k : Nat => AV.int (k : Int))] [.box b 76 [.sl 3 (ts.map tpv), .sl 2 (as_.map Au.avx), .sl 1 (sz.map AV.int)]] (fun r M => ∃ p rows, Fit.Opt A sz ks rows ∧ r = .lit (.pointer (some ⟨p, 0, none⟩)) ∧ M = [.box p 86 [.lit (.pointer (some ⟨b, 0, none⟩)), .sl 1 (A.next.map pav), .sl 1 (A.final.map AV.bool), .sl 1 (ks.map fun k : Nat => AV.int (k : Int)), .sl 1 (rows.map Fit.rowv)], .box b 76 [.sl 3 (ts.map tpv), .sl 2 (as_.map Au.avx), .sl 1 (sz.map AV.int)]]) :=  by
 refine FnC.mk Tryz.func33 (by kernel_rfl) rfl Tryz.ntmps33 rfl (fun w0 F => ?_)
 have hzr : Fit.zrow (A.next.map pav).length = (List.replicate A.next.length Fit.cz).map Fit.ctv := by rw [List.length_map]; exact Fit.zrow_eq _
 have hnl : (A.next.map pav).length = A.next.length := List.length_map ..
 have hfl : (A.final.map AV.bool).length = A.final.length := List.length_map ..
 have hfn := hsh.fin
 have hpos0 := hsh.pos
 have htl0 : t < (as_.map Au.avx).length := by
  rcases Nat.lt_or_ge t (as_.map Au.avx).length with h | h
  ·exact h
  ·rw [List.getElem?_eq_none h] at hA; cases hA
 have hlen7 : (ks.map fun k : Nat => AV.int (k : Int)).length = ks.length := List.length_map ..
 refine W.s (.r (.q (.assign .k) rfl (.n (.h (.s (.r (.mv rfl rfl (.mv rfl rfl (.q (.nilc (.t rfl)) rfl (.q (.fab (.t rfl) fa76_1) rfl (.q (.ldb1 0 (.t rfl) rfl ag74 rfl) rfl (.mv rfl rfl ?_)))))))))))); refine W.q (.at (E := 62) (.t rfl) (.t rfl) Tryz.underlying74 ty62 (fun hg => ⟨by omega, hA⟩) rfl rfl) rfl ?_; refine W.q (.lden (.t rfl) ag62 ty62 rfl rfl) rfl ?_
 refine W.q (.move (.t rfl)) rfl ?_; refine W.q (.build ty86 st86 rfl (fun hg => ⟨_, _, _, rfl, (.t rfl), rfl, rfl, rfl, _, _, _, rfl, (.t rfl), rfl, rfl, rfl, _, _, _, rfl, (.t rfl), rfl, rfl, rfl, rfl⟩)) rfl ?_; refine W.box (.t rfl) rfl rfl ?_; intro b25; refine W.perm (M' := [.box b25 86 [.lit (.pointer (some ⟨b, 0, none⟩)), .sl 1 (A.next.map pav), .sl 1 (A.final.map AV.bool), .sl 1 (ks.map fun k : Nat => AV.int (k : Int)), .lit (Fit.slv (none, 0, 0))], .box b 76 [.sl 3 (ts.map tpv), .sl 2 (as_.map Au.avx), .sl 1 (sz.map AV.int)]]) (List.Perm.of_eq rfl) ?_; refine W.q (.assign (.t rfl)) rfl ?_; refine W.n ?_; refine W.h ?_; refine W.s ?_; refine W.s ?_; refine W.r ?_; refine W.q (.move (.t rfl)) rfl ?_
 refine W.q (.lensl (.t rfl) Tryz.underlying22) rfl (.q (.add (.t rfl) .k (fun _ => by omega)) rfl ?_); refine W.is (t := 28) (av' := .int ((ks.length : Int) + 1)) rfl (congrArg AV.int (by rw [hlen7])) ?_; refine W.q (.move .k) rfl (.n (.h (.b ?_))); refine W.own_nil 83 1 ?_; refine W.loop (D := []) (ι := List Fit.Sv3 × Fit.Sv3) (fun z => [(29, true, .int (z.1.length : Int)), (28, true, .int ((ks.length : Int) + 1)), (7, true, .lit (.pointer (some ⟨b25, 0, none⟩))), (2, true, .sl 1 (ks.map fun k : Nat => AV.int (k : Int)))]) (fun z => .arr (Fit.slv z.2) 83 1 (z.1.map fun u : Fit.Sv3 => AV.lit (Fit.slv u)) :: .box b25 86 [.lit (.pointer (some ⟨b, 0, none⟩)), .sl 1 (A.next.map pav), .sl 1 (A.final.map AV.bool), .sl 1 (ks.map fun k : Nat => AV.int (k : Int)), .lit (Fit.slv z.2)] :: .box b 76 [.sl 3 (ts.map tpv), .sl 2 (as_.map Au.avx), .sl 1 (sz.map AV.int)] :: (z.1.map fun u : Fit.Sv3 => ME.arr (Fit.slv u) 82 3 (Fit.zrow (A.next.map pav).length))) (fun z => z.1.length ≤ ks.length + 1) (fun z => ks.length + 1 - z.1.length) ([], (none, 0, 0)) ⟨rfl, rfl, rfl, rfl, trivial⟩ (.refl _) (Nat.zero_le _) ?_
 rintro ⟨us, vr⟩ hus
 dsimp only at hus ⊢
 rcases (show us.length < ks.length + 1 ∨ us.length = ks.length + 1 from by omega) with hlt | hend
 ·have hnn : ((A.next.map pav).length : Int) = (A.next.length : Int) := by rw [hnl]
  refine W.s (.r (.q (.lti (.t rfl) (.t rfl)) rfl (.n (.h (.s ?_))))); refine W.isb 30 true rfl (by exact decide_eq_true (by omega)) ?_; refine W.condT (.t rfl) (.k (.h (.s (.b ?_)))); refine W.drawnM (fun ee c => (bif ee 13 then ME.arr (Fit.asSl (c 13).2) 83 1 ((us.map fun u : Fit.Sv3 => AV.lit (Fit.slv u)) ++ [.lit (Fit.asSl (c 11).2)]) else ME.arr (Fit.slv vr) 83 1 (us.map fun u : Fit.Sv3 => AV.lit (Fit.slv u))) :: ME.box b25 86 [.lit (.pointer (some ⟨b, 0, none⟩)), .sl 1 (A.next.map pav), .sl 1 (A.final.map AV.bool), .sl 1 (ks.map fun k : Nat => AV.int (k : Int)), (bif ee 16 then .lit (Fit.asSl (c 13).2) else .lit (Fit.slv vr))] :: ME.box b 76 [.sl 3 (ts.map tpv), .sl 2 (as_.map Au.avx), .sl 1 (sz.map AV.int)] :: ((bif ee 11 then [ME.arr (Fit.asSl (c 11).2) 82 3 (Fit.zrow (A.next.map pav).length)] else []) ++ (us.map fun u : Fit.Sv3 => ME.arr (Fit.slv u) 82 3 (Fit.zrow (A.next.map pav).length)))) (c0 := ks0) (by kernel_rfl) (by kernel_rfl) rfl ?_; refine DM.q (fun e c hk => (.move (.t rfl))) rfl (fun _ _ => rfl) (fun _ _ _ => rfl) (.q (fun e c hk => (.move (.t rfl))) rfl (fun _ _ => rfl) (fun _ _ _ => rfl) (.q (fun e c hk => (.nilc (.t rfl))) rfl (fun _ _ => rfl) (fun _ _ _ => rfl) (.q (fun e c hk => (.fab (.t rfl) fa86_3)) rfl (fun _ _ => rfl) (fun _ _ _ => rfl) ?_))); refine DM.q (av := fun _ => .lit (Fit.slv vr)) (fun e c hk => by have h := hk.down 16 (by kernel_rfl); simp only [h, cond_false]; exact Ev.ldb1 1 (.t rfl) rfl ag84 rfl) rfl (fun _ _ => rfl) (fun _ _ _ => rfl) ?_; refine DM.q (fun e c hk => (.move (.t rfl))) rfl (fun _ _ => rfl) (fun _ _ _ => rfl) (.q (fun e c hk => (.nilc (.t rfl))) rfl (fun _ _ => rfl) (fun _ _ _ => rfl) (.q (fun e c hk => (.fab (.t rfl) fa86_1)) rfl (fun _ _ => rfl) (fun _ _ _ => rfl) (.q (fun e c hk => (.fab (.t rfl) fa62_0)) rfl (fun _ _ => rfl) (fun _ _ _ => rfl) (.q (fun e c hk => (.ldb1 1 (.t rfl) rfl ag59 rfl)) rfl (fun _ _ => rfl) (fun _ _ _ => rfl) (.q (fun e c hk => (.lensl (.t rfl) Tryz.underlying59)) rfl (fun _ _ => rfl) (fun _ _ _ => rfl) ?_)))))
  refine DM.eff1 (av := fun c => .lit (Fit.asSl (c 11).2)) rfl (fun c c_ h => by (simp only [h 11 (by (exact .inl rfl))])) (fun e c hk L_ hs Q h => ?_) ?_
  ·have hk_11 := hk.not
   have hk_13 := hk.down 13 (by kernel_rfl)
   have hk_16 := hk.down 16 (by kernel_rfl)
   simp only [addE, upd, eq_self, List.nil_append, List.cons_append, List.append_nil, hk_11, hk_13, hk_16, Nat.reduceAdd, Nat.reduceEqDiff, ↓reduceIte, cond_true, cond_false] at h ⊢
   refine W.mk (n := (A.next.map pav).length) (.t (hs _ _ rfl)) (.t (hs _ _ rfl)) Tryz.underlying83 ty82 rfl rfl rfl rfl rfl (by omega) rfl (fun v => ?_); refine W.arr_inv 0 rfl (fun a n c2 hv => ?_)
   subst hv
   exact h (0, .slice a n c2) _ (List.perm_middle (l₁ := [_, _, _])).symm
  refine DM.bs (es := fun c => [.lit (Fit.asSl (c 11).2)]) Tryz.underlying84 ty83 (fun c => ⟨rfl, (.t rfl), Fit.okSl _, Fit.clSl _, trivial⟩) (fun _ => rfl) (by decide) rfl rfl (fun _ _ => rfl) (fun c c_ h => by (simp only [h 11 (by (exact .inr (by kernel_rfl)))])) ?_; refine DM.eff1 (av := fun c => .lit (Fit.asSl (c 13).2)) rfl (fun c c_ h => by (simp only [h 13 (by (exact .inl rfl))])) (fun e c hk L_ hs Q h => ?_) ?_
  ·have hk_11 := hk.up 11 (by kernel_rfl)
   have hk_13 := hk.not
   have hk_16 := hk.down 16 (by kernel_rfl)
   simp only [addE, upd, eq_self, List.nil_append, List.cons_append, List.append_nil, hk_11, hk_13, hk_16, Nat.reduceAdd, Nat.reduceEqDiff, ↓reduceIte, cond_true, cond_false] at h ⊢
   refine W.app 0 (.t (hs _ _ rfl)) rfl (.sl (.t (hs _ _ rfl)) (by intro e he; rw [List.mem_singleton.1 he]; exact Fit.okSl _)) Tryz.underlying84 ni84 ty83 rfl rfl (by rw [List.length_map]; simp only [List.length_cons, List.length_nil]; omega) rfl (fun v => ?_); refine W.arr_inv 0 rfl (fun a n c2 hv => ?_)
   subst hv
   exact h (0, .slice a n c2) _ (.refl _)
  refine DM.q (fun e c hk => (.nilc (.t rfl))) rfl (fun _ _ => rfl) (fun _ _ _ => rfl) (.q (fun e c hk => (.fab (.t rfl) fa86_3)) rfl (fun _ _ => rfl) (fun _ _ _ => rfl) ?_)
  refine DM.eff0 (fun e c hk L_ hs Q h => ?_) ?_
  ·have hk_11 := hk.up 11 (by kernel_rfl)
   have hk_13 := hk.up 13 (by kernel_rfl)
   have hk_16 := hk.not
   simp only [addE, upd, eq_self, List.nil_append, List.cons_append, List.append_nil, hk_11, hk_13, hk_16, Nat.reduceAdd, Nat.reduceEqDiff, ↓reduceIte, cond_true, cond_false] at h ⊢
   obtain ⟨q, hq⟩ := Fit.asSl_ex (c 13).2
   rw [hq] at h ⊢
   refine W.stb 1 (av := .lit (Fit.slv q)) (.t (hs _ _ rfl)) (by rw [← hq]; exact .t (hs _ _ rfl)) rfl ty84 rfl rfl rfl ?_
   exact h
  refine DM.nil (fun cc e_ he_ => ?_)
  simp only [he_ 11 (by decide), he_ 13 (by decide), he_ 16 (by decide), cond_true, cond_false]
  obtain ⟨u, hu⟩ := Fit.asSl_ex (cc 11).2
  obtain ⟨vr2, hvr2⟩ := Fit.asSl_ex (cc 13).2
  rw [hu, hvr2]
  refine W.bn (.h (.r (.q (.add (.t rfl) .k (fun _ => by omega)) rfl ?_)))
  refine W.q (.move (.t rfl)) rfl ?_; refine W.n ?_; refine W.h ?_; refine W.is (t := 29) (av' := .int (((us ++ [u]).length : Nat) : Int)) rfl (congrArg AV.int (by rw [List.length_append, List.length_singleton]; omega)) ?_; refine W.reach (D := []) (us ++ [u], vr2) ⟨rfl, rfl, rfl, rfl, trivial⟩ (by dsimp only; rw [List.append_nil, List.map_append, List.map_append]; exact .cons _ (.cons _ (.cons _ List.perm_append_comm))) ⟨by rw [List.length_append, List.length_singleton]; omega, by show ks.length + 1 - (us ++ [u]).length < ks.length + 1 - us.length; rw [List.length_append, List.length_singleton]; omega⟩
 ·obtain ⟨us, u, rfl⟩ : ∃ a b, us = a ++ [b] := ⟨us.dropLast, us.getLast (by intro h; rw [h] at hend; simp at hend), (List.dropLast_concat_getLast _).symm⟩
  rw [List.length_append, List.length_singleton] at hend
  have hul : us.length = ks.length := by omega
  rw [List.map_append, List.map_append]
  refine W.perm (M' := .arr (Fit.slv u) 82 3 ((List.replicate A.next.length Fit.cz).map Fit.ctv) :: .arr (Fit.slv vr) 83 1 ((us.map fun u : Fit.Sv3 => AV.lit (Fit.slv u)) ++ [.lit (Fit.slv u)]) :: .box b25 86 [.lit (.pointer (some ⟨b, 0, none⟩)), .sl 1 (A.next.map pav), .sl 1 (A.final.map AV.bool), .sl 1 (ks.map fun k : Nat => AV.int (k : Int)), .lit (Fit.slv vr)] :: .box b 76 [.sl 3 (ts.map tpv), .sl 2 (as_.map Au.avx), .sl 1 (sz.map AV.int)] :: (us.map fun u : Fit.Sv3 => ME.arr (Fit.slv u) 82 3 (Fit.zrow (A.next.map pav).length))) (by rw [← hzr]; exact List.perm_append_comm (l₁ := .arr (Fit.slv vr) 83 1 ((us.map fun u : Fit.Sv3 => AV.lit (Fit.slv u)) ++ [.lit (Fit.slv u)]) :: .box b25 86 [.lit (.pointer (some ⟨b, 0, none⟩)), .sl 1 (A.next.map pav), .sl 1 (A.final.map AV.bool), .sl 1 (ks.map fun k : Nat => AV.int (k : Int)), .lit (Fit.slv vr)] :: .box b 76 [.sl 3 (ts.map tpv), .sl 2 (as_.map Au.avx), .sl 1 (sz.map AV.int)] :: (us.map fun u : Fit.Sv3 => ME.arr (Fit.slv u) 82 3 (Fit.zrow (A.next.map pav).length))) (l₂ := [.arr (Fit.slv u) 82 3 (Fit.zrow (A.next.map pav).length)])) ?_
  have hkE : ((us.map fun u : Fit.Sv3 => AV.lit (Fit.slv u)) ++ [.lit (Fit.slv u)])[(ks.map fun k : Nat => AV.int (k : Int)).length]? = some (.lit (Fit.slv u)) := by rw [hlen7, ← hul, List.getElem?_append_right (by rw [List.length_map]; omega), List.length_map, Nat.sub_self]; rfl
  refine W.s (.r (.q (.lti (.t rfl) (.t rfl)) rfl (.n (.h (.s ?_))))); refine W.isb 30 false rfl (by exact decide_eq_false (by rw [List.length_append, List.length_singleton]; omega)) ?_; refine W.condF (.t rfl) (.ex (.he (.he (.bh (.h (.s (.s (.r (.mv rfl rfl (.q (.nilc (.t rfl)) rfl (.q (.fab (.t rfl) fa86_1) rfl (.q (.fab (.t rfl) fa62_1) rfl (.q (.ldb1 2 (.t rfl) rfl ag60 rfl) rfl (.q (.lensl (.t rfl) Tryz.underlying60) rfl (.q (.move .k) rfl (.n (.h (.b ?_)))))))))))))))))); refine W.loop (D := []) (ι := Nat × List Fit.Ct) (fun z => [(54, true, .int (z.1 : Int)), (53, true, .int ((A.final.map AV.bool).length : Int)), (52, true, .sl 1 (A.final.map AV.bool)), (7, true, .lit (.pointer (some ⟨b25, 0, none⟩))), (2, true, .sl 1 (ks.map fun k : Nat => AV.int (k : Int)))]) (fun z => .arr (Fit.slv u) 82 3 (z.2.map Fit.ctv) :: .arr (Fit.slv vr) 83 1 ((us.map fun u : Fit.Sv3 => AV.lit (Fit.slv u)) ++ [.lit (Fit.slv u)]) :: .box b25 86 [.lit (.pointer (some ⟨b, 0, none⟩)), .sl 1 (A.next.map pav), .sl 1 (A.final.map AV.bool), .sl 1 (ks.map fun k : Nat => AV.int (k : Int)), .lit (Fit.slv vr)] :: .box b 76 [.sl 3 (ts.map tpv), .sl 2 (as_.map Au.avx), .sl 1 (sz.map AV.int)] :: (us.map fun u : Fit.Sv3 => ME.arr (Fit.slv u) 82 3 (Fit.zrow (A.next.map pav).length))) (fun z => z.1 ≤ A.final.length ∧ Fit.RI A sz [] 0 z.2 ∧ ∀ j, j < z.1 → A.final.getD j false = true → (z.2.getD j Fit.cz).Le 0 0) (fun z => A.final.length - z.1) (0, List.replicate A.next.length Fit.cz) ⟨rfl, rfl, rfl, rfl, rfl, trivial⟩ (by ((rw [List.append_nil]; done))) ⟨Nat.zero_le _, .init A sz [] 0, fun j h => by cases h⟩ ?_
  rintro ⟨i, r⟩ ⟨hi, hri, hba⟩
  dsimp only at hi hri hba ⊢
  have hrlen := hri.len
  rcases (show i < A.final.length ∨ i = A.final.length from by omega) with hlt | hend2
  ·have hgf := getD_mapG AV.bool false A.final i hlt
   have hlt2 : i < A.next.length := by omega
   refine W.s (.r (.q (.lti (.t rfl) (.t rfl)) rfl (.n (.h (.s ?_))))); refine W.isb 55 true rfl (by exact decide_eq_true (by omega)) ?_; refine W.condT (.t rfl) (.k (.h (.s (.b (.s (.r (.mv rfl rfl ?_))))))); refine W.q (.at (E := 4) (.t rfl) (.t rfl) Tryz.underlying60 ty4 (fun _ => ⟨by omega, hgf⟩) rfl rfl) rfl ?_; refine W.q (.lde1 (.t rfl) ag4) rfl ?_
   refine W.q (.assign (.t rfl)) rfl ?_; refine W.q (.assign (.t rfl)) rfl ?_; refine W.n ?_; refine W.h ?_; refine W.s ?_; refine W.r ?_; refine W.q (.move (.t rfl)) rfl ?_; refine W.n ?_; refine W.h ?_; refine W.cond (.t rfl) (fun hc_t59 => ?_) (fun hc_t59 => ?_)
   ·have hfi : A.final.getD i false = true := hc_t59
    have hal : Fit.Al A sz i [] 0 0 := .done hfi
    have hri3 := hri.betR hlt2 hal (Int.le_refl _)
    have hl0 : i < r.length := by rw [hri.len]; exact hlt2
    have hmo3 := Fit.betR_mono r i 0 0 hl0
    refine W.r (.mv rfl rfl (.mv rfl rfl (.mv rfl rfl (.q (.lensl (.t rfl) Tryz.underlying22) rfl (.q (.build ty81 st81 rfl (fun hg => rfl)) rfl ?_))))); refine W.call (WFSmall.c_better b25 (.lit (.pointer (some ⟨b, 0, none⟩))) (.sl 1 (A.next.map pav)) (.sl 1 (A.final.map AV.bool)) (.sl 1 (ks.map fun k : Nat => AV.int (k : Int))) u.1 u.2.1 u.2.2 (Fit.slv vr) ((us.map fun u : Fit.Sv3 => AV.lit (Fit.slv u)) ++ [.lit (Fit.slv u)]) r i (ks.map fun k : Nat => AV.int (k : Int)).length 0 0 (by omega) hkE) ⟨(.t rfl), (.t rfl), (.t rfl), (.t rfl), trivial⟩ (.refl _) rfl ?_
    rintro _ _ ⟨rfl, rfl⟩
    refine W.n (.bn (.h (.r (.q (.add (.t rfl) .k (fun _ => by omega)) rfl ?_))))
    refine W.q (.move (.t rfl)) rfl ?_; refine W.n ?_; refine W.h ?_; refine W.reach (D := []) (i + 1, Fit.betR r i 0 0) ⟨rfl, rfl, rfl, rfl, rfl, trivial⟩ (by ((rw [List.append_nil]; exact .refl _))) ⟨⟨hlt, hri3, fun j hj hfj => ?_⟩, by show A.final.length - (i + 1) < A.final.length - i; omega⟩
    rcases Nat.lt_or_ge j i with h9 | h9
    ·exact hmo3 _ _ _ (hba j h9 hfj)
    ·obtain rfl : j = i := by omega
     exact Fit.betR_le r j 0 0 hl0
   ·have hfi : A.final.getD i false = false := hc_t59
    refine W.k (.bn (.h (.r (.q (.add (.t rfl) .k (fun _ => by omega)) rfl ?_))))
    refine W.q (.move (.t rfl)) rfl ?_; refine W.n ?_; refine W.h ?_; refine W.reach (D := []) (i + 1, r) ⟨rfl, rfl, rfl, rfl, rfl, trivial⟩ (by ((rw [List.append_nil]; done))) ⟨⟨hlt, hri, fun j hj hfj => ?_⟩, by show A.final.length - (i + 1) < A.final.length - i; omega⟩
    rcases Nat.lt_or_ge j i with h9 | h9
    ·exact hba j h9 hfj
    ·obtain rfl : j = i := by omega
     rw [hfi] at hfj; cases hfj
  ·subst hend2
   refine W.s (.r (.q (.lti (.t rfl) (.t rfl)) rfl (.n (.h (.s ?_))))); refine W.isb 55 false rfl (by exact decide_eq_false (by omega)) ?_; refine W.condF (.t rfl) (.ex (.he (.he (.bh (.h (.s (.r (.mv rfl rfl (.mv rfl rfl (.q (.lensl (.t rfl) Tryz.underlying22) rfl ?_)))))))))); refine W.call (WFFill.c_fill b ts as_ sz A hsh hn hz hcol b25 (.sl 1 (ks.map fun k : Nat => AV.int (k : Int))) u.1 u.2.1 u.2.2 (Fit.slv vr) ((us.map fun u : Fit.Sv3 => AV.lit (Fit.slv u)) ++ [.lit (Fit.slv u)]) (ks.map fun k : Nat => AV.int (k : Int)).length hkE [] (by ((simp only [List.length_cons, List.length_drop, List.length_nil]; omega))) 0 (by omega) (by omega) r hri) ⟨(.t rfl), (.t rfl), trivial⟩ (.refl _) rfl ?_
   rintro _ _ ⟨rfl, r2, hri2, hfx2, hmo2, rfl⟩
   refine W.n (.h (.s (.s (.r (.mv rfl rfl (.q (.lensl (.t rfl) Tryz.underlying22) rfl (.q (.sub (.t rfl) .k (fun _ => by omega)) rfl ?_))))))); refine W.is (t := 73) (av' := .int ((us.length : Int) - 1)) rfl (congrArg AV.int (by rw [hlen7, hul])) ?_; refine W.asg rfl rfl (.n (.h (.b ?_))); refine W.freezeA (M1 := .arr (Fit.slv vr) 83 1 ((us.map fun u : Fit.Sv3 => AV.lit (Fit.slv u)) ++ [.lit (Fit.slv u)]) :: .box b25 86 [.lit (.pointer (some ⟨b, 0, none⟩)), .sl 1 (A.next.map pav), .sl 1 (A.final.map AV.bool), .sl 1 (ks.map fun k : Nat => AV.int (k : Int)), .lit (Fit.slv vr)] :: .box b 76 [.sl 3 (ts.map tpv), .sl 2 (as_.map Au.avx), .sl 1 (sz.map AV.int)] :: (us.map fun u : Fit.Sv3 => ME.arr (Fit.slv u) 82 3 (Fit.zrow (A.next.map pav).length))) (M2 := .arr (Fit.slv vr) 83 1 ((us.map fun u : Fit.Sv3 => AV.lit (Fit.slv u)) ++ [r2].map Fit.rowv) :: .box b25 86 [.lit (.pointer (some ⟨b, 0, none⟩)), .sl 1 (A.next.map pav), .sl 1 (A.final.map AV.bool), .sl 1 (ks.map fun k : Nat => AV.int (k : Int)), .lit (Fit.slv vr)] :: .box b 76 [.sl 3 (ts.map tpv), .sl 2 (as_.map Au.avx), .sl 1 (sz.map AV.int)] :: (us.map fun u : Fit.Sv3 => ME.arr (Fit.slv u) 82 3 (Fit.zrow (A.next.map pav).length))) (D := []) (v := Fit.slv u) (L' := []) (by ((rw [List.append_nil]; exact .refl _))) trivial ⟨.arr (FrzL.append (FrzL.refl _) ⟨.hit, trivial⟩), FrzMs.refl _⟩ ?_
   have hT0 := Fit.Tail.last hz hsh hn ks hri2 hfx2 (fun i hi hfi => hmo2 i 0 0 (hba i (by omega) hfi))
   rw [← hul] at hT0
   clear hend hul hkE hri hba hri2 hfx2 hmo2
   refine W.loop (D := []) (ι := List Fit.Sv3 × List (List Fit.Ct)) (fun z => [(10, true, .int ((z.1.length : Int) - 1)), (7, true, .lit (.pointer (some ⟨b25, 0, none⟩))), (2, true, .sl 1 (ks.map fun k : Nat => AV.int (k : Int)))]) (fun z => .arr (Fit.slv vr) 83 1 ((z.1.map fun u : Fit.Sv3 => AV.lit (Fit.slv u)) ++ z.2.map Fit.rowv) :: .box b25 86 [.lit (.pointer (some ⟨b, 0, none⟩)), .sl 1 (A.next.map pav), .sl 1 (A.final.map AV.bool), .sl 1 (ks.map fun k : Nat => AV.int (k : Int)), .lit (Fit.slv vr)] :: .box b 76 [.sl 3 (ts.map tpv), .sl 2 (as_.map Au.avx), .sl 1 (sz.map AV.int)] :: (z.1.map fun u : Fit.Sv3 => ME.arr (Fit.slv u) 82 3 (Fit.zrow (A.next.map pav).length))) (fun z => Fit.Tail A sz ks z.1.length z.2 ∧ 0 < z.2.length) (fun z => z.1.length) (us, [r2]) ⟨rfl, rfl, rfl, trivial⟩ (by ((rw [List.append_nil]; done))) ⟨hT0, Nat.one_pos⟩ ?_
   clear hT0
   rintro ⟨us, fr⟩ ⟨hT, hfr⟩
   dsimp only at hT hfr ⊢
   have hTl := hT.len
   rcases (show 0 < us.length ∨ us = [] from by cases us; exact .inr rfl; exact .inl (by simp)) with hlt | rfl
   ·obtain ⟨us, u, rfl⟩ : ∃ a b, us = a ++ [b] := ⟨us.dropLast, us.getLast (by intro h; rw [h] at hlt; simp at hlt), (List.dropLast_concat_getLast _).symm⟩
    rw [List.length_append, List.length_singleton] at hT hTl
    rw [List.map_append, List.map_append, List.append_assoc]
    refine W.is (t := 10) (av' := .int (us.length : Int)) rfl (congrArg AV.int (by rw [List.length_append, List.length_singleton]; omega)) ?_; refine W.perm (M' := .arr (Fit.slv u) 82 3 ((List.replicate A.next.length Fit.cz).map Fit.ctv) :: .arr (Fit.slv vr) 83 1 ((us.map fun u : Fit.Sv3 => AV.lit (Fit.slv u)) ++ (.lit (Fit.slv u) :: (fr.map Fit.rowv))) :: .box b25 86 [.lit (.pointer (some ⟨b, 0, none⟩)), .sl 1 (A.next.map pav), .sl 1 (A.final.map AV.bool), .sl 1 (ks.map fun k : Nat => AV.int (k : Int)), .lit (Fit.slv vr)] :: .box b 76 [.sl 3 (ts.map tpv), .sl 2 (as_.map Au.avx), .sl 1 (sz.map AV.int)] :: (us.map fun u : Fit.Sv3 => ME.arr (Fit.slv u) 82 3 (Fit.zrow (A.next.map pav).length))) (by rw [← hzr]; exact List.perm_append_comm (l₁ := .arr (Fit.slv vr) 83 1 ((us.map fun u : Fit.Sv3 => AV.lit (Fit.slv u)) ++ (.lit (Fit.slv u) :: (fr.map Fit.rowv))) :: .box b25 86 [.lit (.pointer (some ⟨b, 0, none⟩)), .sl 1 (A.next.map pav), .sl 1 (A.final.map AV.bool), .sl 1 (ks.map fun k : Nat => AV.int (k : Int)), .lit (Fit.slv vr)] :: .box b 76 [.sl 3 (ts.map tpv), .sl 2 (as_.map Au.avx), .sl 1 (sz.map AV.int)] :: (us.map fun u : Fit.Sv3 => ME.arr (Fit.slv u) 82 3 (Fit.zrow (A.next.map pav).length))) (l₂ := [.arr (Fit.slv u) 82 3 (Fit.zrow (A.next.map pav).length)])) ?_
    have hul : us.length < ks.length := by omega
    obtain ⟨kk, hkk⟩ : ∃ z, ks.getD us.length 0 = z := ⟨_, rfl⟩
    have hkm : kk ∈ ks := by rw [← hkk, List.getD_eq_getElem?_getD, List.getElem?_eq_getElem hul]; exact List.getElem_mem _
    have hkk8 := hk8 kk hkm
    have hgk : (ks.map fun k : Nat => AV.int (k : Int))[us.length]? = some (AV.int (kk : Int)) := by rw [List.getElem?_map, ← hkk, List.getD_eq_getElem?_getD, List.getElem?_eq_getElem hul]; rfl
    have hdk : ks.drop us.length = kk :: ks.drop (us.length + 1) := by rw [← hkk, List.getD_eq_getElem?_getD, List.getElem?_eq_getElem hul]; exact List.drop_eq_getElem_cons hul
    obtain ⟨nx, hnx⟩ : ∃ z, fr.getD 0 [] = z := ⟨_, rfl⟩
    have hnxl : nx.length = A.next.length := by rw [← hnx]; exact hT.row 0 hfr
    have hbest : ∀ i, i < A.next.length → Fit.Best A sz i (ks.drop (us.length + 1)) (nx.getD i Fit.cz) := fun i hi => by rw [← hnx]; exact hT.best 0 hfr i hi
    have htb : ∀ i, i < A.next.length → (nx.getD i Fit.cz).ok = true → 0 ≤ (nx.getD i Fit.cz).d ∧ (nx.getD i Fit.cz).d ≤ ks.length ∧ 0 ≤ (nx.getD i Fit.cz).f ∧ (nx.getD i Fit.cz).f ≤ 4800 * ((ks.length : Int) - (us.length : Int)) := fun i hi h => by have := hT.b 0 hfr i hi (by rw [hnx]; exact h); rw [hnx] at this; omega
    have hesl : ((us.map fun u : Fit.Sv3 => AV.lit (Fit.slv u)) ++ (.lit (Fit.slv u) :: (fr.map Fit.rowv))).length = us.length + 1 + fr.length := by simp; omega
    have hkE : ((us.map fun u : Fit.Sv3 => AV.lit (Fit.slv u)) ++ (.lit (Fit.slv u) :: (fr.map Fit.rowv)))[us.length]? = some (.lit (Fit.slv u)) := by rw [List.getElem?_append_right (by rw [List.length_map]; omega), List.length_map, Nat.sub_self]; rfl
    have hkF : ((us.map fun u : Fit.Sv3 => AV.lit (Fit.slv u)) ++ (.lit (Fit.slv u) :: (fr.map Fit.rowv)))[us.length + 1]? = some (Fit.rowv nx) := by rw [List.getElem?_append_right (by rw [List.length_map]; omega), List.length_map, show us.length + 1 - us.length = 1 from by omega, List.getElem?_cons_succ, ← hnx]; exact getD_mapG Fit.rowv [] fr 0 hfr
    have hnxm : (nx.map Fit.ctv).length = A.next.length := by rw [List.length_map]; exact hnxl
    refine W.s (.s (.r (.mv rfl rfl (.q (.gei (.t rfl) .k) rfl (.n (.h ?_)))))); refine W.isb 75 true rfl (by exact decide_eq_true (by omega)) ?_; refine W.condT (.t rfl) (.k (.h (.s (.b (.s (.s (.r (.mv rfl rfl (.q (.nilc (.t rfl)) rfl (.q (.fab (.t rfl) fa86_1) rfl (.q (.fab (.t rfl) fa62_0) rfl (.q (.ldb1 2 (.t rfl) rfl ag59 rfl) rfl (.q (.lensl (.t rfl) Tryz.underlying59) rfl (.q (.move .k) rfl (.n (.h (.b ?_))))))))))))))))); refine W.loop (D := []) (ι := Nat × List Fit.Ct) (fun z => [(84, true, .int (z.1 : Int)), (83, true, .int ((A.next.map pav).length : Int)), (82, true, .sl 1 (A.next.map pav)), (10, true, .int (us.length : Int)), (7, true, .lit (.pointer (some ⟨b25, 0, none⟩))), (2, true, .sl 1 (ks.map fun k : Nat => AV.int (k : Int)))]) (fun z => .arr (Fit.slv u) 82 3 (z.2.map Fit.ctv) :: .arr (Fit.slv vr) 83 1 ((us.map fun u : Fit.Sv3 => AV.lit (Fit.slv u)) ++ (.lit (Fit.slv u) :: (fr.map Fit.rowv))) :: .box b25 86 [.lit (.pointer (some ⟨b, 0, none⟩)), .sl 1 (A.next.map pav), .sl 1 (A.final.map AV.bool), .sl 1 (ks.map fun k : Nat => AV.int (k : Int)), .lit (Fit.slv vr)] :: .box b 76 [.sl 3 (ts.map tpv), .sl 2 (as_.map Au.avx), .sl 1 (sz.map AV.int)] :: (us.map fun u : Fit.Sv3 => ME.arr (Fit.slv u) 82 3 (Fit.zrow (A.next.map pav).length))) (fun z => z.1 ≤ A.next.length ∧ Fit.RI A sz (kk :: ks.drop (us.length + 1)) (4800 * ((ks.length : Int) - (us.length : Int))) z.2 ∧ Fit.Bs A kk nx z.2 z.1) (fun z => A.next.length - z.1) (0, List.replicate A.next.length Fit.cz) ⟨rfl, rfl, rfl, rfl, rfl, rfl, trivial⟩ (by ((rw [List.append_nil]; done))) ⟨Nat.zero_le _, .init A sz _ _, fun i h => absurd h (Nat.not_lt_zero _)⟩ ?_
    rintro ⟨i, r⟩ ⟨hi, hri, hBs⟩
    dsimp only at hi hri hBs ⊢
    have hrlen := hri.len
    obtain ⟨to, hto⟩ : ∃ z, Fit.tr A i kk = z := ⟨_, rfl⟩
    rcases (show (i < A.next.length ∧ to < 0) ∨ (i < A.next.length ∧ 0 ≤ to) ∨ i = A.next.length from by omega) with ⟨hlt, hneg⟩ | ⟨hlt, hpos⟩ | hend
    ·have hgr := getD_mapG pav [] A.next i hlt
     have hr8 := hsh.row i hlt
     have hgx : ((A.next.getD i []).map AV.int)[((kk : Int)).toNat]? = some (AV.int to) := by rw [Int.toNat_natCast, List.getElem?_map, ← hto]; unfold Fit.tr; rw [List.getD_eq_getElem?_getD (l := A.next.getD i []), List.getElem?_eq_getElem (show kk < (A.next.getD i []).length by omega)]; rfl
     have hrl : ((A.next.getD i []).map AV.int).length = 8 := by rw [List.length_map]; exact hr8
     have hgi := Fit.getD_ctv nx i (by omega)
     generalize A.next.getD i [] = rw_ at hgr hr8 hgx hrl
     have hri1 := hri
     have hm1 : ∀ j d f, (r.getD j Fit.cz).Le d f → (r.getD j Fit.cz).Le d f := fun _ _ _ h => h
     have hk1 : 0 ≤ Fit.tr A i kk → (nx.getD (Fit.tr A i kk).toNat Fit.cz).ok = true → (r.getD i Fit.cz).Le (nx.getD (Fit.tr A i kk).toNat Fit.cz).d (nx.getD (Fit.tr A i kk).toNat Fit.cz).f := fun h h2 => by rw [hto] at h h2; omega
     refine W.s (.r (.q (.lti (.t rfl) (.t rfl)) rfl (.n (.h (.s ?_))))); refine W.isb 85 true rfl (by exact decide_eq_true (by omega)) ?_; refine W.condT (.t rfl) (.k (.h (.s (.b (.s (.r (.mv rfl rfl ?_))))))); refine W.q (.at (E := 22) (.t rfl) (.t rfl) Tryz.underlying59 ty22 (fun hg => ⟨by omega, hgr⟩) rfl rfl) rfl ?_; refine W.q (.lde1 (.t rfl) ag22) rfl (.asg rfl rfl (.asg rfl rfl (.n (.h (.s (.s (.r (.mv rfl rfl (.mv rfl rfl (.mv rfl rfl ?_)))))))))); refine W.q (.at (E := 3) (.t rfl) (.t rfl) Tryz.underlying22 ty3 (fun hg => ⟨by omega, hgk⟩) rfl rfl) rfl ?_; refine W.q (.lde1 (.t rfl) ag3) rfl ?_; refine W.q (.at (E := 3) (.t rfl) (.t rfl) Tryz.underlying22 ty3 (fun hg => ⟨by omega, hgx⟩) rfl rfl) rfl ?_; refine W.q (.lde1 (.t rfl) ag3) rfl (.asg rfl rfl (.n (.h (.s (.r (.mv rfl rfl (.q (.gei (.t rfl) .k) rfl (.mv rfl rfl ?_)))))))); refine W.is (t := 98) (av' := .bool false) rfl (congrArg AV.bool (decide_eq_false (by omega))) ?_; refine W.gnob rfl rfl (by simp) rfl ?_; refine W.gnob rfl rfl (by simp) rfl ?_; refine W.gnob rfl rfl (by simp) rfl ?_; refine W.gnob rfl rfl (by simp) rfl ?_; refine W.gnob rfl rfl (by simp) rfl ?_; refine W.gnob rfl rfl (by simp) rfl ?_; refine W.gnob rfl rfl (by simp) rfl ?_; refine W.gnob rfl rfl (by simp) rfl ?_; refine W.gnob rfl rfl (by simp) rfl ?_; refine W.gnob rfl rfl (by simp) rfl ?_; refine W.gnob rfl rfl (by simp) rfl ?_; refine W.gnob rfl rfl (by simp) rfl ?_; refine W.q (.andF (.t rfl)) rfl (.n (.h (.condF (.t rfl) (.k (.h (.s (.r (.mv rfl rfl (.q (.nilc (.t rfl)) rfl (.q (.fab (.t rfl) fa86_3) rfl (.q (.ldb1 2 (.t rfl) rfl ag84 rfl) rfl (.mv rfl rfl (.q (.add (.t rfl) .k (fun _ => by omega)) rfl (.q (.ata 1 (.t rfl) rfl (.t rfl) Tryz.underlying84 ty83 (fun _ => by omega)) rfl (.q (.lda1 1 (us.length + 1) 0 (.t rfl) rfl hkF (by omega) rfl rfl rfl ag83) rfl (.mv rfl rfl ?_)))))))))))))))); refine W.q (.at (E := 82) (.t rfl) (.t rfl) Tryz.underlying83 ty82 (fun hg => ⟨by omega, hgi⟩) rfl rfl) rfl ?_; refine W.q (.lden (.t rfl) ag82 ty82 rfl rfl) rfl ?_
     refine W.alloc ty82 rfl rfl ?_; intro b14
     refine W.stb 0 (.t rfl) (.t rfl) rfl ty82 rfl rfl rfl (.n (.h (.s (.r (.q (.fab (.t rfl) fa82_1) rfl (.q (.ldb1 0 (.t rfl) rfl ag4 rfl) rfl ?_))))))
     refine W.n ?_; refine W.h ?_; refine W.cond (.t rfl) (fun hc_t140 => ?_) (fun hc_t140 => ?_)
     ·have hok1 : (nx.getD i Fit.cz).ok = true := hc_t140
      have hb1 := htb i hlt hok1
      have hal1 : Fit.Al A sz i (kk :: ks.drop (us.length + 1)) ((nx.getD i Fit.cz).d + 1) (nx.getD i Fit.cz).f := .drop ((hbest i hlt).al hok1)
      have hri2 := hri1.betR hlt hal1 (by omega)
      have hl1 : i < r.length := by rw [hri1.len]; exact hlt
      have hmo2 := Fit.betR_mono r i ((nx.getD i Fit.cz).d + 1) (nx.getD i Fit.cz).f hl1
      have hm2 := fun j d f h => hmo2 j d f (hm1 j d f h)
      have hk2 := fun a b => hmo2 _ _ _ (hk1 a b)
      have hd2 := fun _ : (nx.getD i Fit.cz).ok = true => Fit.betR_le r i ((nx.getD i Fit.cz).d + 1) (nx.getD i Fit.cz).f hl1
      have hplus : FnP Tryz.prog 60 [.agg [.int (nx.getD i Fit.cz).d, .int (nx.getD i Fit.cz).f], .agg [.int 1, .int 0]] (.agg [.int ((nx.getD i Fit.cz).d + 1), .int (nx.getD i Fit.cz).f]) := by have := WFSmall.c_plus (nx.getD i Fit.cz).d (nx.getD i Fit.cz).f 1 0 ⟨⟨by omega, by omega⟩, ⟨by omega, by omega⟩, ⟨by omega, by omega⟩, by omega, by omega⟩; rwa [Int.add_zero] at this
      refine W.r (.mv rfl rfl (.mv rfl rfl (.mv rfl rfl (.q (.fab (.t rfl) fa82_0) rfl (.q (.ldbn 0 (.t rfl) rfl ag81 ty81 rfl) rfl ?_)))))
      refine W.q (.build ty81 st81 rfl (fun hg => ⟨_, _, _, rfl, .k, rfl, rfl, rfl, _, _, _, rfl, .k, rfl, rfl, rfl, rfl⟩)) rfl ?_; refine W.callp (hplus) ⟨(.t rfl), (.t rfl), trivial⟩ rfl ?_; refine W.call (WFSmall.c_better b25 (.lit (.pointer (some ⟨b, 0, none⟩))) (.sl 1 (A.next.map pav)) (.sl 1 (A.final.map AV.bool)) (.sl 1 (ks.map fun k : Nat => AV.int (k : Int))) u.1 u.2.1 u.2.2 (Fit.slv vr) ((us.map fun u : Fit.Sv3 => AV.lit (Fit.slv u)) ++ (.lit (Fit.slv u) :: (fr.map Fit.rowv))) r i us.length ((nx.getD i Fit.cz).d + 1) (nx.getD i Fit.cz).f (by omega) hkE) ⟨(.t rfl), (.t rfl), (.t rfl), (.t rfl), trivial⟩ (((List.perm_middle (l₁ := [_])).trans <| List.Perm.cons _ <| (List.perm_middle (l₁ := [_])).trans <| List.Perm.cons _ <| (List.perm_middle (l₁ := [_])).trans <| List.Perm.cons _ <| List.Perm.cons _ <| .refl _)) rfl ?_
      rintro _ _ ⟨rfl, rfl⟩
      refine W.n (.bn (.h (.r (.q (.add (.t rfl) .k (fun _ => by omega)) rfl ?_))))
      refine W.q (.move (.t rfl)) rfl ?_; refine W.n ?_; refine W.h ?_; refine W.reach (D := [_]) (i + 1, (Fit.betR r i ((nx.getD i Fit.cz).d + 1) (nx.getD i Fit.cz).f)) ⟨rfl, rfl, rfl, rfl, rfl, rfl, trivial⟩ (by dsimp only; exact (List.Perm.cons _ <| List.Perm.cons _ <| List.Perm.cons _ <| List.perm_append_comm (l₁ := [_])) ) ⟨⟨hlt, hri2, hBs.next hm2 hk2 hd2⟩, by show A.next.length - (i + 1) < A.next.length - i; omega⟩
     ·have hok1 : (nx.getD i Fit.cz).ok = false := hc_t140
      have hri2 := hri1
      have hm2 := hm1
      have hk2 := hk1
      have hd2 : (nx.getD i Fit.cz).ok = true → (r.getD i Fit.cz).Le ((nx.getD i Fit.cz).d + 1) (nx.getD i Fit.cz).f := fun h => by rw [hok1] at h; cases h
      refine W.k (.bn (.h (.r (.q (.add (.t rfl) .k (fun _ => by omega)) rfl ?_))))
      refine W.q (.move (.t rfl)) rfl ?_; refine W.n ?_; refine W.h ?_; refine W.perm (M' := .arr (Fit.slv u) 82 3 (r.map Fit.ctv) :: .arr (Fit.slv vr) 83 1 ((us.map fun u : Fit.Sv3 => AV.lit (Fit.slv u)) ++ (.lit (Fit.slv u) :: (fr.map Fit.rowv))) :: .box b25 86 [.lit (.pointer (some ⟨b, 0, none⟩)), .sl 1 (A.next.map pav), .sl 1 (A.final.map AV.bool), .sl 1 (ks.map fun k : Nat => AV.int (k : Int)), .lit (Fit.slv vr)] :: .box b14 82 (Fit.ctv (nx.getD i Fit.cz)).cells :: .box b 76 [.sl 3 (ts.map tpv), .sl 2 (as_.map Au.avx), .sl 1 (sz.map AV.int)] :: (us.map fun u : Fit.Sv3 => ME.arr (Fit.slv u) 82 3 (Fit.zrow (A.next.map pav).length))) ((List.perm_middle (l₁ := [_])).trans <| List.Perm.cons _ <| (List.perm_middle (l₁ := [_])).trans <| List.Perm.cons _ <| (List.perm_middle (l₁ := [_])).trans <| List.Perm.cons _ <| List.Perm.cons _ <| .refl _) ?_; refine W.reach (D := [_]) (i + 1, r) ⟨rfl, rfl, rfl, rfl, rfl, rfl, trivial⟩ (by dsimp only; exact (List.Perm.cons _ <| List.Perm.cons _ <| List.Perm.cons _ <| List.perm_append_comm (l₁ := [_])) ) ⟨⟨hlt, hri2, hBs.next hm2 hk2 hd2⟩, by show A.next.length - (i + 1) < A.next.length - i; omega⟩
    ·have hgr := getD_mapG pav [] A.next i hlt
     have hr8 := hsh.row i hlt
     have hgx : ((A.next.getD i []).map AV.int)[((kk : Int)).toNat]? = some (AV.int to) := by rw [Int.toNat_natCast, List.getElem?_map, ← hto]; unfold Fit.tr; rw [List.getD_eq_getElem?_getD (l := A.next.getD i []), List.getElem?_eq_getElem (show kk < (A.next.getD i []).length by omega)]; rfl
     have hrl : ((A.next.getD i []).map AV.int).length = 8 := by rw [List.length_map]; exact hr8
     have hgi := Fit.getD_ctv nx i (by omega)
     generalize A.next.getD i [] = rw_ at hgr hr8 hgx hrl
     have htl : to.toNat < A.next.length := by have := Fit.tr_lt hsh hlt (n := kk) (by rw [hto]; exact hpos); rw [hto] at this; exact this.1
     have hgto := Fit.getD_ctv nx to.toNat (by omega)
     refine W.s (.r (.q (.lti (.t rfl) (.t rfl)) rfl (.n (.h (.s ?_))))); refine W.isb 85 true rfl (by exact decide_eq_true (by omega)) ?_; refine W.condT (.t rfl) (.k (.h (.s (.b (.s (.r (.mv rfl rfl ?_))))))); refine W.q (.at (E := 22) (.t rfl) (.t rfl) Tryz.underlying59 ty22 (fun hg => ⟨by omega, hgr⟩) rfl rfl) rfl ?_; refine W.q (.lde1 (.t rfl) ag22) rfl (.asg rfl rfl (.asg rfl rfl (.n (.h (.s (.s (.r (.mv rfl rfl (.mv rfl rfl (.mv rfl rfl ?_)))))))))); refine W.q (.at (E := 3) (.t rfl) (.t rfl) Tryz.underlying22 ty3 (fun hg => ⟨by omega, hgk⟩) rfl rfl) rfl ?_; refine W.q (.lde1 (.t rfl) ag3) rfl ?_; refine W.q (.at (E := 3) (.t rfl) (.t rfl) Tryz.underlying22 ty3 (fun hg => ⟨by omega, hgx⟩) rfl rfl) rfl ?_; refine W.q (.lde1 (.t rfl) ag3) rfl (.asg rfl rfl (.n (.h (.s (.r (.mv rfl rfl (.q (.gei (.t rfl) .k) rfl (.mv rfl rfl ?_)))))))); refine W.is (t := 98) (av' := .bool true) rfl (congrArg AV.bool (decide_eq_true (by omega))) ?_; refine W.gyes rfl rfl (.mv rfl rfl (.gyes rfl rfl (.q (.nilc (.t rfl)) rfl (.gyes rfl rfl (.q (.fab (.t rfl) fa86_3) rfl (.gyes rfl rfl (.q (.ldb1 2 (.t rfl) rfl ag84 rfl) rfl (.gyes rfl rfl (.mv rfl rfl (.gyes rfl rfl (.q (.add (.t rfl) .k (fun _ => by omega)) rfl (.gyes rfl rfl (.q (.ata 1 (.t rfl) rfl (.t rfl) Tryz.underlying84 ty83 (fun _ => by omega)) rfl (.gyes rfl rfl (.q (.lda1 1 (us.length + 1) 0 (.t rfl) rfl hkF (by omega) rfl rfl rfl ag83) rfl (.gyes rfl rfl (.mv rfl rfl (.gyes rfl rfl ?_)))))))))))))))))); refine W.q (.at (E := 82) (.t rfl) (.t rfl) Tryz.underlying83 ty82 (fun hg => ⟨by omega, hgto⟩) rfl rfl) rfl ?_; refine W.gyes rfl rfl (.q (.fae (.t rfl) fa82_1 rfl) rfl (.gyes rfl rfl (.q (.lde1 (.t rfl) ag4) rfl ?_)))
     refine W.q (.as_ (.and (.t rfl) ⟨_, _, rfl, rfl, fun _ _ => rfl⟩) (Eq.refl (AV.bool (nx.getD to.toNat Fit.cz).ok))) rfl ?_; refine W.n ?_; refine W.h ?_; refine W.cond (.t rfl) (fun hc_t111 => ?_) (fun hc_t111 => ?_)
     ·have hok0 : (nx.getD to.toNat Fit.cz).ok = true := hc_t111
      have hb0 := htb _ htl hok0
      have hal0 : Fit.Al A sz i (kk :: ks.drop (us.length + 1)) (nx.getD to.toNat Fit.cz).d (nx.getD to.toNat Fit.cz).f := .keep (by rw [hto]; exact hpos) (by rw [hto]; exact (hbest _ htl).al hok0)
      have hri1 := hri.betR hlt hal0 (by omega)
      have hl0 : i < r.length := by rw [hri.len]; exact hlt
      have hm1 := Fit.betR_mono r i (nx.getD to.toNat Fit.cz).d (nx.getD to.toNat Fit.cz).f hl0
      have hk1 : 0 ≤ Fit.tr A i kk → (nx.getD (Fit.tr A i kk).toNat Fit.cz).ok = true → ((Fit.betR r i (nx.getD to.toNat Fit.cz).d (nx.getD to.toNat Fit.cz).f).getD i Fit.cz).Le (nx.getD (Fit.tr A i kk).toNat Fit.cz).d (nx.getD (Fit.tr A i kk).toNat Fit.cz).f := fun _ _ => by rw [hto]; exact Fit.betR_le r i _ _ hl0
      refine W.r (.mv rfl rfl (.mv rfl rfl (.mv rfl rfl (.mv rfl rfl (.q (.nilc (.t rfl)) rfl (.q (.fab (.t rfl) fa86_3) rfl (.q (.ldb1 2 (.t rfl) rfl ag84 rfl) rfl (.mv rfl rfl (.q (.add (.t rfl) .k (fun _ => by omega)) rfl (.q (.ata 1 (.t rfl) rfl (.t rfl) Tryz.underlying84 ty83 (fun _ => by omega)) rfl (.q (.lda1 1 (us.length + 1) 0 (.t rfl) rfl hkF (by omega) rfl rfl rfl ag83) rfl (.mv rfl rfl ?_)))))))))))); refine W.q (.at (E := 82) (.t rfl) (.t rfl) Tryz.underlying83 ty82 (fun hg => ⟨by omega, hgto⟩) rfl rfl) rfl ?_; refine W.q (.fae (.t rfl) fa82_0 rfl) rfl (.q (.lden (.t rfl) ag81 ty81 rfl rfl) rfl ?_); refine W.call (WFSmall.c_better b25 (.lit (.pointer (some ⟨b, 0, none⟩))) (.sl 1 (A.next.map pav)) (.sl 1 (A.final.map AV.bool)) (.sl 1 (ks.map fun k : Nat => AV.int (k : Int))) u.1 u.2.1 u.2.2 (Fit.slv vr) ((us.map fun u : Fit.Sv3 => AV.lit (Fit.slv u)) ++ (.lit (Fit.slv u) :: (fr.map Fit.rowv))) r i us.length (nx.getD to.toNat Fit.cz).d (nx.getD to.toNat Fit.cz).f (by omega) hkE) ⟨(.t rfl), (.t rfl), (.t rfl), (.t rfl), trivial⟩ (.refl _) rfl ?_
      rintro _ _ ⟨rfl, rfl⟩
      refine W.n (.h (.s (.r (.mv rfl rfl (.q (.nilc (.t rfl)) rfl (.q (.fab (.t rfl) fa86_3) rfl (.q (.ldb1 2 (.t rfl) rfl ag84 rfl) rfl (.mv rfl rfl (.q (.add (.t rfl) .k (fun _ => by omega)) rfl (.q (.ata 1 (.t rfl) rfl (.t rfl) Tryz.underlying84 ty83 (fun _ => by omega)) rfl (.q (.lda1 1 (us.length + 1) 0 (.t rfl) rfl hkF (by omega) rfl rfl rfl ag83) rfl (.mv rfl rfl ?_)))))))))))); refine W.q (.at (E := 82) (.t rfl) (.t rfl) Tryz.underlying83 ty82 (fun hg => ⟨by omega, hgi⟩) rfl rfl) rfl ?_; refine W.q (.lden (.t rfl) ag82 ty82 rfl rfl) rfl ?_
      refine W.alloc ty82 rfl rfl ?_; intro b14
      refine W.stb 0 (.t rfl) (.t rfl) rfl ty82 rfl rfl rfl (.n (.h (.s (.r (.q (.fab (.t rfl) fa82_1) rfl (.q (.ldb1 0 (.t rfl) rfl ag4 rfl) rfl ?_))))))
      refine W.n ?_; refine W.h ?_; refine W.cond (.t rfl) (fun hc_t140 => ?_) (fun hc_t140 => ?_)
      ·have hok1 : (nx.getD i Fit.cz).ok = true := hc_t140
       have hb1 := htb i hlt hok1
       have hal1 : Fit.Al A sz i (kk :: ks.drop (us.length + 1)) ((nx.getD i Fit.cz).d + 1) (nx.getD i Fit.cz).f := .drop ((hbest i hlt).al hok1)
       have hri2 := hri1.betR hlt hal1 (by omega)
       have hl1 : i < (Fit.betR r i (nx.getD to.toNat Fit.cz).d (nx.getD to.toNat Fit.cz).f).length := by rw [hri1.len]; exact hlt
       have hmo2 := Fit.betR_mono (Fit.betR r i (nx.getD to.toNat Fit.cz).d (nx.getD to.toNat Fit.cz).f) i ((nx.getD i Fit.cz).d + 1) (nx.getD i Fit.cz).f hl1
       have hm2 := fun j d f h => hmo2 j d f (hm1 j d f h)
       have hk2 := fun a b => hmo2 _ _ _ (hk1 a b)
       have hd2 := fun _ : (nx.getD i Fit.cz).ok = true => Fit.betR_le (Fit.betR r i (nx.getD to.toNat Fit.cz).d (nx.getD to.toNat Fit.cz).f) i ((nx.getD i Fit.cz).d + 1) (nx.getD i Fit.cz).f hl1
       have hplus : FnP Tryz.prog 60 [.agg [.int (nx.getD i Fit.cz).d, .int (nx.getD i Fit.cz).f], .agg [.int 1, .int 0]] (.agg [.int ((nx.getD i Fit.cz).d + 1), .int (nx.getD i Fit.cz).f]) := by have := WFSmall.c_plus (nx.getD i Fit.cz).d (nx.getD i Fit.cz).f 1 0 ⟨⟨by omega, by omega⟩, ⟨by omega, by omega⟩, ⟨by omega, by omega⟩, by omega, by omega⟩; rwa [Int.add_zero] at this
       refine W.r (.mv rfl rfl (.mv rfl rfl (.mv rfl rfl (.q (.fab (.t rfl) fa82_0) rfl (.q (.ldbn 0 (.t rfl) rfl ag81 ty81 rfl) rfl ?_)))))
       refine W.q (.build ty81 st81 rfl (fun hg => ⟨_, _, _, rfl, .k, rfl, rfl, rfl, _, _, _, rfl, .k, rfl, rfl, rfl, rfl⟩)) rfl ?_; refine W.callp (hplus) ⟨(.t rfl), (.t rfl), trivial⟩ rfl ?_; refine W.call (WFSmall.c_better b25 (.lit (.pointer (some ⟨b, 0, none⟩))) (.sl 1 (A.next.map pav)) (.sl 1 (A.final.map AV.bool)) (.sl 1 (ks.map fun k : Nat => AV.int (k : Int))) u.1 u.2.1 u.2.2 (Fit.slv vr) ((us.map fun u : Fit.Sv3 => AV.lit (Fit.slv u)) ++ (.lit (Fit.slv u) :: (fr.map Fit.rowv))) (Fit.betR r i (nx.getD to.toNat Fit.cz).d (nx.getD to.toNat Fit.cz).f) i us.length ((nx.getD i Fit.cz).d + 1) (nx.getD i Fit.cz).f (by omega) hkE) ⟨(.t rfl), (.t rfl), (.t rfl), (.t rfl), trivial⟩ (((List.perm_middle (l₁ := [_])).trans <| List.Perm.cons _ <| (List.perm_middle (l₁ := [_])).trans <| List.Perm.cons _ <| (List.perm_middle (l₁ := [_])).trans <| List.Perm.cons _ <| List.Perm.cons _ <| .refl _)) rfl ?_
       rintro _ _ ⟨rfl, rfl⟩
       refine W.n (.bn (.h (.r (.q (.add (.t rfl) .k (fun _ => by omega)) rfl ?_))))
       refine W.q (.move (.t rfl)) rfl ?_; refine W.n ?_; refine W.h ?_; refine W.reach (D := [_]) (i + 1, (Fit.betR (Fit.betR r i (nx.getD to.toNat Fit.cz).d (nx.getD to.toNat Fit.cz).f) i ((nx.getD i Fit.cz).d + 1) (nx.getD i Fit.cz).f)) ⟨rfl, rfl, rfl, rfl, rfl, rfl, trivial⟩ (by dsimp only; exact (List.Perm.cons _ <| List.Perm.cons _ <| List.Perm.cons _ <| List.perm_append_comm (l₁ := [_])) ) ⟨⟨hlt, hri2, hBs.next hm2 hk2 hd2⟩, by show A.next.length - (i + 1) < A.next.length - i; omega⟩
      ·have hok1 : (nx.getD i Fit.cz).ok = false := hc_t140
       have hri2 := hri1
       have hm2 := hm1
       have hk2 := hk1
       have hd2 : (nx.getD i Fit.cz).ok = true → ((Fit.betR r i (nx.getD to.toNat Fit.cz).d (nx.getD to.toNat Fit.cz).f).getD i Fit.cz).Le ((nx.getD i Fit.cz).d + 1) (nx.getD i Fit.cz).f := fun h => by rw [hok1] at h; cases h
       refine W.k (.bn (.h (.r (.q (.add (.t rfl) .k (fun _ => by omega)) rfl ?_))))
       refine W.q (.move (.t rfl)) rfl ?_; refine W.n ?_; refine W.h ?_; refine W.perm (M' := .arr (Fit.slv u) 82 3 ((Fit.betR r i (nx.getD to.toNat Fit.cz).d (nx.getD to.toNat Fit.cz).f).map Fit.ctv) :: .arr (Fit.slv vr) 83 1 ((us.map fun u : Fit.Sv3 => AV.lit (Fit.slv u)) ++ (.lit (Fit.slv u) :: (fr.map Fit.rowv))) :: .box b25 86 [.lit (.pointer (some ⟨b, 0, none⟩)), .sl 1 (A.next.map pav), .sl 1 (A.final.map AV.bool), .sl 1 (ks.map fun k : Nat => AV.int (k : Int)), .lit (Fit.slv vr)] :: .box b14 82 (Fit.ctv (nx.getD i Fit.cz)).cells :: .box b 76 [.sl 3 (ts.map tpv), .sl 2 (as_.map Au.avx), .sl 1 (sz.map AV.int)] :: (us.map fun u : Fit.Sv3 => ME.arr (Fit.slv u) 82 3 (Fit.zrow (A.next.map pav).length))) ((List.perm_middle (l₁ := [_])).trans <| List.Perm.cons _ <| (List.perm_middle (l₁ := [_])).trans <| List.Perm.cons _ <| (List.perm_middle (l₁ := [_])).trans <| List.Perm.cons _ <| List.Perm.cons _ <| .refl _) ?_; refine W.reach (D := [_]) (i + 1, (Fit.betR r i (nx.getD to.toNat Fit.cz).d (nx.getD to.toNat Fit.cz).f)) ⟨rfl, rfl, rfl, rfl, rfl, rfl, trivial⟩ (by dsimp only; exact (List.Perm.cons _ <| List.Perm.cons _ <| List.Perm.cons _ <| List.perm_append_comm (l₁ := [_])) ) ⟨⟨hlt, hri2, hBs.next hm2 hk2 hd2⟩, by show A.next.length - (i + 1) < A.next.length - i; omega⟩
     ·have hok0 : (nx.getD to.toNat Fit.cz).ok = false := hc_t111
      have hri1 := hri
      have hm1 : ∀ j d f, (r.getD j Fit.cz).Le d f → (r.getD j Fit.cz).Le d f := fun _ _ _ h => h
      have hk1 : 0 ≤ Fit.tr A i kk → (nx.getD (Fit.tr A i kk).toNat Fit.cz).ok = true → (r.getD i Fit.cz).Le (nx.getD (Fit.tr A i kk).toNat Fit.cz).d (nx.getD (Fit.tr A i kk).toNat Fit.cz).f := fun h h2 => by rw [hto] at h h2; (rw [hok0] at h2; cases h2)
      refine W.k (.h (.s (.r (.mv rfl rfl (.q (.nilc (.t rfl)) rfl (.q (.fab (.t rfl) fa86_3) rfl (.q (.ldb1 2 (.t rfl) rfl ag84 rfl) rfl (.mv rfl rfl (.q (.add (.t rfl) .k (fun _ => by omega)) rfl (.q (.ata 1 (.t rfl) rfl (.t rfl) Tryz.underlying84 ty83 (fun _ => by omega)) rfl (.q (.lda1 1 (us.length + 1) 0 (.t rfl) rfl hkF (by omega) rfl rfl rfl ag83) rfl (.mv rfl rfl ?_)))))))))))); refine W.q (.at (E := 82) (.t rfl) (.t rfl) Tryz.underlying83 ty82 (fun hg => ⟨by omega, hgi⟩) rfl rfl) rfl ?_; refine W.q (.lden (.t rfl) ag82 ty82 rfl rfl) rfl ?_
      refine W.alloc ty82 rfl rfl ?_; intro b14
      refine W.stb 0 (.t rfl) (.t rfl) rfl ty82 rfl rfl rfl (.n (.h (.s (.r (.q (.fab (.t rfl) fa82_1) rfl (.q (.ldb1 0 (.t rfl) rfl ag4 rfl) rfl ?_))))))
      refine W.n ?_; refine W.h ?_; refine W.cond (.t rfl) (fun hc_t140 => ?_) (fun hc_t140 => ?_)
      ·have hok1 : (nx.getD i Fit.cz).ok = true := hc_t140
       have hb1 := htb i hlt hok1
       have hal1 : Fit.Al A sz i (kk :: ks.drop (us.length + 1)) ((nx.getD i Fit.cz).d + 1) (nx.getD i Fit.cz).f := .drop ((hbest i hlt).al hok1)
       have hri2 := hri1.betR hlt hal1 (by omega)
       have hl1 : i < r.length := by rw [hri1.len]; exact hlt
       have hmo2 := Fit.betR_mono r i ((nx.getD i Fit.cz).d + 1) (nx.getD i Fit.cz).f hl1
       have hm2 := fun j d f h => hmo2 j d f (hm1 j d f h)
       have hk2 := fun a b => hmo2 _ _ _ (hk1 a b)
       have hd2 := fun _ : (nx.getD i Fit.cz).ok = true => Fit.betR_le r i ((nx.getD i Fit.cz).d + 1) (nx.getD i Fit.cz).f hl1
       have hplus : FnP Tryz.prog 60 [.agg [.int (nx.getD i Fit.cz).d, .int (nx.getD i Fit.cz).f], .agg [.int 1, .int 0]] (.agg [.int ((nx.getD i Fit.cz).d + 1), .int (nx.getD i Fit.cz).f]) := by have := WFSmall.c_plus (nx.getD i Fit.cz).d (nx.getD i Fit.cz).f 1 0 ⟨⟨by omega, by omega⟩, ⟨by omega, by omega⟩, ⟨by omega, by omega⟩, by omega, by omega⟩; rwa [Int.add_zero] at this
       refine W.r (.mv rfl rfl (.mv rfl rfl (.mv rfl rfl (.q (.fab (.t rfl) fa82_0) rfl (.q (.ldbn 0 (.t rfl) rfl ag81 ty81 rfl) rfl ?_)))))
       refine W.q (.build ty81 st81 rfl (fun hg => ⟨_, _, _, rfl, .k, rfl, rfl, rfl, _, _, _, rfl, .k, rfl, rfl, rfl, rfl⟩)) rfl ?_; refine W.callp (hplus) ⟨(.t rfl), (.t rfl), trivial⟩ rfl ?_; refine W.call (WFSmall.c_better b25 (.lit (.pointer (some ⟨b, 0, none⟩))) (.sl 1 (A.next.map pav)) (.sl 1 (A.final.map AV.bool)) (.sl 1 (ks.map fun k : Nat => AV.int (k : Int))) u.1 u.2.1 u.2.2 (Fit.slv vr) ((us.map fun u : Fit.Sv3 => AV.lit (Fit.slv u)) ++ (.lit (Fit.slv u) :: (fr.map Fit.rowv))) r i us.length ((nx.getD i Fit.cz).d + 1) (nx.getD i Fit.cz).f (by omega) hkE) ⟨(.t rfl), (.t rfl), (.t rfl), (.t rfl), trivial⟩ (((List.perm_middle (l₁ := [_])).trans <| List.Perm.cons _ <| (List.perm_middle (l₁ := [_])).trans <| List.Perm.cons _ <| (List.perm_middle (l₁ := [_])).trans <| List.Perm.cons _ <| List.Perm.cons _ <| .refl _)) rfl ?_
       rintro _ _ ⟨rfl, rfl⟩
       refine W.n (.bn (.h (.r (.q (.add (.t rfl) .k (fun _ => by omega)) rfl ?_))))
       refine W.q (.move (.t rfl)) rfl ?_; refine W.n ?_; refine W.h ?_; refine W.reach (D := [_]) (i + 1, (Fit.betR r i ((nx.getD i Fit.cz).d + 1) (nx.getD i Fit.cz).f)) ⟨rfl, rfl, rfl, rfl, rfl, rfl, trivial⟩ (by dsimp only; exact (List.Perm.cons _ <| List.Perm.cons _ <| List.Perm.cons _ <| List.perm_append_comm (l₁ := [_])) ) ⟨⟨hlt, hri2, hBs.next hm2 hk2 hd2⟩, by show A.next.length - (i + 1) < A.next.length - i; omega⟩
      ·have hok1 : (nx.getD i Fit.cz).ok = false := hc_t140
       have hri2 := hri1
       have hm2 := hm1
       have hk2 := hk1
       have hd2 : (nx.getD i Fit.cz).ok = true → (r.getD i Fit.cz).Le ((nx.getD i Fit.cz).d + 1) (nx.getD i Fit.cz).f := fun h => by rw [hok1] at h; cases h
       refine W.k (.bn (.h (.r (.q (.add (.t rfl) .k (fun _ => by omega)) rfl ?_))))
       refine W.q (.move (.t rfl)) rfl ?_; refine W.n ?_; refine W.h ?_; refine W.perm (M' := .arr (Fit.slv u) 82 3 (r.map Fit.ctv) :: .arr (Fit.slv vr) 83 1 ((us.map fun u : Fit.Sv3 => AV.lit (Fit.slv u)) ++ (.lit (Fit.slv u) :: (fr.map Fit.rowv))) :: .box b25 86 [.lit (.pointer (some ⟨b, 0, none⟩)), .sl 1 (A.next.map pav), .sl 1 (A.final.map AV.bool), .sl 1 (ks.map fun k : Nat => AV.int (k : Int)), .lit (Fit.slv vr)] :: .box b14 82 (Fit.ctv (nx.getD i Fit.cz)).cells :: .box b 76 [.sl 3 (ts.map tpv), .sl 2 (as_.map Au.avx), .sl 1 (sz.map AV.int)] :: (us.map fun u : Fit.Sv3 => ME.arr (Fit.slv u) 82 3 (Fit.zrow (A.next.map pav).length))) ((List.perm_middle (l₁ := [_])).trans <| List.Perm.cons _ <| (List.perm_middle (l₁ := [_])).trans <| List.Perm.cons _ <| (List.perm_middle (l₁ := [_])).trans <| List.Perm.cons _ <| List.Perm.cons _ <| .refl _) ?_; refine W.reach (D := [_]) (i + 1, r) ⟨rfl, rfl, rfl, rfl, rfl, rfl, trivial⟩ (by dsimp only; exact (List.Perm.cons _ <| List.Perm.cons _ <| List.Perm.cons _ <| List.perm_append_comm (l₁ := [_])) ) ⟨⟨hlt, hri2, hBs.next hm2 hk2 hd2⟩, by show A.next.length - (i + 1) < A.next.length - i; omega⟩
    ·subst hend
     refine W.s (.r (.q (.lti (.t rfl) (.t rfl)) rfl (.n (.h (.s ?_))))); refine W.isb 85 false rfl (by exact decide_eq_false (by omega)) ?_; refine W.condF (.t rfl) (.ex (.he (.he (.bh (.h (.r (.mv rfl rfl (.mv rfl rfl ?_)))))))); refine W.call (WFFill.c_fill b ts as_ sz A hsh hn hz hcol b25 (.sl 1 (ks.map fun k : Nat => AV.int (k : Int))) u.1 u.2.1 u.2.2 (Fit.slv vr) ((us.map fun u : Fit.Sv3 => AV.lit (Fit.slv u)) ++ (.lit (Fit.slv u) :: (fr.map Fit.rowv))) us.length hkE (kk :: ks.drop (us.length + 1)) (by ((simp only [List.length_cons, List.length_drop, List.length_nil]; omega))) (4800 * ((ks.length : Int) - (us.length : Int))) (by omega) (by omega) r hri) ⟨(.t rfl), (.t rfl), trivial⟩ (.refl _) rfl ?_
     rintro _ _ ⟨rfl, r2, hri2, hfx2, hmo2, rfl⟩
     refine W.n (.bn (.h (.r ?_))); refine W.freezeA (M1 := .arr (Fit.slv vr) 83 1 ((us.map fun u : Fit.Sv3 => AV.lit (Fit.slv u)) ++ (.lit (Fit.slv u) :: (fr.map Fit.rowv))) :: .box b25 86 [.lit (.pointer (some ⟨b, 0, none⟩)), .sl 1 (A.next.map pav), .sl 1 (A.final.map AV.bool), .sl 1 (ks.map fun k : Nat => AV.int (k : Int)), .lit (Fit.slv vr)] :: .box b 76 [.sl 3 (ts.map tpv), .sl 2 (as_.map Au.avx), .sl 1 (sz.map AV.int)] :: (us.map fun u : Fit.Sv3 => ME.arr (Fit.slv u) 82 3 (Fit.zrow (A.next.map pav).length))) (M2 := .arr (Fit.slv vr) 83 1 ((us.map fun u : Fit.Sv3 => AV.lit (Fit.slv u)) ++ (r2 :: fr).map Fit.rowv) :: .box b25 86 [.lit (.pointer (some ⟨b, 0, none⟩)), .sl 1 (A.next.map pav), .sl 1 (A.final.map AV.bool), .sl 1 (ks.map fun k : Nat => AV.int (k : Int)), .lit (Fit.slv vr)] :: .box b 76 [.sl 3 (ts.map tpv), .sl 2 (as_.map Au.avx), .sl 1 (sz.map AV.int)] :: (us.map fun u : Fit.Sv3 => ME.arr (Fit.slv u) 82 3 (Fit.zrow (A.next.map pav).length))) (D := []) (v := Fit.slv u) (L' := []) (by ((rw [List.append_nil]; exact .refl _))) trivial ⟨.arr (FrzL.append (FrzL.refl _) ⟨.hit, FrzL.refl _⟩), FrzMs.refl _⟩ ?_
     have hT2 := Fit.Tail.step hz hsh hn hks hT hul hdk hri2 hfx2 (by rw [hnx]; exact hBs.mono hmo2)
     refine W.mv rfl rfl (.q (.sub (.t rfl) .k (fun _ => by omega)) rfl ?_)
     refine W.q (.assign (.t rfl)) rfl ?_; refine W.n ?_; refine W.h ?_; refine W.reach (D := []) (us, r2 :: fr) ⟨rfl, rfl, rfl, trivial⟩ (by ((rw [List.append_nil]; done))) ⟨⟨hT2, Nat.succ_pos _⟩, by show us.length < (us ++ [u]).length; rw [List.length_append, List.length_singleton]; omega⟩
   ·have hopt := Fit.Tail.opt hks hT
    refine W.s (.s (.r (.mv rfl rfl (.q (.gei (.t rfl) .k) rfl (.n (.h ?_)))))); refine W.isb 75 false rfl (by exact decide_eq_false (by simp)) ?_; refine W.condF (.t rfl) (.ex (.he (.he (.bh (.h (.s (.r (.mv rfl rfl (.asg rfl rfl (.n (.h ?_))))))))))); refine W.ret ?_; refine W.freezeA (M1 := .box b25 86 [.lit (.pointer (some ⟨b, 0, none⟩)), .sl 1 (A.next.map pav), .sl 1 (A.final.map AV.bool), .sl 1 (ks.map fun k : Nat => AV.int (k : Int)), .lit (Fit.slv vr)] :: [.box b 76 [.sl 3 (ts.map tpv), .sl 2 (as_.map Au.avx), .sl 1 (sz.map AV.int)]]) (M2 := .box b25 86 [.lit (.pointer (some ⟨b, 0, none⟩)), .sl 1 (A.next.map pav), .sl 1 (A.final.map AV.bool), .sl 1 (ks.map fun k : Nat => AV.int (k : Int)), .sl 1 (fr.map Fit.rowv)] :: [.box b 76 [.sl 3 (ts.map tpv), .sl 2 (as_.map Au.avx), .sl 1 (sz.map AV.int)]]) (D := []) (v := Fit.slv vr) (L' := []) (.refl _) trivial ⟨.box ⟨.refl _, .refl _, .refl _, .refl _, .hit, trivial⟩, FrzMs.refl _⟩ ?_; refine W.retn (M' := [.box b25 86 [.lit (.pointer (some ⟨b, 0, none⟩)), .sl 1 (A.next.map pav), .sl 1 (A.final.map AV.bool), .sl 1 (ks.map fun k : Nat => AV.int (k : Int)), .sl 1 (fr.map Fit.rowv)], .box b 76 [.sl 3 (ts.map tpv), .sl 2 (as_.map Au.avx), .sl 1 (sz.map AV.int)]]) (D := []) (rs := [.tmp 6]) (avs := [_]) Tryz.results33 ⟨rfl, trivial⟩ rfl (.refl _) ?_
    exact ⟨b25, fr, hopt, rfl, rfl⟩
end WFPlan
end Go.Proofs.YtphlkdbglpcikaaGreatDoor
end
section
namespace Go.Proofs.YtphlkdbglpcikaaGreatDoor
open Go.Vl
open Y
namespace WFBest
end WFBest
end Go.Proofs.YtphlkdbglpcikaaGreatDoor
end
section
namespace Go.Vl
namespace Fit
open Sch
structure Gf (as_ : List Au) (fin : List Int) (t : Nat) : Prop where
 sh : (as_.getD t dA).Shape
 n32 : (as_.getD t dA).next.length ≤ 32
 sz : Sz (as_.getD t dA) fin
 col : ∀ i m, 0 ≤ tr (as_.getD t dA) i m → m < fin.length
 at_ : (as_.map Au.avx)[t]? = some (Au.avx (as_.getD t dA))
theorem tr_row {A : Au} {i n : Nat} (h : 0 ≤ tr A i n) : i < A.next.length := by
 rcases Nat.lt_or_ge i A.next.length with h1 | h1
 ·exact h1
 ·unfold tr at h
  rw [List.getD_eq_getElem?_getD (l := A.next), List.getElem?_eq_none h1] at h
  simp at h
theorem gf_of {ts : List Tp} {as_ : List Au} (hg : Sch.Good ts as_) {fin : List Int} (hl : fin.length = ts.length) (hp : ∀ n ∈ fin, 1 ≤ n ∧ n ≤ 150) {t : Nat} (ht : t < ts.length) : Gf as_ fin t := by
 have hal := hg.has
 have hm : as_.getD t dA ∈ as_ := by
  rw [List.getD_eq_getElem?_getD, List.getElem?_eq_getElem (by omega)]; exact List.getElem_mem _
 obtain ⟨k, hk, _, h2, h3⟩ := hg.mach t ht
 have hs := hg.sh _ hm
 have hcol : ∀ i m, 0 ≤ tr (as_.getD t dA) i m → m < fin.length := fun i m h => by
  have hi := tr_row h
  have h8 := (tr_lt hs.1 hi h).2
  rw [hl]
  exact hs.2.2 _ (getD_memG [] _ i hi) m h8 h
 have hb : ∀ m, m < fin.length → 1 ≤ fin.getD m 0 ∧ fin.getD m 0 ≤ 150 := fun m hm => by
  rw [List.getD_eq_getElem?_getD, List.getElem?_eq_getElem hm]; exact hp _ (List.getElem_mem _)
 refine ⟨hs.1, ?_, ⟨fun i n h => (hb n (hcol i n h)).1, fun i n h => (hb n (hcol i n h)).2⟩, hcol, ?_⟩
 ·rw [h2]; exact (known k hk).n32
 ·rw [List.getElem?_map, List.getD_eq_getElem?_getD, List.getElem?_eq_getElem (show t < as_.length by omega)]; rfl
end Fit
namespace Sch
theorem any_of {a : List Int} (h : ∀ n ∈ a, 1 ≤ n ∧ n ≤ 150) : (a.any fun n => n == 0 || decide (150 < n)) = false := by
 rw [List.any_eq_false]
 intro n hn
 have := h n hn
 simp; omega
end Sch
end Go.Vl
end
