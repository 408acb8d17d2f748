/-
  Merged: WClasses WRepeat WOrder WParse1 Emit Ref WIndex.
-/
import Derived.Test.YtphlkdbglpcikaaGreatDoorG8
import Derived.Laws.Externs
import Derived.Lib.Bytealg
set_option linter.unusedVariables false
set_option linter.unusedSimpArgs false
set_option maxRecDepth 100000

section
namespace Go.Proofs.YtphlkdbglpcikaaGreatDoor
open Go.Vl
open Y
namespace WClasses
theorem c_classes (w : Au) (hs : w.Shape) (hn : w.next.length ≤ 100) (M0 : List ME) (hI : ∀ n : Int, -1 ≤ n → n < 100 → FnC Tryz.prog 107 [.int n] M0 (fun r M => r = .str (itoa n) ∧ M = M0)) : FnC Tryz.prog 76 [.agg [.sl 8 (w.next.map wrow), .sl 1 (w.final.map AV.bool)]] M0 (fun r M => ∃ v cl, r = .lit v ∧ M = .arr v 3 1 (rowI w.next.length cl) :: M0 ∧ w.Cls cl ∧ ∀ k, k < w.next.length → -1 ≤ cl k ∧ cl k < 100) :=  by
 refine FnC.mk Tryz.func76 (by kernel_rfl) rfl Tryz.ntmps76 rfl (fun w0 F => ?_)
 have hfin := hs.fin
 have hpos := hs.pos
 have hnl : (w.next.map wrow).length = w.next.length := List.length_map ..
 have hfl : (w.final.map AV.bool).length = w.final.length := List.length_map ..
 refine W.s ?_; refine W.r ?_; refine W.box (.t rfl) rfl rfl ?_; intro b1; refine W.q (.assign .k) rfl ?_; refine W.n ?_; refine W.h ?_; refine W.s ?_; refine W.r ?_
 refine W.q (.ldbn 0 (.t rfl) rfl ag99 ty99 rfl) rfl ?_; refine W.call (WLive.c_live w hs (by omega)) ⟨(.t rfl), trivial⟩ (.refl _) rfl ?_
 rintro _ _ ⟨v19, f, rfl, rfl, hf⟩
 refine W.asg rfl rfl (.n (.h (.s (.r (.q (.fab (.t rfl) fa99_0) rfl (.q (.ldb1 1 (.t rfl) rfl ag97 rfl) rfl (.q (.lensl (.t rfl) Tryz.underlying97) rfl ?_)))))))
 refine W.mk (.t rfl) (.t rfl) Tryz.underlying22 ty3 rfl rfl rfl rfl rfl (by omega) rfl ?_; intro v23; refine W.q (.assign (.t rfl)) rfl ?_; refine W.n ?_; refine W.h ?_; refine W.s ?_; refine W.s ?_; refine W.r ?_; refine W.q (.move (.t rfl)) rfl ?_
 refine W.q (.lenar (i := 0) (.t rfl) rfl Tryz.underlying22) rfl ?_
 refine W.q (.move .k) rfl ?_; refine W.n ?_; refine W.h ?_; refine W.b ?_; refine W.loop (D := []) (ι := Nat) (fun i => [(26, true, .int (i : Int)), (25, true, .int ((List.replicate (w.next.map wrow).length (AV.int 0)).length : Int)), (3, true, .lit v19), (4, true, .lit v23), (1, true, .lit (.pointer (some ⟨b1, 0, none⟩)))]) (fun i => .arr v23 3 1 (rowI w.next.length (clsI w f i)) :: .arr v19 4 1 (rowB w.next.length f) :: .box b1 99 [.sl 8 (w.next.map wrow), .sl 1 (w.final.map AV.bool)] :: M0) (fun i => i ≤ w.next.length) (fun i => w.next.length - i) 0 ⟨rfl, rfl, rfl, rfl, rfl, trivial⟩ (by rw [List.append_nil]; (try dsimp only); rw [← clsI_start, hnl]; exact .refl _) (Nat.zero_le _) ?_; intro i hi
 dsimp only at hi ⊢
 have hrl : (List.replicate (w.next.map wrow).length (AV.int 0)).length = w.next.length := by rw [List.length_replicate, hnl]
 rcases (show i < w.next.length ∨ i = w.next.length from by omega) with hi | hend
 ·skip
  refine W.s ?_; refine W.r ?_; refine W.q (.lti (.t rfl) (.t rfl)) rfl ?_; refine W.n ?_; refine W.h ?_; refine W.s ?_; refine W.isb 27 true rfl (by exact decide_eq_true (by omega)) ?_; refine W.condT (.t rfl) ?_; refine W.k ?_; refine W.h ?_; refine W.s ?_; refine W.b ?_; refine W.s ?_; refine W.r ?_; refine W.q (.move (.t rfl)) rfl ?_; refine W.q (.assign (.t rfl)) rfl ?_; refine W.n ?_; refine W.h ?_; refine W.b ?_; refine W.s ?_; refine W.r ?_; refine W.q (.move (.t rfl)) rfl ?_; refine W.q (.move (.t rfl)) rfl ?_; refine W.q (.ata 1 (.t rfl) rfl (.t rfl) Tryz.underlying60 ty4 (fun _ => by ((rw [rowB_len]; omega)))) rfl ?_; refine W.q (.lda1 1 i 0 (.t rfl) rfl (rowB_at _ f i hi) (by omega) rfl rfl rfl ag4) rfl ?_; refine W.q (.not (.t rfl)) rfl ?_; refine W.q (.assign (.t rfl)) rfl ?_; refine W.n ?_; refine W.h ?_; refine W.cond (.t rfl) (fun hc_t29 => ?_) (fun hc_t29 => ?_)
  ·have h29 : f i = false := by simpa using hc_t29
   have hx : Au.cls0 w f i = -1 := by unfold Au.cls0; rw [if_neg (by rw [h29]; decide)]
   refine W.r (.mv rfl rfl (.mv rfl rfl ?_)); refine W.q (.ata 0 (.t rfl) rfl (.t rfl) Tryz.underlying22 ty3 (fun _ => by ((rw [rowI_len]; omega)))) rfl ?_; refine W.sta 0 i 0 (e := AV.int (clsI w f i i)) (e' := AV.int (-1)) (.t rfl) .k rfl (rowI_get hi) (by omega) ty3 rfl rfl rfl rfl rfl rfl rfl ?_; refine W.n (.bn (.bn (.h (.r (.q (.add (.t rfl) .k (fun _ => by omega)) rfl ?_)))))
   refine W.q (.move (.t rfl)) rfl ?_; refine W.n ?_; refine W.h ?_; refine W.reach (D := []) (i + 1) ⟨rfl, rfl, rfl, rfl, rfl, trivial⟩ (by rw [List.append_nil]; (try dsimp only); rw [← clsI_set w.next.length i hx]; exact .refl _) ⟨hi, by show w.next.length - (i + 1) < w.next.length - i; omega⟩
  ·have h29 : f i = true := by simpa using hc_t29
   have hgf := getD_mapG AV.bool false w.final i (by omega)
   refine W.s (.r (.q (.fab (.t rfl) fa99_1) rfl (.q (.ldb1 2 (.t rfl) rfl ag60 rfl) rfl (.mv rfl rfl ?_)))); refine W.q (.at (E := 4) (.t rfl) (.t rfl) Tryz.underlying60 ty4 (fun _ => ⟨by omega, hgf⟩) rfl rfl) rfl ?_; refine W.q (.lde1 (.t rfl) ag4) rfl ?_
   refine W.q (.assign (.t rfl)) rfl ?_; refine W.n ?_; refine W.h ?_; refine W.cond (.t rfl) (fun hc_t38 => ?_) (fun hc_t38 => ?_)
   ·have hx : Au.cls0 w f i = 1 := by unfold Au.cls0; rw [if_pos h29, if_pos hc_t38]
    refine W.r (.mv rfl rfl (.mv rfl rfl ?_)); refine W.q (.ata 0 (.t rfl) rfl (.t rfl) Tryz.underlying22 ty3 (fun _ => by ((rw [rowI_len]; omega)))) rfl ?_; refine W.sta 0 i 0 (e := AV.int (clsI w f i i)) (e' := AV.int (1)) (.t rfl) .k rfl (rowI_get hi) (by omega) ty3 rfl rfl rfl rfl rfl rfl rfl ?_; refine W.n (.bn (.bn (.h (.r (.q (.add (.t rfl) .k (fun _ => by omega)) rfl ?_)))))
    refine W.q (.move (.t rfl)) rfl ?_; refine W.n ?_; refine W.h ?_; refine W.reach (D := []) (i + 1) ⟨rfl, rfl, rfl, rfl, rfl, trivial⟩ (by rw [List.append_nil]; (try dsimp only); rw [← clsI_set w.next.length i hx]; exact .refl _) ⟨hi, by show w.next.length - (i + 1) < w.next.length - i; omega⟩
   ·have hx : Au.cls0 w f i = 0 := by unfold Au.cls0; rw [if_pos h29, if_neg (by rw [hc_t38]; decide)]
    refine W.k (.bn (.bn (.h (.r (.q (.add (.t rfl) .k (fun _ => by omega)) rfl ?_)))))
    refine W.q (.move (.t rfl)) rfl ?_; refine W.n ?_; refine W.h ?_; refine W.reach (D := []) (i + 1) ⟨rfl, rfl, rfl, rfl, rfl, trivial⟩ (by rw [List.append_nil]; (try dsimp only); rw [← clsI_zero w.next.length i hx]) ⟨hi, by show w.next.length - (i + 1) < w.next.length - i; omega⟩
 ·subst hend
  rw [clsI_done]
  refine W.s (.r (.q (.lti (.t rfl) (.t rfl)) rfl (.n (.h (.s ?_))))); refine W.isb 27 false rfl (by exact decide_eq_false (by omega)) ?_; refine W.condF (.t rfl) (.ex (.he (.he (.bh (.h (.s (.r (.q (.assign .k) rfl (.n (.h (.b ?_))))))))))); refine W.loop (D := [.arr v19 4 1 (rowB w.next.length f)]) (ι := Nat × Value × (Nat → Int)) (fun z => [(6, true, .int (z.1 : Int)), (4, true, .lit z.2.1), (1, true, .lit (.pointer (some ⟨b1, 0, none⟩)))]) (fun z => .arr z.2.1 3 1 (rowI w.next.length z.2.2) :: .box b1 99 [.sl 8 (w.next.map wrow), .sl 1 (w.final.map AV.bool)] :: M0) (fun z => w.Moore z.2.2 z.1 ∧ ∀ k, k < w.next.length → -1 ≤ z.2.2 k ∧ z.2.2 k < 100) (fun z => w.next.length + 1 - z.1) (0, v23, Au.cls0 w f) ⟨rfl, rfl, rfl, trivial⟩ (by dsimp only; exact List.Perm.cons _ (List.perm_append_comm (l₁ := [_]))) ⟨Au.Moore.start hf, fun k _ => Au.cls0_rng w f k⟩ ?_
  rintro ⟨many, vo, out⟩ ⟨hM, hrg⟩
  dsimp only at hM hrg ⊢
  refine W.b ?_; refine W.s ?_; refine W.r ?_; refine W.mkmap rfl ?_; intro b48; refine W.q (.assign (.t rfl)) rfl ?_; refine W.n ?_; refine W.h ?_; refine W.s ?_; refine W.r ?_; refine W.q (.move (.t rfl)) rfl ?_
  refine W.q (.lenar (i := 1) (.t rfl) rfl Tryz.underlying22) rfl ?_
  refine W.is (t := 50) (av' := .int (w.next.length : Int)) rfl (by rw [rowI_len]) ?_; refine W.mk (.t rfl) (.t rfl) Tryz.underlying22 ty3 rfl rfl rfl rfl rfl (by omega) rfl ?_; intro v51; refine W.q (.assign (.t rfl)) rfl ?_; refine W.n ?_; refine W.h ?_; refine W.s ?_; refine W.s ?_; refine W.r ?_
  refine W.q (.fab (.t rfl) fa99_0) rfl (.q (.ldb1 3 (.t rfl) rfl ag97 rfl) rfl (.q (.lensl (.t rfl) Tryz.underlying97) rfl (.q (.move .k) rfl (.n (.h (.b ?_)))))); refine W.loop (D := []) (ι := Nat × List (List Int) × (Nat → Int)) (fun z => [(55, true, .int (z.1 : Int)), (54, true, .int ((w.next.map wrow).length : Int)), (53, true, .sl 8 (w.next.map wrow)), (7, true, .lit (.map (some b48))), (8, true, .lit v51), (6, true, .int (many : Int)), (4, true, .lit vo), (1, true, .lit (.pointer (some ⟨b1, 0, none⟩)))]) (fun z => .arr v51 3 1 (rowI w.next.length z.2.2) :: .obj b48 (mObj (((z.2.1).map keyL).map fun s : List UInt8 => Value.string ⟨s.toArray⟩)) :: .arr vo 3 1 (rowI w.next.length out) :: .box b1 99 [.sl 8 (w.next.map wrow), .sl 1 (w.final.map AV.bool)] :: M0) (fun z => Au.Dv w out z.2.1 z.2.2 z.1 ∧ z.1 ≤ w.next.length) (fun z => w.next.length - z.1) (0, [], fun _ => 0) ⟨rfl, rfl, rfl, rfl, rfl, rfl, rfl, rfl, trivial⟩ (by rw [List.append_nil]; (try dsimp only); rw [← rowI_rep]; exact .refl _) ⟨Au.Dv.start _, Nat.zero_le _⟩ ?_
  rintro ⟨i, K, next⟩ ⟨hD, hi⟩
  dsimp only at hD hi ⊢
  have hKl := hD.len
  rcases (show i < w.next.length ∨ i = w.next.length from by omega) with hi | hend
  ·have hga := wrow_get hs hi
   have hplc := hD.plc hrg hs hi
   have hsml := Au.lst_sml hrg hs hi
   refine W.s (.r (.q (.lti (.t rfl) (.t rfl)) rfl (.n (.h (.s ?_))))); refine W.isb 56 true rfl (by exact decide_eq_true (by omega)) ?_; refine W.condT (.t rfl) (.k (.h (.s (.b (.s (.r (.mv rfl rfl ?_))))))); refine W.q (.at (E := 147) (.t rfl) (.t rfl) Tryz.underlying97 ty147 (fun _ => ⟨by omega, hga⟩) rfl rfl) rfl ?_; refine W.q (.lden (.t rfl) ag147 ty147 rfl rfl) rfl ?_
   refine W.alloc ty147 rfl rfl ?_; intro b10; refine W.q (.assign (.t rfl)) rfl ?_
   refine W.stb 0 (.t rfl) (.t rfl) rfl ty147 rfl rfl rfl ?_
   refine W.n ?_; refine W.h ?_; refine W.s ?_; refine W.s ?_; refine W.r ?_; refine W.q (.move (.t rfl)) rfl ?_; refine W.q (.move (.t rfl)) rfl ?_; refine W.q (.ata 3 (.t rfl) rfl (.t rfl) Tryz.underlying22 ty3 (fun _ => by ((rw [rowI_len]; omega)))) rfl ?_; refine W.q (.lda1 3 i 0 (.t rfl) rfl (rowI_get hi) (by omega) rfl rfl rfl ag3) rfl ?_; refine W.q (.lti (.t rfl) .k) rfl ?_; refine W.n ?_; refine W.h ?_; refine W.cond (.t rfl) (fun hc_t64 => ?_) (fun hc_t64 => ?_)
   ·have ho : out i < 0 := of_decide_eq_true hc_t64
    refine W.s (.r (.mv rfl rfl (.mv rfl rfl ?_))); refine W.q (.ata 1 (.t rfl) rfl (.t rfl) Tryz.underlying22 ty3 (fun _ => by ((rw [rowI_len]; omega)))) rfl ?_; refine W.sta 1 i 0 (e := AV.int (next i)) (e' := AV.int (-1)) (.t rfl) .k rfl (rowI_get hi) (by omega) ty3 rfl rfl rfl rfl rfl rfl rfl ?_; refine W.n (.h (.ex (.he (.bh (.h (.r (.q (.add (.t rfl) .k (fun _ => by omega)) rfl ?_)))))))
    refine W.q (.move (.t rfl)) rfl ?_; refine W.n ?_; refine W.h ?_; refine W.reach (D := [.box b10 147 (row8 (fun c => w.to (i : Int) (c : Int)))] ) (i + 1, K, (fun k => if k = i then -1 else next k)) ⟨rfl, rfl, rfl, rfl, rfl, rfl, rfl, rfl, trivial⟩ ?_ ⟨⟨hD.none ho, hi⟩, by show w.next.length - (i + 1) < w.next.length - i; omega⟩
    dsimp only
    rw [← rowI_set]
    exact List.perm_append_comm (l₁ := [_])
   ·have ho : 0 ≤ out i := Int.not_lt.1 (of_decide_eq_false hc_t64)
    refine W.k ?_; refine W.h ?_; refine W.s ?_; refine W.r ?_; refine W.q (.move (.t rfl)) rfl ?_; refine W.q (.move (.t rfl)) rfl ?_; refine W.q (.ata 3 (.t rfl) rfl (.t rfl) Tryz.underlying22 ty3 (fun _ => by ((rw [rowI_len]; omega)))) rfl ?_; refine W.q (.lda1 3 i 0 (.t rfl) rfl (rowI_get hi) (by omega) rfl rfl rfl ag3) rfl ?_; refine W.bso (es := [_]) Tryz.underlying22 ty3 ⟨rfl, (.t rfl), rfl, rfl, trivial⟩ rfl (by decide) rfl rfl ?_; intro v72; refine W.q (.assign (.t rfl)) rfl ?_; refine W.n ?_; refine W.h ?_; refine W.s ?_; refine W.s ?_; refine W.r ?_
    refine W.q (.ldbn 1 (.t rfl) rfl ag147 ty147 rfl) rfl ?_; refine W.is (t := 73) (av' := r8av (fun c => w.to (i : Int) (c : Int))) rfl rfl ?_; refine W.q (.move .k) rfl (.n (.h (.b ?_))); refine W.loop (D := [.box b10 147 (row8 (fun c => w.to (i : Int) (c : Int)))]) (ι := Nat × Value) (fun z => [(74, true, .int (z.1 : Int)), (73, true, r8av (fun c => w.to (i : Int) (c : Int))), (9, true, .int (i : Int)), (11, true, .lit z.2), (55, true, .int (i : Int)), (54, true, .int ((w.next.map wrow).length : Int)), (53, true, .sl 8 (w.next.map wrow)), (7, true, .lit (.map (some b48))), (8, true, .lit v51), (6, true, .int (many : Int)), (4, true, .lit vo), (1, true, .lit (.pointer (some ⟨b1, 0, none⟩)))]) (fun z => .arr z.2 3 1 (((Au.lst w out i).take (z.1 + 1)).map AV.int) :: .arr v51 3 1 (rowI w.next.length next) :: .obj b48 (mObj (((K).map keyL).map fun s : List UInt8 => Value.string ⟨s.toArray⟩)) :: .arr vo 3 1 (rowI w.next.length out) :: .box b1 99 [.sl 8 (w.next.map wrow), .sl 1 (w.final.map AV.bool)] :: M0) (fun z => z.1 ≤ 8) (fun z => 8 - z.1) (0, v72) ⟨rfl, rfl, rfl, rfl, rfl, rfl, rfl, rfl, rfl, rfl, rfl, rfl, trivial⟩ (List.Perm.cons _ (List.perm_append_comm (l₁ := [_]))) (Nat.zero_le _) ?_
    rintro ⟨d, v11⟩ hd
    dsimp only at hd ⊢
    rcases (show d < 8 ∨ d = 8 from by omega) with hd8 | hend
    ·have hto := Au.to_range hs (i := (i : Int)) (c := (d : Int)) (by omega) (by omega) (by omega) (by omega)
     have hsn := Au.lst_snoc w out i d hd8
     refine W.s ?_; refine W.r ?_; refine W.q (.lti (.t rfl) .k) rfl ?_; refine W.n ?_; refine W.h ?_; refine W.s ?_; refine W.isb 75 true rfl (by exact decide_eq_true (by omega)) ?_; refine W.condT (.t rfl) ?_; refine W.k ?_; refine W.h ?_; refine W.s ?_; refine W.b ?_; refine W.s ?_; refine W.r ?_; refine W.q (.arrat (.t rfl) (.t rfl) Tryz.underlying147 Tryz.underlying3 (fun _ => ⟨by omega, by omega, row8_get _ d hd8⟩) ty3) rfl ?_; refine W.q (.assign (.t rfl)) rfl ?_; refine W.n ?_; refine W.h ?_; refine W.s ?_; refine W.r ?_; refine W.q (.assign .k) rfl ?_; refine W.n ?_; refine W.h ?_; refine W.s ?_; refine W.s ?_; refine W.r ?_; refine W.q (.move (.t rfl)) rfl ?_; refine W.q (.gei (.t rfl) .k) rfl ?_; refine W.n ?_; refine W.h ?_; refine W.cond (.t rfl) (fun hc_t78 => ?_) (fun hc_t78 => ?_)
     ·have h78 : 0 ≤ w.to (i : Int) (d : Int) := of_decide_eq_true hc_t78
      have hcx : w.cto out i d = out (w.to (i : Int) (d : Int)).toNat := by unfold Au.cto; rw [if_pos h78]
      refine W.r (.mv rfl rfl (.mv rfl rfl ?_)); refine W.q (.ata 3 (.t rfl) rfl (.t rfl) Tryz.underlying22 ty3 (fun _ => by rw [rowI_len]; omega)) rfl ?_; refine W.q (.lda1 3 (w.to (i : Int) (d : Int)).toNat 0 (.t rfl) rfl (rowI_get (by omega)) (by omega) rfl rfl rfl ag3) rfl (.asg rfl rfl (.n (.h (.r (.mv rfl rfl (.mv rfl rfl ?_)))))); refine W.bs (es := [_]) Tryz.underlying22 ty3 ⟨rfl, (.t rfl), rfl, rfl, trivial⟩ rfl (by decide) rfl rfl ?_; refine W.app 0 (.t rfl) rfl (.sl (.t rfl) (by intro e he; rw [List.mem_singleton.1 he]; rfl)) Tryz.underlying22 ni22 ty3 rfl rfl (by rw [List.length_map, List.length_take]; simp only [List.length_cons, List.length_nil]; omega) rfl ?_
      intro v86; refine W.q (.assign (.t rfl)) rfl ?_; refine W.n ?_; refine W.bn ?_; refine W.h ?_; refine W.r ?_
      refine W.q (.add (.t rfl) .k (fun _ => by omega)) rfl ?_
      refine W.q (.move (.t rfl)) rfl ?_; refine W.n ?_; refine W.h ?_; refine W.reach (D := []) (d + 1, _) ⟨rfl, rfl, rfl, rfl, rfl, rfl, rfl, rfl, rfl, rfl, rfl, rfl, trivial⟩ (by rw [List.append_nil]; (try dsimp only); rw [hsn, List.map_append, hcx]; exact .refl _) ⟨hd8, by show 8 - (d + 1) < 8 - d; omega⟩
     ·have h78 : ¬ 0 ≤ w.to (i : Int) (d : Int) := of_decide_eq_false hc_t78
      have hcx : w.cto out i d = -1 := by unfold Au.cto; rw [if_neg h78]
      refine W.k (.h (.r (.mv rfl rfl (.mv rfl rfl ?_)))); refine W.bs (es := [_]) Tryz.underlying22 ty3 ⟨rfl, (.t rfl), rfl, rfl, trivial⟩ rfl (by decide) rfl rfl ?_; refine W.app 0 (.t rfl) rfl (.sl (.t rfl) (by intro e he; rw [List.mem_singleton.1 he]; rfl)) Tryz.underlying22 ni22 ty3 rfl rfl (by rw [List.length_map, List.length_take]; simp only [List.length_cons, List.length_nil]; omega) rfl ?_
      intro v86; refine W.q (.assign (.t rfl)) rfl ?_; refine W.n ?_; refine W.bn ?_; refine W.h ?_; refine W.r ?_
      refine W.q (.add (.t rfl) .k (fun _ => by omega)) rfl ?_
      refine W.q (.move (.t rfl)) rfl ?_; refine W.n ?_; refine W.h ?_; refine W.reach (D := []) (d + 1, _) ⟨rfl, rfl, rfl, rfl, rfl, rfl, rfl, rfl, rfl, rfl, rfl, rfl, trivial⟩ (by rw [List.append_nil]; (try dsimp only); rw [hsn, List.map_append, hcx]; exact .refl _) ⟨hd8, by show 8 - (d + 1) < 8 - d; omega⟩
    ·subst hend
     refine W.s (.r (.q (.lti (.t rfl) .k) rfl (.n (.h (.s (.isb 75 false rfl (by rfl) (.condF (.t rfl) (.ex (.he (.he (.bh (.h (.s (.r ?_)))))))))))))); refine W.freezeA (M1 := .arr v51 3 1 (rowI w.next.length next) :: .obj b48 (mObj (((K).map keyL).map fun s : List UInt8 => Value.string ⟨s.toArray⟩)) :: .arr vo 3 1 (rowI w.next.length out) :: .box b1 99 [.sl 8 (w.next.map wrow), .sl 1 (w.final.map AV.bool)] :: M0) (M2 := .arr v51 3 1 (rowI w.next.length next) :: .obj b48 (mObj (((K).map keyL).map fun s : List UInt8 => Value.string ⟨s.toArray⟩)) :: .arr vo 3 1 (rowI w.next.length out) :: .box b1 99 [.sl 8 (w.next.map wrow), .sl 1 (w.final.map AV.bool)] :: M0) (D := []) (v := v11) (L' := [(11, true, .sl 1 ((Au.lst w out i).map AV.int))]) (by rw [List.append_nil]; exact .refl _) ⟨⟨_, rfl, .one .hit⟩, trivial⟩ (FrzMs.refl _) ?_; refine W.mv rfl rfl ?_; refine W.call (WKey.c_key (Au.lst w out i) (by show 9 ≤ 100000; decide) M0 (fun n hn => hI n (hsml n hn).1 (hsml n hn).2)) ⟨(.t rfl), trivial⟩ (List.perm_append_comm (l₁ := [_, _, _, _])) rfl ?_
     rintro _ _ ⟨rfl, rfl⟩
     refine W.perm (List.perm_append_comm (l₂ := [_, _, _, _])) ?_; refine W.asg rfl rfl (.n (.h (.s (.s (.r (.mv rfl rfl (.mv rfl rfl (.q (.look2 1 (.t rfl) rfl (.t rfl) Tryz.underlying138 (KeyKind.str Tryz.underlying9) ty3) rfl ?_))))))))
     refine W.q (.move (.t rfl)) rfl ?_; refine W.q (.extract (.t rfl) rfl) rfl ?_; refine W.q (.extract (.t rfl) rfl) rfl ?_; refine W.q (.assign (.t rfl)) rfl ?_; refine W.q (.assign (.t rfl)) rfl ?_; refine W.n ?_; refine W.h ?_; refine W.s ?_; refine W.r ?_; refine W.q (.move (.t rfl)) rfl ?_; refine W.q (.not (.t rfl)) rfl ?_; refine W.n ?_; refine W.h ?_; refine W.cond (.t rfl) (fun hc_t97 => ?_) (fun hc_t97 => ?_)
     ·have hnew : keyL (Au.lst w out i) ∉ K.map keyL := by
       rw [← place_none]
       cases hp : place (keyL (Au.lst w out i)) (K.map keyL) with
       | none => rfl
       | some j => rw [hp] at hc_t97; simp at hc_t97
      have hnewK : Au.lst w out i ∉ K := by rw [← place_none, ← hplc]; exact place_none.2 hnew
      refine W.r (.mv rfl rfl (.mv rfl rfl (.mv rfl rfl (.q (.lenmap 1 (.t rfl) rfl Tryz.underlying138) rfl ?_)))); refine W.is (t := 101) (av' := .int ((K.map keyL).length : Int)) rfl (by rw [List.length_map]) ?_; refine W.mapnew 1 (.t rfl) rfl (.t rfl) (.t rfl) Tryz.underlying138 (KeyKind.str Tryz.underlying9) (hnew) _ (.inl rfl) (.n (.h (.r (.mv rfl rfl (.mv rfl rfl (.mv rfl rfl (.mv rfl rfl (.q (.look1 1 (.t rfl) rfl (.t rfl) Tryz.underlying138 (KeyKind.str Tryz.underlying9) ty3) rfl ?_)))))))); refine W.is (t := 106) (av' := .int (K.length : Int)) rfl (by rw [place_new hnew, List.length_map]; rfl) ?_; refine W.q (.ata 0 (.t rfl) rfl (.t rfl) Tryz.underlying22 ty3 (fun _ => by ((rw [rowI_len]; omega)))) rfl ?_; refine W.sta 0 i 0 (e := AV.int (next i)) (e' := AV.int ((K.length : Int))) (.t rfl) (.t rfl) rfl (rowI_get hi) (by omega) ty3 rfl rfl rfl rfl rfl rfl rfl ?_; refine W.n (.bn (.h (.r (.q (.add (.t rfl) .k (fun _ => by omega)) rfl ?_))))
      refine W.q (.move (.t rfl)) rfl ?_; refine W.n ?_; refine W.h ?_; refine W.reach (D := [] ) (i + 1, K ++ [Au.lst w out i], (fun k => if k = i then (K.length : Int) else next k)) ⟨rfl, rfl, rfl, rfl, rfl, rfl, rfl, rfl, trivial⟩ ?_ ⟨⟨hD.new ho hnewK, hi⟩, by show w.next.length - (i + 1) < w.next.length - i; omega⟩
      rw [List.append_nil]
      (try dsimp only)
      simp only [← rowI_set, List.map_append]
      exact List.Perm.refl _
     ·obtain ⟨j, hj⟩ : ∃ j, place (keyL (Au.lst w out i)) (K.map keyL) = some j := by
       cases hp : place (keyL (Au.lst w out i)) (K.map keyL) with
       | none => rw [hp] at hc_t97; simp at hc_t97
       | some j => exact ⟨j, rfl⟩
      have hjg := place_some (hplc ▸ hj)
      refine W.k (.h (.r (.mv rfl rfl (.mv rfl rfl (.mv rfl rfl (.mv rfl rfl (.q (.look1 1 (.t rfl) rfl (.t rfl) Tryz.underlying138 (KeyKind.str Tryz.underlying9) ty3) rfl ?_))))))); refine W.is (t := 106) (av' := .int (j : Int)) rfl (by rw [hj]; rfl) ?_; refine W.q (.ata 0 (.t rfl) rfl (.t rfl) Tryz.underlying22 ty3 (fun _ => by ((rw [rowI_len]; omega)))) rfl ?_; refine W.sta 0 i 0 (e := AV.int (next i)) (e' := AV.int ((j : Int))) (.t rfl) (.t rfl) rfl (rowI_get hi) (by omega) ty3 rfl rfl rfl rfl rfl rfl rfl ?_; refine W.n (.bn (.h (.r (.q (.add (.t rfl) .k (fun _ => by omega)) rfl ?_))))
      refine W.q (.move (.t rfl)) rfl ?_; refine W.n ?_; refine W.h ?_; refine W.reach (D := [] ) (i + 1, K, (fun k => if k = i then (j : Int) else next k)) ⟨rfl, rfl, rfl, rfl, rfl, rfl, rfl, rfl, trivial⟩ ?_ ⟨⟨hD.old ho hjg, hi⟩, by show w.next.length - (i + 1) < w.next.length - i; omega⟩
      rw [List.append_nil]
      (try dsimp only)
      rw [← rowI_set]
      exact List.Perm.refl _
  ·subst hend
   have hdiv := hD.div
   refine W.s (.r (.q (.lti (.t rfl) (.t rfl)) rfl (.n (.h (.s ?_))))); refine W.isb 56 false rfl (by exact decide_eq_false (by omega)) ?_; refine W.condF (.t rfl) (.ex (.he (.he (.bh (.h (.s (.r (.mv rfl rfl (.asg rfl rfl (.n (.h (.s (.s (.r (.mv rfl rfl (.q (.lenmap 1 (.t rfl) rfl Tryz.underlying138) rfl ?_))))))))))))))))
   refine W.is (t := 111) (av' := .int (K.length : Int)) rfl (by rw [List.length_map, List.length_map]) ?_; refine W.q (.move (.t rfl)) rfl ?_; refine W.q (.eqi (.t rfl) (.t rfl)) rfl ?_; refine W.n ?_; refine W.h ?_; refine W.cond (.t rfl) (fun hc_t113 => ?_) (fun hc_t113 => ?_)
   ·have hKm : K.length = many := by have := eq_of_beq hc_t113; omega
    subst hKm
    have hcl := hM.cls hs (fun k hk h => by have := (hrg k hk).1; omega) hdiv
    refine W.s (.r (.mv rfl rfl (.asg rfl rfl (.n (.h ?_))))); refine W.ret ?_; refine W.hr (.br (.hr (.br ?_))); refine W.retn (M' := (.arr v51 3 1 (rowI w.next.length next) :: M0)) (D := _) (rs := [.tmp 2]) (avs := [_]) Tryz.results76 ⟨rfl, trivial⟩ rfl (List.Perm.cons _ (List.perm_append_comm (l₁ := [_, _, _]))) ?_
    exact ⟨_, next, rfl, rfl, hcl, hD.rng (by omega)⟩
   ·have hKm : K.length ≠ many := by intro h; apply Bool.eq_false_iff.1 hc_t113; rw [h]; simp
    have hgr := hM.grows hdiv
    have hml := hdiv.most
    refine W.k (.h (.r (.mv rfl rfl (.q (.lenmap 1 (.t rfl) rfl Tryz.underlying138) rfl ?_))))
    refine W.is (t := 116) (av' := .int (K.length : Int)) rfl (by rw [List.length_map, List.length_map]) ?_; refine W.q (.assign (.t rfl)) rfl ?_; refine W.n ?_; refine W.bn ?_; refine W.h ?_; refine W.reach (D := [.obj b48 (mObj (((K).map keyL).map fun s : List UInt8 => Value.string ⟨s.toArray⟩)), .arr vo 3 1 (rowI w.next.length out)]) (K.length, v51, next) ⟨rfl, rfl, rfl, trivial⟩ ?_ ⟨⟨hM.div hs (fun k hk h => by have := (hrg k hk).1; omega) hdiv, hD.rng (by omega)⟩, by show w.next.length + 1 - K.length < w.next.length + 1 - many; omega⟩
    dsimp only
    refine List.Perm.cons _ ?_
    exact (List.perm_append_comm (l₁ := [_, _]) (l₂ := _ :: M0))
end WClasses
end Go.Proofs.YtphlkdbglpcikaaGreatDoor
end
section
namespace Go.Proofs.YtphlkdbglpcikaaGreatDoor
open Go.Vl
open Y
namespace WRepeat
theorem c_Mul (x y : Nat) (hx : x < 18446744073709551616) (hy : y < 18446744073709551616) : FnP Tryz.prog 111 [.lit (.int .u64 (x : Int)), .lit (.int .u64 (y : Int))] (.tup [.lit (.int .u64 ((x * y / 18446744073709551616 : Nat) : Int)), .lit (.int .u64 ((x * y % 18446744073709551616 : Nat) : Int))]) := by
 refine FnP.of_below (CallOk.of Tryz.func111 (by kernel_rfl) (by kernel_rfl)) fun w F vs ha => ?_
 simp only [RepT] at ha
 obtain ⟨v0, _, rfl, ⟨h1, h2⟩, v1, _, rfl, ⟨h3, h4⟩, rfl⟩ := ha
 have e0 : v0 = _ := Rep.lit_iff.1 (show Rep w F (.lit (.int .u64 (x : Int))) v0 from ⟨h1, h2⟩)
 have e1 : v1 = _ := Rep.lit_iff.1 (show Rep w F (.lit (.int .u64 (y : Int))) v1 from ⟨h3, h4⟩)
 subst e0
 subst e1
 refine (Go.Proofs.Tryz.bits_Mul x y hx hy w).mono ?_
 rintro e w' ⟨h5, rfl⟩
 refine ⟨_, h5, ⟨rfl, ?_⟩, Go.RowKit.Below.refl _ _⟩
 simp only [RepC]
 exact ⟨_, rfl, by simp only [RepT]; exact ⟨_, _, rfl, Rep.lit _, _, _, rfl, Rep.lit _, rfl⟩⟩
theorem c_Repeat8 : FnC Tryz.prog 77 [.sl 1 [AV.int (-1)], .int 8] [] (fun r M => ∃ v, r = .lit v ∧ M = [.arr v 3 1 (List.replicate 8 (AV.int (-1)))]) :=  by
 refine FnC.mk Tryz.func77 (by kernel_rfl) rfl Tryz.ntmps77 rfl (fun w0 F => ?_)
 refine W.s (.r (.q (.assign .k) rfl (.n (.h (.s (.s (.r (.mv rfl rfl (.q (.lti (.t rfl) .k) rfl (.n (.h (.isb 10 false rfl (by decide) (.condF (.t rfl) (.k (.h (.s (.r (.mv rfl rfl (.q (.lensl (.t rfl) Tryz.underlying22) rfl (.q (.conv (.t rfl) ⟨_, Tryz.underlying3⟩ Tryz.underlying185) rfl ?_)))))))))))))))))))); refine W.is (t := 15) (av' := .lit (.int .u64 ((1 : Nat) : Int))) rfl rfl ?_; refine W.mv rfl rfl (.q (.conv (.t rfl) ⟨_, Tryz.underlying3⟩ Tryz.underlying185) rfl ?_); refine W.is (t := 17) (av' := .lit (.int .u64 ((8 : Nat) : Int))) rfl rfl ?_; refine W.callp (c_Mul 1 8 (by decide) (by decide)) ⟨(.t rfl), (.t rfl), trivial⟩ rfl ?_; refine W.mv rfl rfl (.q (.extract (.t rfl) rfl) rfl (.q (.extract (.t rfl) rfl) rfl (.asg rfl rfl (.asg rfl rfl (.n ?_))))); refine W.is (t := 5) (av' := .lit (.int .u64 0)) rfl rfl ?_; refine W.is (t := 6) (av' := .lit (.int .u64 8)) rfl rfl ?_; refine W.h (.s (.s (.r (.mv rfl rfl (.q (.gti (.t rfl) .k) rfl (.mv rfl rfl (.qgF rfl rfl (.move (.t rfl)) rfl (.qgF rfl rfl (.gti (.c rfl) .k) rfl ?_)))))))); refine W.q (.or (.t rfl) ⟨_, _, rfl, rfl, by ((simp; done))⟩) rfl ?_; refine W.n (.h (.isb 26 false rfl (by rfl) (.condF (.t rfl) (.k (.h (.s (.r (.mv rfl rfl (.q (.conv64 (.t rfl) ⟨_, Tryz.underlying185⟩ Tryz.underlying3 (fun _ => by omega)) rfl ?_)))))))))
 refine W.is (t := 29) (av' := .int ((8 : Nat) : Int)) rfl rfl ?_; refine W.mk (.t rfl) (.t rfl) Tryz.underlying22 ty3 rfl rfl rfl rfl rfl (by omega) rfl ?_; intro v30; refine W.arr_lit 0 rfl (by decide) ?_; intro g off cq hv hc1 hc2
 subst hv
 have hc8 : 8 ≤ cq := hc1
 refine W.asg rfl rfl (.n (.h (.s (.r (.mv rfl rfl (.mv rfl rfl ?_)))))); refine W.copy 0 (j := 0) (xs := [AV.int (-1)]) (sn := 1) (es' := List.replicate 1 (AV.int (-1)) ++ List.replicate 7 (AV.int 0)) (n' := 8) (.t rfl) rfl (.src (.sl (xs := [AV.int (-1)]) (.t rfl) (by simp [AV.okc, shV]))) Tryz.underlying22 ty3 (by decide) (by decide) (by show 1 ≤ cq; omega) (by rfl) (by rfl) rfl ?_; refine W.asg rfl rfl (.n (.h (.s (.b ?_)))); refine W.loop (D := []) (ι := Nat × List AV) (fun z => [(8, true, .int (z.1 : Int)), (7, true, .lit (.slice (some ⟨g, off, none⟩) 8 cq))]) (fun z => [.arr (.slice (some ⟨g, off, none⟩) 8 cq) 3 1 z.2]) (fun z => (z.1 = 1 ∨ z.1 = 2 ∨ z.1 = 4 ∨ z.1 = 8) ∧ z.2 = List.replicate z.1 (AV.int (-1)) ++ List.replicate (8 - z.1) (AV.int 0)) (fun z => 8 - z.1) (1, List.replicate 1 (AV.int (-1)) ++ List.replicate 7 (AV.int 0)) ⟨rfl, rfl, trivial⟩ (.refl _) ⟨.inl rfl, rfl⟩ ?_
 rintro ⟨n, es⟩ ⟨hn, he⟩
 dsimp only at hn he ⊢
 subst he
 rcases hn with rfl | rfl | rfl | rfl
 ·skip
  refine W.s (.s (.r (.mv rfl rfl (.mv rfl rfl ?_)))); refine W.q (.lenar (i := 0) (.t rfl) rfl Tryz.underlying22) rfl ?_
  refine W.q (.lti (.t rfl) (.t rfl)) rfl ?_; refine W.n ?_; refine W.h ?_; refine W.isb 37 true rfl (by rfl) ?_; refine W.condT (.t rfl) ?_; refine W.k ?_; refine W.h ?_; refine W.b ?_; refine W.drawnE (ι := Unit) (fun ee _ => [bif ee 7 then ME.arr (.slice (some ⟨g, off, none⟩) 8 cq) 3 1 (List.replicate 2 (AV.int (-1)) ++ List.replicate 6 (AV.int 0)) else ME.arr (.slice (some ⟨g, off, none⟩) 8 cq) 3 1 (List.replicate 1 (AV.int (-1)) ++ List.replicate 7 (AV.int 0))]) 7 () (by kernel_rfl) (by kernel_rfl) rfl ?_; refine DE.q (fun e c hk => (.move (.t rfl))) rfl (fun _ _ => rfl) (.inr fun _ _ => rfl) ?_; refine DE.q (fun e c hk => (.move (.t rfl))) rfl (fun _ _ => rfl) (.inr fun _ _ => rfl) ?_; refine DE.q (fun e c hk => (.move (.t rfl))) rfl (fun _ _ => rfl) (.inr fun _ _ => rfl) ?_; refine DE.q (fun e c hk => (.slitp (p := 1) (q := 8) (lo := some (.tmp 40)) (hi := none) (.t rfl) Tryz.underlying22 ty3 (.t rfl) rfl (by (rfl)) (by (rfl)) (by omega))) rfl (fun _ _ => rfl) (.inr fun _ _ => rfl) ?_; refine DE.q (fun e c hk => (.move (.t rfl))) rfl (fun _ _ => rfl) (.inr fun _ _ => rfl) ?_; refine DE.q (fun e c hk => (.move (.t rfl))) rfl (fun _ _ => rfl) (.inr fun _ _ => rfl) ?_; refine DE.q (fun e c hk => (.slit0 (q := 1) (hi := some (.tmp 43)) (.t rfl) Tryz.underlying22 ty3 (.t rfl) (by (rfl)) (by omega))) rfl (fun _ _ => rfl) (.inr fun _ _ => rfl) ?_; refine DE.effc (av := fun _ => .lit (.int .i64 ((1 : Nat) : Int))) rfl (.inr fun _ _ => rfl) (fun e c hk L_ hs Q h => ?_) ?_
  ·have hk_7 := hk.not
   simp only [addE, hk_7, Nat.reduceAdd, Nat.reduceEqDiff, ↓reduceIte, cond_true, cond_false] at h ⊢
   exact W.copy 0 (j := 1) (xs := List.replicate 1 (AV.int (-1))) (sn := 1) (es' := List.replicate 2 (AV.int (-1)) ++ List.replicate 6 (AV.int 0)) (n' := 8) (.t (hs _ _ rfl)) rfl (.own 0 (.t (hs _ _ rfl)) (p := 0) (.inr rfl) rfl rfl (by decide) (by decide) (fun e he => by rw [(List.mem_replicate.1 he).2]; rfl)) Tryz.underlying22 ty3 (by decide) (by decide) (by show 2 ≤ cq; omega) (by rfl) (by rfl) rfl h
  refine DE.q (fun e c hk => (.add (.t rfl) (.t rfl) (fun _ => by omega))) rfl (fun _ _ => rfl) (.inr fun _ _ => rfl) ?_
  refine DE.q (fun e c hk => (.assign (.t rfl))) rfl (fun _ _ => rfl) (.inr fun _ _ => rfl) ?_; refine DE.nil (fun c_ e_ he_ => ?_)
  simp only [he_ 7 (by decide), cond_true, cond_false]
  refine W.bn ?_; refine W.h ?_; refine W.reach (D := []) (2, List.replicate 2 (AV.int (-1)) ++ List.replicate 6 (AV.int 0)) ⟨rfl, rfl, trivial⟩ (.refl _) ⟨⟨.inr (.inl rfl), rfl⟩, by decide⟩
 ·skip
  refine W.s (.s (.r (.mv rfl rfl (.mv rfl rfl ?_)))); refine W.q (.lenar (i := 0) (.t rfl) rfl Tryz.underlying22) rfl ?_
  refine W.q (.lti (.t rfl) (.t rfl)) rfl ?_; refine W.n ?_; refine W.h ?_; refine W.isb 37 true rfl (by rfl) ?_; refine W.condT (.t rfl) ?_; refine W.k ?_; refine W.h ?_; refine W.b ?_; refine W.drawnE (ι := Unit) (fun ee _ => [bif ee 7 then ME.arr (.slice (some ⟨g, off, none⟩) 8 cq) 3 1 (List.replicate 4 (AV.int (-1)) ++ List.replicate 4 (AV.int 0)) else ME.arr (.slice (some ⟨g, off, none⟩) 8 cq) 3 1 (List.replicate 2 (AV.int (-1)) ++ List.replicate 6 (AV.int 0))]) 7 () (by kernel_rfl) (by kernel_rfl) rfl ?_; refine DE.q (fun e c hk => (.move (.t rfl))) rfl (fun _ _ => rfl) (.inr fun _ _ => rfl) ?_; refine DE.q (fun e c hk => (.move (.t rfl))) rfl (fun _ _ => rfl) (.inr fun _ _ => rfl) ?_; refine DE.q (fun e c hk => (.move (.t rfl))) rfl (fun _ _ => rfl) (.inr fun _ _ => rfl) ?_; refine DE.q (fun e c hk => (.slitp (p := 2) (q := 8) (lo := some (.tmp 40)) (hi := none) (.t rfl) Tryz.underlying22 ty3 (.t rfl) rfl (by (rfl)) (by (rfl)) (by omega))) rfl (fun _ _ => rfl) (.inr fun _ _ => rfl) ?_; refine DE.q (fun e c hk => (.move (.t rfl))) rfl (fun _ _ => rfl) (.inr fun _ _ => rfl) ?_; refine DE.q (fun e c hk => (.move (.t rfl))) rfl (fun _ _ => rfl) (.inr fun _ _ => rfl) ?_; refine DE.q (fun e c hk => (.slit0 (q := 2) (hi := some (.tmp 43)) (.t rfl) Tryz.underlying22 ty3 (.t rfl) (by (rfl)) (by omega))) rfl (fun _ _ => rfl) (.inr fun _ _ => rfl) ?_; refine DE.effc (av := fun _ => .lit (.int .i64 ((2 : Nat) : Int))) rfl (.inr fun _ _ => rfl) (fun e c hk L_ hs Q h => ?_) ?_
  ·have hk_7 := hk.not
   simp only [addE, hk_7, Nat.reduceAdd, Nat.reduceEqDiff, ↓reduceIte, cond_true, cond_false] at h ⊢
   exact W.copy 0 (j := 2) (xs := List.replicate 2 (AV.int (-1))) (sn := 2) (es' := List.replicate 4 (AV.int (-1)) ++ List.replicate 4 (AV.int 0)) (n' := 8) (.t (hs _ _ rfl)) rfl (.own 0 (.t (hs _ _ rfl)) (p := 0) (.inr rfl) rfl rfl (by decide) (by decide) (fun e he => by rw [(List.mem_replicate.1 he).2]; rfl)) Tryz.underlying22 ty3 (by decide) (by decide) (by show 4 ≤ cq; omega) (by rfl) (by rfl) rfl h
  refine DE.q (fun e c hk => (.add (.t rfl) (.t rfl) (fun _ => by omega))) rfl (fun _ _ => rfl) (.inr fun _ _ => rfl) ?_
  refine DE.q (fun e c hk => (.assign (.t rfl))) rfl (fun _ _ => rfl) (.inr fun _ _ => rfl) ?_; refine DE.nil (fun c_ e_ he_ => ?_)
  simp only [he_ 7 (by decide), cond_true, cond_false]
  refine W.bn ?_; refine W.h ?_; refine W.reach (D := []) (4, List.replicate 4 (AV.int (-1)) ++ List.replicate 4 (AV.int 0)) ⟨rfl, rfl, trivial⟩ (.refl _) ⟨⟨.inr (.inr (.inl rfl)), rfl⟩, by decide⟩
 ·skip
  refine W.s (.s (.r (.mv rfl rfl (.mv rfl rfl ?_)))); refine W.q (.lenar (i := 0) (.t rfl) rfl Tryz.underlying22) rfl ?_
  refine W.q (.lti (.t rfl) (.t rfl)) rfl ?_; refine W.n ?_; refine W.h ?_; refine W.isb 37 true rfl (by rfl) ?_; refine W.condT (.t rfl) ?_; refine W.k ?_; refine W.h ?_; refine W.b ?_; refine W.drawnE (ι := Unit) (fun ee _ => [bif ee 7 then ME.arr (.slice (some ⟨g, off, none⟩) 8 cq) 3 1 (List.replicate 8 (AV.int (-1)) ++ List.replicate 0 (AV.int 0)) else ME.arr (.slice (some ⟨g, off, none⟩) 8 cq) 3 1 (List.replicate 4 (AV.int (-1)) ++ List.replicate 4 (AV.int 0))]) 7 () (by kernel_rfl) (by kernel_rfl) rfl ?_; refine DE.q (fun e c hk => (.move (.t rfl))) rfl (fun _ _ => rfl) (.inr fun _ _ => rfl) ?_; refine DE.q (fun e c hk => (.move (.t rfl))) rfl (fun _ _ => rfl) (.inr fun _ _ => rfl) ?_; refine DE.q (fun e c hk => (.move (.t rfl))) rfl (fun _ _ => rfl) (.inr fun _ _ => rfl) ?_; refine DE.q (fun e c hk => (.slitp (p := 4) (q := 8) (lo := some (.tmp 40)) (hi := none) (.t rfl) Tryz.underlying22 ty3 (.t rfl) rfl (by (rfl)) (by (rfl)) (by omega))) rfl (fun _ _ => rfl) (.inr fun _ _ => rfl) ?_; refine DE.q (fun e c hk => (.move (.t rfl))) rfl (fun _ _ => rfl) (.inr fun _ _ => rfl) ?_; refine DE.q (fun e c hk => (.move (.t rfl))) rfl (fun _ _ => rfl) (.inr fun _ _ => rfl) ?_; refine DE.q (fun e c hk => (.slit0 (q := 4) (hi := some (.tmp 43)) (.t rfl) Tryz.underlying22 ty3 (.t rfl) (by (rfl)) (by omega))) rfl (fun _ _ => rfl) (.inr fun _ _ => rfl) ?_; refine DE.effc (av := fun _ => .lit (.int .i64 ((4 : Nat) : Int))) rfl (.inr fun _ _ => rfl) (fun e c hk L_ hs Q h => ?_) ?_
  ·have hk_7 := hk.not
   simp only [addE, hk_7, Nat.reduceAdd, Nat.reduceEqDiff, ↓reduceIte, cond_true, cond_false] at h ⊢
   exact W.copy 0 (j := 4) (xs := List.replicate 4 (AV.int (-1))) (sn := 4) (es' := List.replicate 8 (AV.int (-1)) ++ List.replicate 0 (AV.int 0)) (n' := 8) (.t (hs _ _ rfl)) rfl (.own 0 (.t (hs _ _ rfl)) (p := 0) (.inr rfl) rfl rfl (by decide) (by decide) (fun e he => by rw [(List.mem_replicate.1 he).2]; rfl)) Tryz.underlying22 ty3 (by decide) (by decide) (by show 8 ≤ cq; omega) (by rfl) (by rfl) rfl h
  refine DE.q (fun e c hk => (.add (.t rfl) (.t rfl) (fun _ => by omega))) rfl (fun _ _ => rfl) (.inr fun _ _ => rfl) ?_
  refine DE.q (fun e c hk => (.assign (.t rfl))) rfl (fun _ _ => rfl) (.inr fun _ _ => rfl) ?_; refine DE.nil (fun c_ e_ he_ => ?_)
  simp only [he_ 7 (by decide), cond_true, cond_false]
  refine W.bn ?_; refine W.h ?_; refine W.reach (D := []) (8, List.replicate 8 (AV.int (-1)) ++ List.replicate 0 (AV.int 0)) ⟨rfl, rfl, trivial⟩ (.refl _) ⟨⟨.inr (.inr (.inr rfl)), rfl⟩, by decide⟩
 ·skip
  refine W.s (.s (.r (.mv rfl rfl (.mv rfl rfl ?_)))); refine W.q (.lenar (i := 0) (.t rfl) rfl Tryz.underlying22) rfl ?_; refine W.q (.lti (.t rfl) (.t rfl)) rfl (.n (.h (.isb 37 false rfl (by rfl) (.condF (.t rfl) (.ex (.he (.he (.bh (.h (.s (.r (.mv rfl rfl (.asg rfl rfl (.n (.h ?_))))))))))))))); refine W.ret ?_; refine W.retn (M' := [.arr _ 3 1 _]) (D := _) (rs := [.tmp 4]) (avs := [_]) Tryz.results77 ⟨rfl, trivial⟩ rfl (.refl _) ?_
  exact ⟨_, rfl, rfl⟩
end WRepeat
end Go.Proofs.YtphlkdbglpcikaaGreatDoor
end
section
namespace Go.Proofs.YtphlkdbglpcikaaGreatDoor
open Go.Vl
open Y
namespace WOrder
theorem c_order (w : Au) (hs : w.Shape) (hn : w.next.length ≤ 100) (M0 : List ME) (hI : ∀ n : Int, -1 ≤ n → n < 100 → FnC Tryz.prog 107 [.int n] M0 (fun r M => r = .str (itoa n) ∧ M = M0)) (hsz : ∀ a : Au, a.Ord → (∀ u, a.acc 0 u ↔ w.acc 0 u) → a.next.length ≤ 40) : FnC Tryz.prog 39 [.agg [.sl 8 (w.next.map wrow), .sl 1 (w.final.map AV.bool)]] M0 (fun r M => ∃ a : Au, a.Ord ∧ (∀ u, a.acc 0 u ↔ w.acc 0 u) ∧ r = .tup [.agg [.sl 1 (a.next.map pav), .sl 1 (a.final.map AV.bool)], .int 0] ∧ M = M0) :=  by
 refine FnC.mk Tryz.func39 (by kernel_rfl) rfl Tryz.ntmps39 rfl (fun w0 F => ?_)
 have hfin := hs.fin
 have hpos := hs.pos
 have hnl : (w.next.map wrow).length = w.next.length := List.length_map ..
 have hfl : (w.final.map AV.bool).length = w.final.length := List.length_map ..
 refine W.s ?_; refine W.r ?_; refine W.box (.t rfl) rfl rfl ?_; intro b1; refine W.alloc ty62 rfl rfl ?_; intro b2; refine W.q (.assign .k) rfl ?_; refine W.n ?_; refine W.h ?_; refine W.s ?_; refine W.r ?_
 refine W.q (.ldbn 1 (.t rfl) rfl ag99 ty99 rfl) rfl ?_; refine W.call (WClasses.c_classes w hs hn M0 hI) ⟨(.t rfl), trivial⟩ (List.perm_append_comm (l₁ := [_, _])) rfl ?_
 rintro _ _ ⟨v16, cl, rfl, rfl, hcls, hrg⟩
 refine W.perm (List.Perm.cons _ (List.perm_append_comm (l₂ := [_, _]))) ?_; refine W.q (.assign (.t rfl)) rfl ?_; refine W.n ?_; refine W.h ?_; refine W.s ?_; refine W.s ?_; refine W.r ?_; refine W.q (.move (.t rfl)) rfl ?_; refine W.q (.ata 0 (.t rfl) rfl .k Tryz.underlying22 ty3 (fun _ => by rw [rowI_len]; omega)) rfl ?_; refine W.q (.lda1 0 0 0 (.t rfl) rfl (rowI_get hpos) rfl rfl rfl rfl ag3) rfl ?_; refine W.q (.lti (.t rfl) .k) rfl ?_; refine W.n ?_; refine W.h ?_; refine W.cond (.t rfl) (fun hc_t20 => ?_) (fun hc_t20 => ?_)
 ·have h20 := of_decide_eq_true hc_t20
  have hdl := (hcls.neg 0 hpos).1 h20
  refine W.s (.r ?_); refine W.bs (es := [_]) Tryz.underlying22 ty3 ⟨rfl, .k, rfl, rfl, trivial⟩ rfl (by decide) rfl rfl ?_; refine W.call (WRepeat.c_Repeat8) ⟨(.t rfl), .k, trivial⟩ (.refl _) rfl ?_
  rintro _ _ ⟨v22, rfl, rfl⟩
  refine W.q (.assign (.t rfl)) rfl ?_; refine W.n ?_; refine W.h ?_; refine W.s ?_; refine W.r ?_; refine W.freezeA (M1 := .arr v16 3 1 (rowI w.next.length cl) :: .box b2 62 [.lit (.slice none 0 0), .lit (.slice none 0 0)] :: .box b1 99 [.sl 8 (w.next.map wrow), .sl 1 (w.final.map AV.bool)] :: M0) (M2 := .arr v16 3 1 (rowI w.next.length cl) :: .box b2 62 [.lit (.slice none 0 0), .lit (.slice none 0 0)] :: .box b1 99 [.sl 8 (w.next.map wrow), .sl 1 (w.final.map AV.bool)] :: M0) (D := []) (v := v22) (L' := [(5, true, .sl 1 (List.replicate 8 (AV.int (-1))))]) (by rw [List.append_nil] <;> exact .refl _) ⟨⟨_, rfl, .one .hit⟩, trivial⟩ (FrzMs.refl _) ?_; refine W.q (.move (.t rfl)) rfl ?_; refine W.bs (es := [_]) Tryz.underlying59 ty22 ⟨rfl, (.t rfl), rfl, rfl, trivial⟩ rfl (by decide) rfl rfl ?_; refine W.bs (es := [_]) Tryz.underlying60 ty4 ⟨rfl, .k, rfl, rfl, trivial⟩ rfl (by decide) rfl rfl ?_; refine W.q (.build ty62 st62 rfl (fun hg => ⟨_, _, _, rfl, (.t rfl), rfl, rfl, rfl, _, _, _, rfl, (.t rfl), rfl, rfl, rfl, rfl⟩)) rfl ?_
  refine W.stb 1 (.t rfl) (.t rfl) rfl ty62 rfl rfl rfl (.q (.assign .k) rfl (.n (.h ?_))); refine W.ret ?_; refine W.hr ?_; refine W.retn (M' := M0) (D := _) (rs := [.cell 2 62, .tmp 3]) (avs := [_, _]) Tryz.results39 ⟨⟨_, _, _, rfl, by repeat (first | exact List.mem_cons_self | apply List.mem_cons_of_mem), rfl, by funext w; exact ag62.run w, by funext w; exact ty62.size w⟩, rfl, trivial⟩ rfl (List.perm_append_comm (l₁ := [_, _, _])) ?_
  refine ⟨Au.dead, .inr rfl, fun u => ⟨fun h => absurd h (Au.dead_acc u), fun h => absurd ⟨u, h⟩ hdl⟩, rfl, rfl⟩
 ·have h20 : 0 ≤ cl 0 := Int.not_lt.1 (of_decide_eq_false hc_t20)
  refine W.k ?_; refine W.h ?_; refine W.s ?_; refine W.r ?_; refine W.mkmap rfl ?_; intro b27; refine W.q (.move (.t rfl)) rfl ?_; refine W.q (.ata 1 (.t rfl) rfl .k Tryz.underlying22 ty3 (fun _ => by rw [rowI_len]; omega)) rfl ?_; refine W.q (.lda1 1 0 0 (.t rfl) rfl (rowI_get hpos) rfl rfl rfl rfl ag3) rfl ?_; refine W.mapnew 0 (ks := []) (k := cl 0) (f := fun n : Int => Value.int .i64 n) (.t rfl) rfl (.t rfl) .k Tryz.underlying150 (KeyKind.int Tryz.underlying3) (by simp) _ (.inr rfl) ?_; refine W.q (.move (.t rfl)) rfl ?_; refine W.q (.assign (.t rfl)) rfl ?_; refine W.n ?_; refine W.h ?_; refine W.s ?_; refine W.r ?_; refine W.bso (es := [_]) Tryz.underlying22 ty3 ⟨rfl, .k, rfl, rfl, trivial⟩ rfl (by decide) rfl rfl ?_; intro v32; refine W.q (.assign (.t rfl)) rfl ?_; refine W.n ?_; refine W.h ?_; refine W.s ?_; refine W.r ?_; refine W.alloc ty62 rfl rfl ?_; intro b8; refine W.n ?_; refine W.h ?_; refine W.s ?_; refine W.s ?_; refine W.r ?_; refine W.q (.assign .k) rfl ?_; refine W.n ?_; refine W.h ?_; refine W.b ?_; refine W.own_nil 4 1 ?_; refine W.own_nil 22 1 ?_; refine W.loop (D := []) (ι := Nat × List Nat × (Nat → Nat → Int) × List (List Int) × List Bool × Value × Value × Value) (fun z => [(9, true, .int (z.1 : Int)), (7, true, .lit z.2.2.2.2.2.1), (1, true, .lit (.pointer (some ⟨b1, 0, none⟩))), (2, true, .lit (.pointer (some ⟨b2, 0, none⟩))), (4, true, .lit v16), (6, true, .lit (.map (some b27))), (8, true, .lit (.pointer (some ⟨b8, 0, none⟩)))]) (fun z => .arr z.2.2.2.2.2.2.1 22 1 (z.2.2.2.1.map pav) :: .arr z.2.2.2.2.2.2.2 4 1 (z.2.2.2.2.1.map AV.bool) :: .box b8 62 [.lit z.2.2.2.2.2.2.1, .lit z.2.2.2.2.2.2.2] :: .arr z.2.2.2.2.2.1 3 1 (z.2.1.map fun s : Nat => AV.int (s : Int)) :: .obj b27 (mObj ((z.2.1.map cl).map fun n : Int => Value.int .i64 n)) :: .arr v16 3 1 (rowI w.next.length cl) :: .box b2 62 [.lit (.slice none 0 0), .lit (.slice none 0 0)] :: .box b1 99 [.sl 8 (w.next.map wrow), .sl 1 (w.final.map AV.bool)] :: M0) (fun z => Au.Bfs w cl z.2.1 z.2.2.1 z.1 0 ∧ z.1 ≤ z.2.1.length ∧ z.2.2.2.1 = Au.rowsL z.1 z.2.2.1 ∧ z.2.2.2.2.1 = (z.2.1.take z.1).map fun k => w.final.getD k false) (fun z => 101 - z.1) (0, [0], (fun _ _ => 0), [], [], v32, .slice none 0 0, .slice none 0 0) ⟨rfl, rfl, rfl, rfl, rfl, rfl, rfl, trivial⟩ (by rw [List.append_nil]; exact .refl _) ⟨Au.Bfs.start _ hs h20, Nat.zero_le _, rfl, rfl⟩ ?_
  rintro ⟨i, S, T, Ns, Fs, vs, vn, vf⟩ ⟨hB, hi, hNs, hFs⟩
  dsimp only at hB hi hNs hFs ⊢
  have hSl := hB.len
  have hml : (S.map fun s : Nat => AV.int (s : Int)).length = S.length := List.length_map ..
  have hNl : Ns.length = i := by rw [hNs, Au.rowsL_len]
  have hFl : Fs.length = i := by rw [hFs, List.length_map, List.length_take]; omega
  rcases (show i < S.length ∨ i = S.length from by omega) with hi | hend
  ·have hgS := getD_mapG (fun s : Nat => AV.int (s : Int)) 0 S i hi
   have hlt := (hB.lt i hi).1
   have hga := wrow_get hs hlt
   refine W.s (.s (.r (.mv rfl rfl (.mv rfl rfl ?_)))); refine W.q (.lenar (i := 3) (.t rfl) rfl Tryz.underlying22) rfl ?_
   refine W.q (.lti (.t rfl) (.t rfl)) rfl ?_; refine W.n ?_; refine W.h ?_; refine W.isb 36 true rfl (by exact decide_eq_true (by omega)) ?_; refine W.condT (.t rfl) ?_; refine W.k ?_; refine W.h ?_; refine W.s ?_; refine W.b ?_; refine W.s ?_; refine W.r ?_; refine W.mk (n := 8) .k .k Tryz.underlying22 ty3 rfl rfl rfl rfl rfl (by omega) rfl ?_; intro v39; refine W.q (.assign (.t rfl)) rfl ?_; refine W.n ?_; refine W.h ?_; refine W.s ?_; refine W.s ?_; refine W.drawn (by kernel_rfl) (by kernel_rfl) ?_
   refine DP.q (.fab (.t rfl) fa99_0) rfl (.q (.ldb1 8 (.t rfl) rfl ag97 rfl) rfl (.q (.move (.t rfl)) rfl (.q (.move (.t rfl)) rfl ?_))); refine DP.q (.ata 4 (.t rfl) rfl (.t rfl) Tryz.underlying22 ty3 (fun _ => by rw [List.length_map]; omega)) rfl ?_; refine DP.q (.lda1 4 i 0 (.t rfl) rfl hgS (by omega) rfl rfl rfl ag3) rfl ?_; refine DP.q (.at (E := 147) (.t rfl) (.t rfl) Tryz.underlying97 ty147 (fun _ => ⟨by omega, hga⟩) rfl rfl) rfl ?_; refine DP.q (.lden (.t rfl) ag147 ty147 rfl rfl) rfl (.q (.move .k) rfl (.nil ?_)); refine W.is (t := 47) (av' := r8av (fun c => w.to ((S.getD i 0 : Nat) : Int) (c : Int))) rfl rfl ?_; refine W.h (.b ?_)
   obtain ⟨St, hSt⟩ : ∃ St, S.take (i + 1) = St := ⟨_, rfl⟩
   have hFs1 : Fs = (St.take i).map fun k => w.final.getD k false := by rw [hFs, ← hSt, List.take_take, Nat.min_eq_left (by omega)]
   have hS0 : ∀ R : List Nat, R.take (i + 1) = St → i < R.length → R.getD i 0 = S.getD i 0 ∧ R.take i = St.take i := by
    intro R hR hl
    refine ⟨?_, by rw [← hR, List.take_take, Nat.min_eq_left (by omega)]⟩
    have := congrArg (fun l => l.getD i 0) (hR.trans hSt.symm)
    simp only [List.getD_eq_getElem?_getD, List.getElem?_take, if_pos (Nat.lt_succ_self i)] at this
    rw [List.getD_eq_getElem?_getD, List.getD_eq_getElem?_getD]; exact this
   generalize hs0 : S.getD i 0 = s0 at hS0 hgS hlt hga ⊢
   refine W.loop (D := []) (ι := Nat × List Nat × (Nat → Nat → Int) × Value) (fun z => [(48, true, .int (z.1 : Int)), (47, true, r8av (fun c => w.to (s0 : Int) (c : Int))), (10, true, .lit v39), (9, true, .int (i : Int)), (7, true, .lit z.2.2.2), (1, true, .lit (.pointer (some ⟨b1, 0, none⟩))), (2, true, .lit (.pointer (some ⟨b2, 0, none⟩))), (4, true, .lit v16), (6, true, .lit (.map (some b27))), (8, true, .lit (.pointer (some ⟨b8, 0, none⟩)))]) (fun z => .arr v39 3 1 (Au.rowV z.2.2.1 i z.1) :: .arr vn 22 1 (Ns.map pav) :: .arr vf 4 1 (Fs.map AV.bool) :: .box b8 62 [.lit vn, .lit vf] :: .arr z.2.2.2 3 1 (z.2.1.map fun s : Nat => AV.int (s : Int)) :: .obj b27 (mObj ((z.2.1.map cl).map fun n : Int => Value.int .i64 n)) :: .arr v16 3 1 (rowI w.next.length cl) :: .box b2 62 [.lit (.slice none 0 0), .lit (.slice none 0 0)] :: .box b1 99 [.sl 8 (w.next.map wrow), .sl 1 (w.final.map AV.bool)] :: M0) (fun z => Au.Bfs w cl z.2.1 z.2.2.1 i z.1 ∧ Ns = Au.rowsL i z.2.2.1 ∧ i < z.2.1.length ∧ z.1 ≤ 8 ∧ z.2.1.take (i + 1) = St) (fun z => 8 - z.1) (0, S, T, vs) ⟨rfl, rfl, rfl, rfl, rfl, rfl, rfl, rfl, rfl, rfl, trivial⟩ (by rw [List.append_nil]; exact .refl _) ⟨hB, hNs, hi, Nat.zero_le _, hSt⟩ ?_
   clear hB hi hml hSl hgS hs0 hSt hFs hNs
   clear hi
   clear S T vs
   rintro ⟨d, S, T, vs⟩ ⟨hB, hNs, hi, hd, hS⟩
   dsimp only at hB hNs hi hd hS ⊢
   obtain ⟨hs0, hSi⟩ := hS0 S hS hi
   have hFs : Fs = (S.take i).map fun k => w.final.getD k false := by rw [hSi]; exact hFs1
   have hSl := hB.len
   have hml : (S.map fun s : Nat => AV.int (s : Int)).length = S.length := List.length_map ..
   rcases (show d < 8 ∨ d = 8 from by omega) with hd8 | hend
   ·have hto := Au.to_range hs (i := (s0 : Int)) (c := (d : Int)) (by omega) (by omega) (by omega) (by omega)
    refine W.s ?_; refine W.r ?_; refine W.q (.lti (.t rfl) .k) rfl ?_; refine W.n ?_; refine W.h ?_; refine W.s ?_; refine W.isb 49 true rfl (by exact decide_eq_true (by omega)) ?_; refine W.condT (.t rfl) ?_; refine W.k ?_; refine W.h ?_; refine W.s ?_; refine W.b ?_; refine W.s ?_; refine W.r ?_; refine W.q (.move (.t rfl)) rfl ?_; refine W.q (.arrat (.t rfl) (.t rfl) Tryz.underlying147 Tryz.underlying3 (fun _ => ⟨by omega, by omega, row8_get _ d hd8⟩) ty3) rfl ?_; refine W.q (.assign (.t rfl)) rfl ?_; refine W.q (.assign (.t rfl)) rfl ?_; refine W.n ?_; refine W.h ?_; refine W.s ?_; refine W.r ?_; refine W.q (.move (.t rfl)) rfl ?_; refine W.q (.move (.t rfl)) rfl ?_; refine W.q (.ata 0 (.t rfl) rfl (.t rfl) Tryz.underlying22 ty3 (fun hg => by rw [Au.rowV_len]; omega)) rfl ?_; refine W.sta 0 d 0 (e := AV.int _) (e' := AV.int (-1)) (.t rfl) .k rfl (row8_get _ d hd8) (by omega) ty3 rfl rfl rfl rfl rfl rfl rfl ?_; refine W.n ?_; refine W.h ?_; refine W.s ?_; refine W.s ?_; refine W.r ?_; refine W.q (.move (.t rfl)) rfl ?_; refine W.q (.lti (.t rfl) .k) rfl ?_; refine W.q (.move (.t rfl)) rfl ?_; refine W.qgF rfl rfl (.move (.t rfl)) rfl ?_; refine W.qgF rfl rfl (.move (.t rfl)) rfl ?_; refine W.qgF rfl rfl (.ata 6 (.c rfl) rfl (.c rfl) Tryz.underlying22 ty3 (fun hg => ⟨by simpa using hg, by rw [rowI_len]; omega⟩)) rfl ?_; refine W.qgF rfl rfl (.lda1 6 (w.to (s0 : Int) (d : Int)).toNat 0 (.c rfl) rfl (rowI_get (by omega)) (by omega) rfl rfl rfl ag3) rfl ?_; refine W.qgF rfl rfl (.lti (.c rfl) .k) rfl ?_; refine W.q (.or (.t rfl) ⟨_, _, rfl, rfl, by ((simp; done))⟩) rfl ?_; refine W.n ?_; refine W.h ?_; refine W.cond (.t rfl) (fun hc_t63 => ?_) (fun hc_t63 => ?_)
    ·have hneg : w.cto cl (S.getD i 0) d < 0 := by
      rw [hs0]
      unfold Au.cto
      by_cases h0 : 0 ≤ w.to (s0 : Int) (d : Int)
      ·rw [if_pos h0]
       simpa [show ¬ (w.to (s0 : Int) (d : Int) < 0) from by omega] using hc_t63
      ·rw [if_neg h0]; decide
     refine W.ex (.he (.bh (.h (.r (.q (.add (.t rfl) .k (fun _ => by omega)) rfl (.mv rfl rfl (.n (.h ?_))))))))
     have h9 := (hB.setI (-1)).none (Au.setI_at _ _ _ _) hneg
     refine W.reach (D := []) (d + 1, S, Au.setI T i d (-1), vs) ⟨rfl, rfl, rfl, rfl, rfl, rfl, rfl, rfl, rfl, rfl, trivial⟩ ?_ ⟨⟨h9, ?_, ?_, hd8, ?_⟩, by show 8 - (d + 1) < 8 - d; omega⟩
     ·rw [List.append_nil]; (try dsimp only); rw [← Au.rowV_step T i d _ hd8]; exact .refl _
     ·dsimp only; rw [Au.rowsL_set]; exact hNs
     ·dsimp only; exact hi
     ·dsimp only; exact hS
    ·obtain ⟨hto0, hcl0⟩ : 0 ≤ w.to (s0 : Int) (d : Int) ∧ 0 ≤ cl (w.to (s0 : Int) (d : Int)).toNat := by
      have h := hc_t63
      simp only [Bool.or_eq_false_iff, decide_eq_false_iff_not] at h
      omega
     have hset : ∀ x : Int, ((Au.rowV T i d).set d (AV.int (-1))).set d (AV.int x) = (Au.rowV T i d).set d (AV.int x) := fun x => List.set_set ..
     refine W.k (.h (.s (.r (.mv rfl rfl (.mv rfl rfl (.mv rfl rfl ?_)))))); refine W.q (.ata 6 (.t rfl) rfl (.t rfl) Tryz.underlying22 ty3 (fun hg => by rw [rowI_len]; omega)) rfl ?_; refine W.q (.lda1 6 (w.to (s0 : Int) (d : Int)).toNat 0 (.t rfl) rfl (rowI_get (by omega)) (by omega) rfl rfl rfl ag3) rfl (.q (.look2 5 (.t rfl) rfl (.t rfl) Tryz.underlying150 (KeyKind.int Tryz.underlying3) ty3) rfl ?_)
     refine W.q (.move (.t rfl)) rfl ?_; refine W.q (.extract (.t rfl) rfl) rfl ?_; refine W.q (.extract (.t rfl) rfl) rfl ?_; refine W.q (.assign (.t rfl)) rfl ?_; refine W.q (.assign (.t rfl)) rfl ?_; refine W.n ?_; refine W.h ?_; refine W.s ?_; refine W.s ?_; refine W.r ?_; refine W.q (.move (.t rfl)) rfl ?_; refine W.q (.not (.t rfl)) rfl ?_; refine W.n ?_; refine W.h ?_; refine W.cond (.t rfl) (fun hc_t74 => ?_) (fun hc_t74 => ?_)
     ·have hnew : cl (w.to (s0 : Int) (d : Int)).toNat ∉ S.map cl := by
       rw [← place_none]
       cases hp : place (cl (w.to (s0 : Int) (d : Int)).toNat) (S.map cl) with
       | none => rfl
       | some j => rw [hp] at hc_t74; simp at hc_t74
      have hnewk := Au.Bfs.fresh hnew
      have hsnoc : (S ++ [(w.to (s0 : Int) (d : Int)).toNat]).map (fun s : Nat => AV.int (s : Int)) = S.map (fun s : Nat => AV.int (s : Int)) ++ [AV.int (w.to (s0 : Int) (d : Int))] := by rw [List.map_append]; show _ ++ [AV.int (((w.to (s0 : Int) (d : Int)).toNat : Nat) : Int)] = _; rw [Int.toNat_of_nonneg hto0]
      have hkey : S.map cl ++ [cl (w.to (s0 : Int) (d : Int)).toNat] = (S ++ [(w.to (s0 : Int) (d : Int)).toNat]).map cl := by rw [List.map_append]; rfl
      refine W.s (.r (.mv rfl rfl ?_)); refine W.q (.lenar (i := 4) (.t rfl) rfl Tryz.underlying22) rfl ?_; refine W.is (t := 76) (av' := .int (S.length : Int)) rfl (by rw [List.length_map]) ?_; refine W.asg rfl rfl (.n (.h (.s (.r (.mv rfl rfl (.mv rfl rfl (.mv rfl rfl ?_))))))); refine W.q (.ata 6 (.t rfl) rfl (.t rfl) Tryz.underlying22 ty3 (fun hg => by rw [rowI_len]; omega)) rfl ?_; refine W.q (.lda1 6 (w.to (s0 : Int) (d : Int)).toNat 0 (.t rfl) rfl (rowI_get (by omega)) (by omega) rfl rfl rfl ag3) rfl (.mv rfl rfl ?_); refine W.is (t := 82) (av' := .int ((S.map cl).length : Int)) rfl (by rw [List.length_map]) ?_; refine W.mapnew 5 (ks := S.map cl) (k := cl (w.to (s0 : Int) (d : Int)).toNat) (f := fun n : Int => Value.int .i64 n) (.t rfl) rfl (.t rfl) (.t rfl) Tryz.underlying150 (KeyKind.int Tryz.underlying3) hnew _ (.inl rfl) ?_; refine W.n (.h (.r (.mv rfl rfl (.mv rfl rfl ?_)))); refine W.bs (es := [_]) Tryz.underlying22 ty3 ⟨rfl, (.t rfl), rfl, rfl, trivial⟩ rfl (by decide) rfl rfl ?_; refine W.app 4 (.t rfl) rfl (.sl (.t rfl) (by intro e he; rw [List.mem_singleton.1 he]; rfl)) Tryz.underlying22 ni22 ty3 rfl rfl (by rw [List.length_map]; simp only [List.length_cons, List.length_nil]; omega) rfl ?_
      intro v86; refine W.q (.assign (.t rfl)) rfl ?_; refine W.n ?_; refine W.h ?_; refine W.r ?_; refine W.q (.move (.t rfl)) rfl ?_; refine W.q (.move (.t rfl)) rfl ?_; refine W.q (.move (.t rfl)) rfl ?_; refine W.q (.ata 0 (.t rfl) rfl (.t rfl) Tryz.underlying22 ty3 (fun hg => by rw [List.length_set, Au.rowV_len]; omega)) rfl ?_; refine W.sta 0 d 0 (e := AV.int (-1)) (e' := AV.int _) (.t rfl) (.t rfl) rfl (by rw [List.getElem?_set_self (by rw [Au.rowV_len]; exact hd8)]) (by omega) ty3 rfl rfl rfl rfl rfl rfl rfl ?_; refine W.n ?_; refine W.bn ?_; refine W.h ?_; refine W.r ?_
      refine W.q (.add (.t rfl) .k (fun _ => by omega)) rfl (.mv rfl rfl (.n (.h ?_)))
      have h9 := (hB.setI (S.length : Int)).new (Au.setI_at _ _ _ _) hi hd8 (t := (w.to (s0 : Int) (d : Int)).toNat) (by omega) (by rw [hs0]; omega) (by omega) hnewk
      refine W.reach (D := []) (d + 1, S ++ [(w.to (s0 : Int) (d : Int)).toNat], Au.setI T i d (S.length : Int), _) ⟨rfl, rfl, rfl, rfl, rfl, rfl, rfl, rfl, rfl, rfl, trivial⟩ ?_ ⟨⟨h9, ?_, ?_, hd8, ?_⟩, by show 8 - (d + 1) < 8 - d; omega⟩
      ·rw [List.append_nil]; (try dsimp only); rw [← Au.rowV_step T i d _ hd8, hsnoc, ← hkey, ← hset (S.length : Int)]; exact .refl _
      ·dsimp only; rw [Au.rowsL_set]; exact hNs
      ·dsimp only; rw [List.length_append]; omega
      ·dsimp only; rw [← hS, List.take_append_of_le_length (by omega)]
     ·obtain ⟨j, hj⟩ : ∃ j, place (cl (w.to (s0 : Int) (d : Int)).toNat) (S.map cl) = some j := by
       cases hp : place (cl (w.to (s0 : Int) (d : Int)).toNat) (S.map cl) with
       | none => rw [hp] at hc_t74; simp at hc_t74
       | some j => exact ⟨j, rfl⟩
      obtain ⟨hjl, hje⟩ := hB.plc hj
      refine W.is (t := 13) (av' := .int (j : Int)) rfl (by rw [hj]; rfl) ?_; refine W.k ?_; refine W.h ?_; refine W.r ?_; refine W.q (.move (.t rfl)) rfl ?_; refine W.q (.move (.t rfl)) rfl ?_; refine W.q (.move (.t rfl)) rfl ?_; refine W.q (.ata 0 (.t rfl) rfl (.t rfl) Tryz.underlying22 ty3 (fun hg => by rw [List.length_set, Au.rowV_len]; omega)) rfl ?_; refine W.sta 0 d 0 (e := AV.int (-1)) (e' := AV.int _) (.t rfl) (.t rfl) rfl (by rw [List.getElem?_set_self (by rw [Au.rowV_len]; exact hd8)]) (by omega) ty3 rfl rfl rfl rfl rfl rfl rfl ?_; refine W.n ?_; refine W.bn ?_; refine W.h ?_; refine W.r ?_
      refine W.q (.add (.t rfl) .k (fun _ => by omega)) rfl (.mv rfl rfl (.n (.h ?_)))
      have h9 := (hB.setI (j : Int)).old (Au.setI_at _ _ _ _) hjl (by rw [hs0]; unfold Au.cto; rw [if_pos hto0]; exact hje)
      refine W.reach (D := []) (d + 1, S, Au.setI T i d (j : Int), vs) ⟨rfl, rfl, rfl, rfl, rfl, rfl, rfl, rfl, rfl, rfl, trivial⟩ ?_ ⟨⟨h9, ?_, ?_, hd8, ?_⟩, by show 8 - (d + 1) < 8 - d; omega⟩
      ·rw [List.append_nil]; (try dsimp only); rw [← Au.rowV_step T i d _ hd8, ← hset (j : Int)]; exact .refl _
      ·dsimp only; rw [Au.rowsL_set]; exact hNs
      ·dsimp only; exact hi
      ·dsimp only; exact hS
   ·subst hend
    have hgS := getD_mapG (fun s : Nat => AV.int (s : Int)) 0 S i hi
    have hgF := getD_mapG AV.bool false w.final (S.getD i 0) (by omega)
    rw [Au.rowV_done]
    refine W.freezeA (M1 := .arr vn 22 1 (Ns.map pav) :: .arr vf 4 1 (Fs.map AV.bool) :: .box b8 62 [.lit vn, .lit vf] :: .arr vs 3 1 (S.map fun s : Nat => AV.int (s : Int)) :: .obj b27 (mObj ((S.map cl).map fun n : Int => Value.int .i64 n)) :: .arr v16 3 1 (rowI w.next.length cl) :: .box b2 62 [.lit (.slice none 0 0), .lit (.slice none 0 0)] :: .box b1 99 [.sl 8 (w.next.map wrow), .sl 1 (w.final.map AV.bool)] :: M0) (M2 := .arr vn 22 1 (Ns.map pav) :: .arr vf 4 1 (Fs.map AV.bool) :: .box b8 62 [.lit vn, .lit vf] :: .arr vs 3 1 (S.map fun s : Nat => AV.int (s : Int)) :: .obj b27 (mObj ((S.map cl).map fun n : Int => Value.int .i64 n)) :: .arr v16 3 1 (rowI w.next.length cl) :: .box b2 62 [.lit (.slice none 0 0), .lit (.slice none 0 0)] :: .box b1 99 [.sl 8 (w.next.map wrow), .sl 1 (w.final.map AV.bool)] :: M0) (D := []) (v := v39) (L' := [(10, true, .sl 1 (row8 (T i)))]) (by rw [List.append_nil] <;> exact .refl _) ⟨⟨_, rfl, .one .hit⟩, trivial⟩ (FrzMs.refl _) ?_; refine W.s ?_; refine W.r ?_; refine W.q (.lti (.t rfl) .k) rfl ?_; refine W.n ?_; refine W.h ?_; refine W.s ?_; refine W.isb 49 false rfl (by rfl) ?_; refine W.condF (.t rfl) ?_; refine W.ex ?_; refine W.he ?_; refine W.he ?_; refine W.bh ?_; refine W.h ?_; refine W.drawnM (fun ee c_ => (bif ee 4 then ME.arr (c_ 4).2 22 1 (Ns.map pav ++ [.sl 1 (row8 (T i))]) else ME.arr vn 22 1 (Ns.map pav)) :: (bif ee 16 then ME.arr (c_ 16).2 4 1 (Fs.map AV.bool ++ [.bool (w.final.getD (S.getD i 0) false)]) else ME.arr vf 4 1 (Fs.map AV.bool)) :: ME.box b8 62 [bif ee 18 then .lit (c_ 4).2 else .lit vn, bif ee 20 then .lit (c_ 16).2 else .lit vf] :: .arr vs 3 1 (S.map fun s : Nat => AV.int (s : Int)) :: .obj b27 (mObj ((S.map cl).map fun n : Int => Value.int .i64 n)) :: .arr v16 3 1 (rowI w.next.length cl) :: .box b2 62 [.lit (.slice none 0 0), .lit (.slice none 0 0)] :: .box b1 99 [.sl 8 (w.next.map wrow), .sl 1 (w.final.map AV.bool)] :: M0) (c0 := ks0) (by kernel_rfl) (by kernel_rfl) rfl ?_
    refine DM.q (fun e c hk => (.fab (.t rfl) fa62_0)) rfl (fun _ _ => rfl) (fun _ _ _ => rfl) ?_
    refine DM.q (av := fun _ => .lit vn) (fun e c hk => by have h := hk.down 18 (by kernel_rfl); simp only [h, cond_false]; exact Ev.ldb1 2 (.t rfl) rfl ag59 rfl) rfl (fun _ _ => rfl) (fun _ _ _ => rfl) ?_; refine DM.q (fun e c hk => (.move (.t rfl))) rfl (fun _ _ => rfl) (fun _ _ _ => rfl) ?_; refine DM.bs (es := fun _ => [_]) Tryz.underlying59 ty22 (fun c => ⟨rfl, (.t rfl), rfl, rfl, trivial⟩) (fun _ => rfl) (by decide) rfl rfl (fun _ _ => rfl) (fun _ _ _ => rfl) ?_; refine DM.eff1 (av := fun c => .lit (c 4).2) rfl (fun c c_ h => by (simp only [h 4 (by (exact .inl rfl))])) (fun e c hk L_ hs Q h => ?_) ?_
    ·have hk_4 := hk.not
     have hk_16 := hk.down 16 (by kernel_rfl)
     have hk_18 := hk.down 18 (by kernel_rfl)
     have hk_20 := hk.down 20 (by kernel_rfl)
     simp only [addE, upd, eq_self, List.nil_append, List.cons_append, List.append_nil, hk_4, hk_16, hk_18, hk_20, Nat.reduceAdd, Nat.reduceEqDiff, ↓reduceIte, cond_true, cond_false] at h ⊢
     ((refine W.app 0 (.t (hs _ _ rfl)) rfl (.sl (.t (hs _ _ rfl)) (by intro e he; rw [List.mem_singleton.1 he]; rfl)) Tryz.underlying59 ni59 ty22 rfl rfl (by rw [List.length_map]; simp only [List.length_cons, List.length_nil]; omega) rfl ?_; exact fun v => h (0, v) _ (by (exact .refl _))))
    refine DM.q (fun e c hk => (.fab (.t rfl) fa62_1)) rfl (fun _ _ => rfl) (fun _ _ _ => rfl) ?_; refine DM.q (av := fun _ => .lit vf) (fun e c hk => by have h := hk.down 20 (by kernel_rfl); simp only [h, cond_false]; exact Ev.ldb1 2 (.t rfl) rfl ag60 rfl) rfl (fun _ _ => rfl) (fun _ _ _ => rfl) ?_; refine DM.q (fun e c hk => (.fab (.t rfl) fa99_1)) rfl (fun _ _ => rfl) (fun _ _ _ => rfl) (.q (fun e c hk => (.ldb1 7 (.t rfl) rfl ag60 rfl)) rfl (fun _ _ => rfl) (fun _ _ _ => rfl) (.q (fun e c hk => (.move (.t rfl))) rfl (fun _ _ => rfl) (fun _ _ _ => rfl) (.q (fun e c hk => (.move (.t rfl))) rfl (fun _ _ => rfl) (fun _ _ _ => rfl) ?_))); refine DM.q (fun e c hk => Ev.ata 3 (.t rfl) rfl (.t rfl) Tryz.underlying22 ty3 (fun _ => by rw [List.length_map]; omega)) rfl (fun _ _ => rfl) (fun _ _ _ => rfl) ?_; refine DM.q (fun e c hk => Ev.lda1 3 i 0 (.t rfl) rfl hgS (by omega) rfl rfl rfl ag3) rfl (fun _ _ => rfl) (fun _ _ _ => rfl) ?_; refine DM.q (fun e c hk => Ev.at (E := 4) (.t rfl) (.t rfl) Tryz.underlying60 ty4 (fun _ => ⟨by omega, hgF⟩) rfl rfl) rfl (fun _ _ => rfl) (fun _ _ _ => rfl) ?_; refine DM.q (fun e c hk => (.lde1 (.t rfl) ag4)) rfl (fun _ _ => rfl) (fun _ _ _ => rfl) ?_
    refine DM.bs (es := fun _ => [_]) Tryz.underlying60 ty4 (fun c => ⟨rfl, (.t rfl), rfl, rfl, trivial⟩) (fun _ => rfl) (by decide) rfl rfl (fun _ _ => rfl) (fun _ _ _ => rfl) ?_; refine DM.eff1 (av := fun c => .lit (c 16).2) rfl (fun c c_ h => by (simp only [h 4 (by (exact .inr (by kernel_rfl))), h 16 (by (exact .inl rfl))])) (fun e c hk L_ hs Q h => ?_) ?_
    ·have hk_16 := hk.not
     have hk_4 := hk.up 4 (by kernel_rfl)
     have hk_18 := hk.down 18 (by kernel_rfl)
     have hk_20 := hk.down 20 (by kernel_rfl)
     simp only [addE, upd, eq_self, List.nil_append, List.cons_append, List.append_nil, hk_16, hk_4, hk_18, hk_20, Nat.reduceAdd, Nat.reduceEqDiff, ↓reduceIte, cond_true, cond_false] at h ⊢
     ((refine W.app 1 (.t (hs _ _ rfl)) rfl (.sl (.t (hs _ _ rfl)) (by intro e he; rw [List.mem_singleton.1 he]; rfl)) Tryz.underlying60 ni60 ty4 rfl rfl (by rw [List.length_map]; simp only [List.length_cons, List.length_nil]; omega) rfl ?_; exact fun v => h (0, v) _ (by (exact .refl _))))
    refine DM.q (fun e c hk => (.fab (.t rfl) fa62_0)) rfl (fun _ _ => rfl) (fun _ _ _ => rfl) ?_
    refine DM.eff0 (fun e c hk L_ hs Q h => ?_) ?_
    ·have hk_18 := hk.not
     have hk_4 := hk.up 4 (by kernel_rfl)
     have hk_16 := hk.up 16 (by kernel_rfl)
     have hk_20 := hk.down 20 (by kernel_rfl)
     simp only [addE, upd, eq_self, List.nil_append, List.cons_append, List.append_nil, hk_18, hk_4, hk_16, hk_20, Nat.reduceAdd, Nat.reduceEqDiff, ↓reduceIte, cond_true, cond_false] at h ⊢
     refine W.arr_inv 0 rfl (fun a9 n9 c9 h9 => ?_)
     rw [h9] at h ⊢
     refine W.stb 2 (.t (hs _ _ rfl)) (.t ((hs _ _ rfl).trans (congrArg (fun v => some (true, AV.lit v)) h9))) rfl ty59 rfl rfl rfl ?_
     exact h
    refine DM.q (fun e c hk => (.fab (.t rfl) fa62_1)) rfl (fun _ _ => rfl) (fun _ _ _ => rfl) ?_
    refine DM.eff0 (fun e c hk L_ hs Q h => ?_) ?_
    ·have hk_20 := hk.not
     have hk_4 := hk.up 4 (by kernel_rfl)
     have hk_16 := hk.up 16 (by kernel_rfl)
     have hk_18 := hk.up 18 (by kernel_rfl)
     simp only [addE, upd, eq_self, List.nil_append, List.cons_append, List.append_nil, hk_20, hk_4, hk_16, hk_18, Nat.reduceAdd, Nat.reduceEqDiff, ↓reduceIte, cond_true, cond_false] at h ⊢
     refine W.arr_inv 1 rfl (fun a9 n9 c9 h9 => ?_)
     rw [h9] at h ⊢
     refine W.stb 2 (.t (hs _ _ rfl)) (.t ((hs _ _ rfl).trans (congrArg (fun v => some (true, AV.lit v)) h9))) rfl ty60 rfl rfl rfl ?_
     exact h
    refine DM.nil (fun cc e_ he_ => ?_)
    simp only [he_ 4 (by decide), he_ 16 (by decide), he_ 18 (by decide), he_ 20 (by decide), cond_true, cond_false]
    generalize (cc 4).2 = v96
    generalize (cc 16).2 = v108
    refine W.bn (.h (.r (.mv rfl rfl (.q (.add (.t rfl) .k (fun _ => by omega)) rfl ?_))))
    refine W.q (.assign (.t rfl)) rfl ?_; refine W.n ?_; refine W.h ?_; refine W.reach (D := []) (i + 1, S, T, Ns ++ [r8l (T i)], Fs ++ [w.final.getD (S.getD i 0) false], vs, v96, v108) ⟨rfl, rfl, rfl, rfl, rfl, rfl, rfl, trivial⟩ ?_ ⟨⟨hB.row, hi, ?_, ?_⟩, by show 101 - (i + 1) < 101 - i; omega⟩
    ·rw [List.append_nil]; (try dsimp only); rw [List.map_append (f := pav), List.map_append (f := AV.bool)]; exact .refl _
    ·dsimp only; rw [hNs, Au.rowsL_snoc]
    ·dsimp only; rw [take_getDG 0 S i hi, List.map_append, hFs]; rfl
  ·subst hend
   have hmd := hB.made hs hcls Fs (by rw [hFs, List.take_length])
   have hsz40 := hsz _ (.inl hmd.1) hmd.2
   have hNs2 : Ns = (Au.auOf S.length T Fs).next := hNs
   refine W.s (.s (.r (.mv rfl rfl (.mv rfl rfl ?_)))); refine W.q (.lenar (i := 3) (.t rfl) rfl Tryz.underlying22) rfl ?_; refine W.q (.lti (.t rfl) (.t rfl)) rfl (.n (.h ?_)); refine W.isb 36 false rfl (by exact decide_eq_false (by omega)) ?_; refine W.condF (.t rfl) (.ex (.he (.he (.bh (.h (.s (.s (.r (.q (.fab (.t rfl) fa62_0) rfl (.q (.ldb1 2 (.t rfl) rfl ag59 rfl) rfl ?_)))))))))); refine W.q (.lenar (i := 0) (.t rfl) rfl Tryz.underlying59) rfl ?_
   refine W.is (t := 113) (av' := .int (S.length : Int)) rfl (by rw [List.length_map, hNl]) ?_; refine W.q (.gti (.t rfl) .k) rfl ?_; refine W.n ?_; refine W.h ?_; refine W.isb 114 false rfl (by exact decide_eq_false (by rw [Au.auOf_len] at hsz40; omega)) ?_; refine W.condF (.t rfl) ?_; refine W.k ?_; refine W.h ?_; refine W.s ?_; refine W.r ?_; refine W.freezeA (M1 := .arr vf 4 1 (Fs.map AV.bool) :: .box b8 62 [.lit vn, .lit vf] :: .arr vs 3 1 (S.map fun s : Nat => AV.int (s : Int)) :: .obj b27 (mObj ((S.map cl).map fun n : Int => Value.int .i64 n)) :: .arr v16 3 1 (rowI w.next.length cl) :: .box b2 62 [.lit (.slice none 0 0), .lit (.slice none 0 0)] :: .box b1 99 [.sl 8 (w.next.map wrow), .sl 1 (w.final.map AV.bool)] :: M0) (M2 := .arr vf 4 1 (Fs.map AV.bool) :: .box b8 62 [.sl 1 (Ns.map pav), .lit vf] :: .arr vs 3 1 (S.map fun s : Nat => AV.int (s : Int)) :: .obj b27 (mObj ((S.map cl).map fun n : Int => Value.int .i64 n)) :: .arr v16 3 1 (rowI w.next.length cl) :: .box b2 62 [.lit (.slice none 0 0), .lit (.slice none 0 0)] :: .box b1 99 [.sl 8 (w.next.map wrow), .sl 1 (w.final.map AV.bool)] :: M0) (D := []) (v := vn) (L' := []) (by rw [List.append_nil] <;> exact .refl _) trivial (⟨.refl _, .box ⟨.hit, .refl _, trivial⟩, FrzMs.refl _⟩) ?_; refine W.freezeA (M1 := .box b8 62 [.sl 1 (Ns.map pav), .lit vf] :: .arr vs 3 1 (S.map fun s : Nat => AV.int (s : Int)) :: .obj b27 (mObj ((S.map cl).map fun n : Int => Value.int .i64 n)) :: .arr v16 3 1 (rowI w.next.length cl) :: .box b2 62 [.lit (.slice none 0 0), .lit (.slice none 0 0)] :: .box b1 99 [.sl 8 (w.next.map wrow), .sl 1 (w.final.map AV.bool)] :: M0) (M2 := .box b8 62 [.sl 1 (Ns.map pav), .sl 1 (Fs.map AV.bool)] :: .arr vs 3 1 (S.map fun s : Nat => AV.int (s : Int)) :: .obj b27 (mObj ((S.map cl).map fun n : Int => Value.int .i64 n)) :: .arr v16 3 1 (rowI w.next.length cl) :: .box b2 62 [.lit (.slice none 0 0), .lit (.slice none 0 0)] :: .box b1 99 [.sl 8 (w.next.map wrow), .sl 1 (w.final.map AV.bool)] :: M0) (D := []) (v := vf) (L' := []) (by rw [List.append_nil] <;> exact .refl _) trivial (⟨.box ⟨.refl _, .hit, trivial⟩, FrzMs.refl _⟩) ?_
   refine W.q (.ldbn 0 (.t rfl) rfl ag62 ty62 rfl) rfl (.stb 4 (.t rfl) (.t rfl) rfl ty62 rfl rfl rfl (.q (.assign .k) rfl (.n (.h ?_)))); refine W.ret ?_; refine W.retn (M' := M0) (D := _) (rs := [.cell 2 62, .tmp 3]) (avs := [_, _]) Tryz.results39 ⟨⟨_, _, _, rfl, by repeat (first | exact List.mem_cons_self | apply List.mem_cons_of_mem), rfl, by funext w; exact ag62.run w, by funext w; exact ty62.size w⟩, rfl, trivial⟩ rfl (List.perm_append_comm (l₁ := [_, _, _, _, _, _])) ?_
   exact ⟨_, .inl hmd.1, hmd.2, by rw [hNs2]; rfl, rfl⟩
end WOrder
end Go.Proofs.YtphlkdbglpcikaaGreatDoor
end
section
namespace Go.Proofs.YtphlkdbglpcikaaGreatDoor
open Go.Vl
open Y
namespace WParse1
theorem c_takesT (b : Nat) (c : UInt8) (r : List UInt8) : FnC Tryz.prog 65 [.lit (.pointer (some ⟨b, 0, none⟩)), .u8 c] [.box b 94 [.str (c :: r), .bool false]] (fun x M => x = .bool true ∧ M = [.box b 94 [.str (r), .bool false]]) :=  by
 refine FnC.mk Tryz.func65 (by kernel_rfl) rfl Tryz.ntmps65 rfl (fun w0 F => ?_)
 refine W.s (.r (.q (.assign .k) rfl (.n (.h (.s (.s (.r (.mv rfl rfl (.q (.nilc (.t rfl)) rfl (.q (.fab (.t rfl) fa94_0) rfl (.q (.ldb1 0 (.t rfl) rfl ag9 rfl) rfl (.q (.eqs (.t rfl) .k) rfl (.mv rfl rfl (.qgF rfl rfl (.move (.t rfl)) rfl (.qgF rfl rfl (.nilc (.c rfl)) rfl (.qgF rfl rfl (.fab (.c rfl) fa94_0) rfl (.qgF rfl rfl (.ldb1 0 (.c rfl) rfl ag9 rfl) rfl ?_))))))))))))))))); refine W.qgF rfl rfl (.ats (b := c) (.c rfl) .k Tryz.underlying9 (fun _ => ⟨by decide, rfl⟩)) rfl ?_; refine W.qgF rfl rfl (.move (.t rfl)) rfl (.qgF rfl rfl (.nei (.c rfl) (.c rfl)) rfl ?_); refine W.q (.or (.t rfl) ⟨_, _, rfl, rfl, by ((simp; done))⟩) rfl ?_; refine W.n (.h ?_); refine W.isb 18 false rfl (by simp) ?_; refine W.condF (.t rfl) (.k (.h (.s (.r (.mv rfl rfl (.mv rfl rfl (.q (.nilc (.t rfl)) rfl (.q (.fab (.t rfl) fa94_0) rfl (.q (.ldb1 0 (.t rfl) rfl ag9 rfl) rfl ?_))))))))); refine W.q (.subs (lo := some (.const (.int .i64 1))) (hi := none) (.t rfl) Tryz.underlying9 (Ov.k (g := true) (L := [])) rfl (fun _ => by simp only [List.length_cons]; omega)) rfl ?_; refine W.is (t := 24) (av' := .str (r)) rfl (congrArg AV.str (It.tail1 _ _)) ?_; refine W.q (.nilc (.t rfl)) rfl (.q (.fab (.t rfl) fa94_0) rfl (.stb 0 (.t rfl) (.t rfl) rfl ty9 rfl rfl rfl (.n (.h (.s (.r (.q (.assign .k) rfl (.n (.h ?_))))))))); refine W.ret ?_; refine W.retn (M' := [_]) (rs := [.tmp 4]) (avs := [_]) Tryz.results65 ⟨rfl, trivial⟩ rfl (.refl _) ?_
 exact ⟨rfl, rfl⟩
theorem c_takesD (b : Nat) (c d : UInt8) (r : List UInt8) (hcd : d ≠ c) : FnC Tryz.prog 65 [.lit (.pointer (some ⟨b, 0, none⟩)), .u8 c] [.box b 94 [.str (d :: r), .bool false]] (fun x M => x = .bool false ∧ M = [.box b 94 [.str (d :: r), .bool false]]) :=  by
 refine FnC.mk Tryz.func65 (by kernel_rfl) rfl Tryz.ntmps65 rfl (fun w0 F => ?_)
 have hn : ((d.toNat : Nat) : Int) ≠ (c.toNat : Int) := fun h => hcd (UInt8.toNat_inj.1 (by omega))
 refine W.s (.r (.q (.assign .k) rfl (.n (.h (.s (.s (.r (.mv rfl rfl (.q (.nilc (.t rfl)) rfl (.q (.fab (.t rfl) fa94_0) rfl (.q (.ldb1 0 (.t rfl) rfl ag9 rfl) rfl (.q (.eqs (.t rfl) .k) rfl (.mv rfl rfl (.qgF rfl rfl (.move (.t rfl)) rfl (.qgF rfl rfl (.nilc (.c rfl)) rfl (.qgF rfl rfl (.fab (.c rfl) fa94_0) rfl (.qgF rfl rfl (.ldb1 0 (.c rfl) rfl ag9 rfl) rfl ?_))))))))))))))))); refine W.qgF rfl rfl (.ats (b := d) (.c rfl) .k Tryz.underlying9 (fun _ => ⟨by decide, rfl⟩)) rfl ?_; refine W.qgF rfl rfl (.move (.t rfl)) rfl (.qgF rfl rfl (.nei (.c rfl) (.c rfl)) rfl ?_); refine W.q (.or (.t rfl) ⟨_, _, rfl, rfl, by ((simp; done))⟩) rfl ?_; refine W.n (.h ?_); refine W.isb 18 true rfl (by simp; omega) ?_; refine W.condT (.t rfl) (.s (.r (.q (.assign .k) rfl (.n (.h ?_))))); refine W.ret ?_; refine W.hr ?_; refine W.retn (M' := [_]) (rs := [.tmp 4]) (avs := [_]) Tryz.results65 ⟨rfl, trivial⟩ rfl (.refl _) ?_
 exact ⟨rfl, rfl⟩
theorem c_takesN (b : Nat) (c : UInt8) : FnC Tryz.prog 65 [.lit (.pointer (some ⟨b, 0, none⟩)), .u8 c] [.box b 94 [.str ([]), .bool false]] (fun x M => x = .bool false ∧ M = [.box b 94 [.str ([]), .bool false]]) :=  by
 refine FnC.mk Tryz.func65 (by kernel_rfl) rfl Tryz.ntmps65 rfl (fun w0 F => ?_)
 refine W.s (.r (.q (.assign .k) rfl (.n (.h (.s (.s (.r (.mv rfl rfl (.q (.nilc (.t rfl)) rfl (.q (.fab (.t rfl) fa94_0) rfl (.q (.ldb1 0 (.t rfl) rfl ag9 rfl) rfl (.q (.eqs (.t rfl) .k) rfl (.mv rfl rfl ?_))))))))))))); refine W.gnob rfl rfl (by simp) rfl ?_; refine W.gnob rfl rfl (by simp) rfl ?_; refine W.gnob rfl rfl (by simp) rfl ?_; refine W.gnob rfl rfl (by simp) rfl ?_; refine W.gnob rfl rfl (by simp) rfl ?_; refine W.gnob rfl rfl (by simp) rfl ?_; refine W.gnob rfl rfl (by simp) rfl ?_; refine W.q (.or (.t rfl) ⟨_, _, rfl, rfl, by ((simp; done))⟩) rfl ?_; refine W.n (.h ?_); refine W.isb 18 true rfl (by simp) ?_; refine W.condT (.t rfl) (.s (.r (.q (.assign .k) rfl (.n (.h ?_))))); refine W.ret ?_; refine W.hr ?_; refine W.retn (M' := [_]) (rs := [.tmp 4]) (avs := [_]) Tryz.results65 ⟨rfl, trivial⟩ rfl (.refl _) ?_
 exact ⟨rfl, rfl⟩
theorem c_takesF (b : Nat) (c : UInt8) (r : List UInt8) (h : ∀ t, r ≠ c :: t) : FnC Tryz.prog 65 [.lit (.pointer (some ⟨b, 0, none⟩)), .u8 c] [.box b 94 [.str (r), .bool false]] (fun x M => x = .bool false ∧ M = [.box b 94 [.str (r), .bool false]]) := by
 cases r with
 | nil => exact c_takesN b c
 | cons d t => exact c_takesD b c d t (fun e => h t (by rw [e]))
theorem c_together (k : Int) (l : List Ex) (hl : Ex.szs l ≤ 16777216) : FnP Tryz.prog 66 [.int k, .sl 3 (l.map Ex.av)] (Ex.tog k l).avx :=  by
 refine FnC.mk Tryz.func66 (by kernel_rfl) rfl Tryz.ntmps66 rfl (fun w0 F => ?_)
 have hll : (l.map Ex.av).length = l.length := List.length_map ..
 have hsl := Ex.szs_len l
 have hfs := Ex.flat_szs k l
 have hfl := Ex.szs_len (Ex.flat k l)
 refine W.s ?_; refine W.r ?_; refine W.alloc ty56 rfl rfl ?_; intro b4; refine W.n ?_; refine W.h ?_; refine W.s ?_; refine W.s ?_; refine W.r ?_; refine W.q (.move (.t rfl)) rfl ?_
 refine W.q (.lensl (.t rfl) Tryz.underlying54) rfl ?_
 refine W.q (.eqi (.t rfl) .k) rfl ?_; refine W.n ?_; refine W.h ?_; refine W.cond (.t rfl) (fun hc_t10 => ?_) (fun hc_t10 => ?_)
 ·obtain ⟨x1, hx1⟩ : ∃ x, l = [x] := List.length_eq_one_iff.1 (by have := eq_of_beq hc_t10; omega)
  subst hx1
  refine W.s (.r (.mv rfl rfl ?_)); refine W.q (.at (E := 56) (.t rfl) .k Tryz.underlying54 ty56 (e := x1.avx) (fun _ => ⟨by decide, by show (List.map Ex.av [x1])[0]? = _; rw [← Ex.av_eq]; rfl⟩) rfl rfl) rfl ?_; refine W.q (.lden (.t rfl) ag56 ty56 rfl rfl) rfl (.stb 0 (.t rfl) (.t rfl) rfl ty56 rfl rfl rfl (.n (.h ?_))); refine W.ret ?_; refine W.hr ?_; refine W.retn (M' := []) (D := _) (rs := [.cell 4 56]) (avs := [_]) Tryz.results66 ⟨⟨_, _, _, rfl, by (exact List.mem_cons_self), rfl, by funext w; exact ag56.run w, by funext w; exact ty56.size w⟩, trivial⟩ rfl (.refl _) ?_
  refine ⟨?_, rfl⟩
  (rfl)
 ·have h10 : l.length ≠ 1 := fun h => by rw [hll, h] at hc_t10; simp at hc_t10
  refine W.k ?_; refine W.h ?_; refine W.s ?_; refine W.r ?_; refine W.q (.move (.t rfl)) rfl ?_; refine W.q (.build ty56 st56 rfl (fun hg => ⟨_, _, _, rfl, (.t rfl), rfl, rfl, rfl, rfl⟩)) rfl ?_; refine W.alloc ty56 rfl rfl ?_; intro b5
  refine W.stb 0 (.t rfl) (.t rfl) rfl ty56 rfl rfl rfl (.n (.h (.s (.s (.r (.mv rfl rfl (.q (.lensl (.t rfl) Tryz.underlying54) rfl (.q (.move .k) rfl (.n (.h (.b ?_))))))))))); refine W.own_nil 56 3 ?_; refine W.perm (List.Perm.refl _) ?_; refine W.loop (D := []) (ι := Nat × Value) (fun z => [(18, true, .int (z.1 : Int)), (17, true, .int ((l.map Ex.av).length : Int)), (16, true, .sl 3 (l.map Ex.av)), (5, true, .lit (.pointer (some ⟨b5, 0, none⟩))), (0, true, .int k), (4, true, .lit (.pointer (some ⟨b4, 0, none⟩)))]) (fun z => [.arr z.2 56 3 ((Ex.flat k (l.take z.1)).map Ex.av), .box b5 56 [.int k, .int 0, .lit z.2], .box b4 56 [.int 0, .int 0, .lit (.slice none 0 0)]]) (fun z => z.1 ≤ l.length) (fun z => l.length - z.1) (0, .slice none 0 0) ⟨rfl, rfl, rfl, rfl, rfl, rfl, trivial⟩ (.refl _) (Nat.zero_le _) ?_
  rintro ⟨i, v⟩ hi
  dsimp only at hi ⊢
  rcases (show i < l.length ∨ i = l.length from by omega) with hlt | hend
  ·have hga := Ex.at_av l i hlt
   have hsn := Ex.flat_snoc k l i hlt
   have hsz := Ex.szs_mem (getD_memG Ex.dflt l i hlt)
   have hft := Ex.flat_take k l i
   generalize hd : l.getD i Ex.dflt = d at hga hsn hsz
   have hse := Ex.sz_eq d
   refine W.s (.r (.q (.lti (.t rfl) (.t rfl)) rfl (.n (.h (.s ?_))))); refine W.isb 19 true rfl (by exact decide_eq_true (by omega)) ?_; refine W.condT (.t rfl) (.k (.h (.s (.b (.s (.r ?_)))))); refine W.q (.at (E := 56) (.t rfl) (.t rfl) Tryz.underlying54 ty56 (fun _ => ⟨by omega, hga⟩) rfl rfl) rfl ?_; refine W.q (.lden (.t rfl) ag56 ty56 rfl rfl) rfl ?_
   refine W.alloc ty56 rfl rfl ?_; intro b7
   refine W.stb 0 (.t rfl) (.t rfl) rfl ty56 rfl rfl rfl (.n (.h (.s (.r (.q (.fab (.t rfl) fa56_0) rfl (.q (.ldb1 0 (.t rfl) rfl ag3 rfl) rfl ?_))))))
   refine W.q (.move (.t rfl)) rfl ?_; refine W.q (.eqi (.t rfl) (.t rfl)) rfl ?_; refine W.n ?_; refine W.h ?_; refine W.cond (.t rfl) (fun hc_t25 => ?_) (fun hc_t25 => ?_)
   ·have hek : d.kind = k := eq_of_beq hc_t25
    refine W.r (.q (.fab (.t rfl) fa56_2) rfl (.q (.ldb1 2 (.t rfl) rfl ag54 rfl) rfl (.q (.fab (.t rfl) fa56_2) rfl (.q (.ldb1 0 (.t rfl) rfl ag54 rfl) rfl ?_)))); refine W.app 1 (.t rfl) rfl (.sl (.t rfl) (Ex.okc_avs _)) Tryz.underlying54 ni54 ty56 rfl rfl (by rw [List.length_map, List.length_map]; have := Ex.szs_len d.parts; omega) rfl ?_
    intro v30; refine W.arr_inv 1 rfl (fun a30 n30 c30 h30 => ?_)
    subst h30
    refine W.q (.fab (.t rfl) fa56_2) rfl (.stb 2 (.t rfl) (.t rfl) rfl ty54 rfl rfl rfl (.n (.bn (.h (.r (.q (.add (.t rfl) .k (fun _ => by omega)) rfl (.mv rfl rfl (.n (.h ?_)))))))))
    first
    | (rw [if_pos hek] at hsn; refine W.reach (D := [_]) (i + 1, _) ⟨rfl, rfl, rfl, rfl, rfl, rfl, trivial⟩ (by rw [hsn, List.map_append]; exact (List.perm_middle (l₁ := [_])).symm.trans (List.Perm.cons _ (List.perm_append_comm (l₁ := [_])))) ⟨by show i + 1 ≤ _; omega, by show _ - (i + 1) < _; omega⟩)
    | (rw [if_neg hek] at hsn; refine W.reach (D := [_]) (i + 1, _) ⟨rfl, rfl, rfl, rfl, rfl, rfl, trivial⟩ (by rw [hsn, Ex.map_snoc]; exact (List.perm_middle (l₁ := [_])).symm.trans (List.Perm.cons _ (List.perm_append_comm (l₁ := [_])))) ⟨by show i + 1 ≤ _; omega, by show _ - (i + 1) < _; omega⟩)
   ·have hek : d.kind ≠ k := beq_eq_false_iff_ne.1 hc_t25
    refine W.r (.q (.fab (.t rfl) fa56_2) rfl (.q (.ldb1 2 (.t rfl) rfl ag54 rfl) rfl (.q (.ldbn 0 (.t rfl) rfl ag56 ty56 rfl) rfl ?_))); refine W.bs (es := [_]) Tryz.underlying54 ty56 ⟨rfl, (.t rfl), rfl, rfl, trivial⟩ rfl (by decide) rfl rfl ?_; refine W.app 1 (.t rfl) rfl (.sl (.t rfl) (by simp [AV.okc, shV])) Tryz.underlying54 ni54 ty56 rfl rfl (by rw [List.length_map]; simp only [List.length_cons, List.length_nil]; omega) rfl ?_
    intro v36; refine W.arr_inv 1 rfl (fun a36 n36 c36 h36 => ?_)
    subst h36
    refine W.q (.fab (.t rfl) fa56_2) rfl (.stb 2 (.t rfl) (.t rfl) rfl ty54 rfl rfl rfl (.n (.bn (.h (.r (.q (.add (.t rfl) .k (fun _ => by omega)) rfl (.mv rfl rfl (.n (.h ?_)))))))))
    first
    | (rw [if_pos hek] at hsn; refine W.reach (D := [_]) (i + 1, _) ⟨rfl, rfl, rfl, rfl, rfl, rfl, trivial⟩ (by rw [hsn, List.map_append]; exact (List.perm_middle (l₁ := [_])).symm.trans (List.Perm.cons _ (List.perm_append_comm (l₁ := [_])))) ⟨by show i + 1 ≤ _; omega, by show _ - (i + 1) < _; omega⟩)
    | (rw [if_neg hek] at hsn; refine W.reach (D := [_]) (i + 1, _) ⟨rfl, rfl, rfl, rfl, rfl, rfl, trivial⟩ (by rw [hsn, Ex.map_snoc]; exact (List.perm_middle (l₁ := [_])).symm.trans (List.Perm.cons _ (List.perm_append_comm (l₁ := [_])))) ⟨by show i + 1 ≤ _; omega, by show _ - (i + 1) < _; omega⟩)
  ·rw [List.take_of_length_le (show l.length ≤ i from by omega)]
   refine W.s (.r (.q (.lti (.t rfl) (.t rfl)) rfl (.n (.h (.s ?_))))); refine W.isb 19 false rfl (by exact decide_eq_false (by omega)) ?_; refine W.condF (.t rfl) (.ex (.he (.he (.bh (.h (.s (.s (.r (.q (.fab (.t rfl) fa56_2) rfl (.q (.ldb1 1 (.t rfl) rfl ag54 rfl) rfl ?_)))))))))); refine W.q (.lenar (i := 0) (.t rfl) rfl Tryz.underlying54) rfl ?_
   refine W.q (.eqi (.t rfl) .k) rfl ?_; refine W.n ?_; refine W.h ?_; refine W.cond (.t rfl) (fun hc_t42 => ?_) (fun hc_t42 => ?_)
   ·obtain ⟨y1, hy1⟩ : ∃ y, Ex.flat k l = [y] := List.length_eq_one_iff.1 (by have := eq_of_beq hc_t42; rw [List.length_map] at this; omega)
    refine W.s (.r (.q (.fab (.t rfl) fa56_2) rfl (.q (.ldb1 1 (.t rfl) rfl ag54 rfl) rfl ?_))); refine W.q (.ata 0 (.t rfl) rfl .k Tryz.underlying54 ty56 (fun _ => by rw [List.length_map, hy1]; simp)) rfl ?_; refine W.q (.ldan 0 0 (e := y1.avx) (.t rfl) rfl (by rw [hy1, ← Ex.av_eq]; rfl) rfl rfl ag56 ty56) rfl ?_; refine W.stb 2 (.t rfl) (.t rfl) rfl ty56 rfl rfl rfl (.n (.h ?_)); refine W.ret ?_; refine W.hr ?_; refine W.retn (M' := []) (D := _) (rs := [.cell 4 56]) (avs := [_]) Tryz.results66 ⟨⟨_, _, _, rfl, by (exact List.mem_cons_of_mem _ (List.mem_cons_of_mem _ List.mem_cons_self)), rfl, by funext w; exact ag56.run w, by funext w; exact ty56.size w⟩, trivial⟩ rfl (.refl _) ?_
    refine ⟨?_, rfl⟩
    ((rw [Ex.tog_y k l y1 h10 hy1]; rfl))
   ·have h42 : (Ex.flat k l).length ≠ 1 := fun h => by rw [List.length_map, h] at hc_t42; simp at hc_t42
    refine W.k (.h (.s (.r ?_))); refine W.freezeA (M1 := [.box b5 56 _, _]) (M2 := [.box b5 56 [.int k, .int 0, .sl 3 ((Ex.flat k l).map Ex.av)], _]) (D := []) (v := v) (L' := []) (.refl _) trivial ⟨.box ⟨.refl _, .refl _, .hit, trivial⟩, .refl _, trivial⟩ ?_; refine W.q (.ldbn 0 (.t rfl) rfl ag56 ty56 rfl) rfl (.stb 1 (.t rfl) (.t rfl) rfl ty56 rfl rfl rfl (.n (.h ?_))); refine W.ret ?_; refine W.retn (M' := []) (D := _) (rs := [.cell 4 56]) (avs := [_]) Tryz.results66 ⟨⟨_, _, _, rfl, by (exact List.mem_cons_of_mem _ List.mem_cons_self), rfl, by funext w; exact ag56.run w, by funext w; exact ty56.size w⟩, trivial⟩ rfl (.refl _) ?_
    refine ⟨?_, rfl⟩
    ((rw [Ex.tog_n k l h10 h42]; rfl))
end WParse1
end Go.Proofs.YtphlkdbglpcikaaGreatDoor
end
section
namespace Go.Vl
def esc1 (q : Bool) (c : UInt8) : List UInt8 := if c = 38 then [38, 97, 109, 112, 59] else if c = 60 then [38, 108, 116, 59] else if c = 62 then [38, 103, 116, 59] else if c = 34 ∧ q = true then [38, 113, 117, 111, 116, 59] else [c]
def esc (q : Bool) (s : List UInt8) : List UInt8 := s.flatMap (esc1 q)
structure Tk where
 kind : Int
 name : List UInt8
 attrs : List Dc
 self : Bool
 text : List UInt8
def attrS (a : Dc) : List UInt8 := (([32] ++ a.1) ++ [61, 34] ++ esc true a.2) ++ [34]
def tagS (name : List UInt8) (attrs : List Dc) (self : Bool) : List UInt8 := (([60] ++ name) ++ attrs.flatMap attrS ++ (if self then [47] else [])) ++ [62]
structure okAt (l : List Dc) : Prop where
 len : l.length ≤ 4
 all : ∀ a ∈ l, nameOk a.1 = true ∧ a.1.length ≤ 1000
 one : ∀ i, i < l.length → ((l.take i).any fun b => (l.getD i ([], [])).1 == b.1) = false
namespace Tk
abbrev dfl : Tk := ⟨0, [], [], false, []⟩
def txt (t : Tk) : List UInt8 := if t.kind = 1 then tagS t.name t.attrs t.self else if t.kind = 2 then ([60, 47] ++ t.name) ++ [62] else esc false t.text
abbrev nm5 : List (List UInt8) := [[112], [98], [105], [108, 105], [104, 45, 49]]
abbrev tx7 : List (List UInt8) := [[120], [97, 60, 98], [38, 97, 109, 112, 59], [34, 113, 34], [60, 112, 62], [32, 62, 32], [38, 35, 54, 48, 59]]
abbrev vl6 : List (List UInt8) := [[], [120], [97, 34, 98], [60, 38, 62], [97, 32, 98], [38, 108, 116, 59]]
abbrev at2 : List (List UInt8) := [[99, 108, 97, 115, 115], [104, 114, 101, 102]]
def drawn (t : Tk) : Prop := (t.kind = 1 ∧ t.name ∈ nm5 ∧ (t.attrs.map (·.1) = at2.take t.attrs.length ∧ ∀ a ∈ t.attrs, a.2 ∈ vl6) ∧ t.text = []) ∨ (t.kind = 2 ∧ t.name ∈ nm5 ∧ t.attrs = [] ∧ t.self = false ∧ t.text = []) ∨ (t.kind = 3 ∧ t.name = [] ∧ t.attrs = [] ∧ t.self = false ∧ t.text ∈ tx7)
end Tk
end Go.Vl
end
section
namespace Go.Vl
abbrev Pc := UInt8 × Bool
namespace Pc
def nm (c : UInt8) : List UInt8 := if c = 38 then [97, 109, 112] else if c = 60 then [108, 116] else if c = 62 then [103, 116] else [113, 117, 111, 116]
def txt (p : Pc) : List UInt8 := if p.2 = true then 38 :: (nm p.1 ++ [59]) else [p.1]
def ok (p : Pc) : Prop := if p.2 = true then (p.1 = 38 ∨ p.1 = 60 ∨ p.1 = 62 ∨ p.1 = 34) else p.1 ≠ 38
def flat (e : List Pc) : List UInt8 := e.flatMap txt
def of (q : Bool) (c : UInt8) : Pc := (c, decide (c = 38 ∨ c = 60 ∨ c = 62 ∨ (c = 34 ∧ q = true)))
abbrev dfl : Pc := (0, false)
end Pc
open Go Go.Sem
theorem idx_lib (c : UInt8) : ∀ l : List UInt8, Lib.indexByte l c = idxI (fun b => b == c) l
 | [] => rfl
 | b :: l => by
  have ih := idx_lib c l
  have hg := idxI_ge (fun b => b == c) l
  rw [Lib.indexByte, idxI, ih]
  by_cases h : (b == c) = true
  ·rw [if_pos h, if_pos h]
  ·rw [if_neg h, if_neg h]
   by_cases h2 : idxI (fun b => b == c) l = -1
   ·rw [h2]; rfl
   ·rw [if_neg (by simpa using h2), if_neg (by omega)]
theorem Ev.ixb {x : Cx} {g : Bool} {L : List (Tmp × Bool × AV)} {M : List ME} {ty : TypeId} {o1 o2 : Operand} {f : FuncId} {fn : Func} {ats : Array TypeId} {l : List UInt8} {c : UInt8} (hf : x.P.funcs[f]? = some fn) (hname : (fn.name == "runtime.NumGoroutine") = false)
 (hb : fn.body.isNone = true) (hn : Extern.findNext fn = none) (he : Extern.find fn = some Extern.BytealgIndexByte.indexByte) (h1 : Ov g L o1 (.str l)) (h2 : Ov g L o2 (.lit (.int .u8 (c.toNat : Int)))) :
 Ev x g L M (.call ⟨.value (.func f), #[o1, o2], ats⟩) ty (.lit (.int .i64 (idxI (fun b => b == c) l))) :=
 Ev.pure fun a w hst hg => by
  have e1 : a.eval o1 = .string ⟨l.toArray⟩ := h1.lit hg hst
  have e2 : a.eval o2 = .int .u8 (c.toNat : Int) := h2.lit hg hst
  have hv : a.eval (.func f) = .func (.func f) #[] #[] := rfl
  have hc : ((c.toNat : Int)).toNat.toUInt8 = c := by simp
  have hr : (callFunc f #[.string ⟨l.toArray⟩, .int .u8 (c.toNat : Int)]).run x.P w = .ok (.value (.int .i64 (idxI (fun b => b == c) l))) w := by
   rw [run_callFunc_extern hf hname hb hn he, Lib.run_indexByteString, Result.andThen_ok, hc, idx_lib]
  simp only [execOp, resolve, hv, Deferred.ofValue, Sem.run_bind, Sem.run_pure, Result.andThen_ok, invoke, List.map_toArray, List.map_cons, List.map_nil, e1, e2]
  simpa using hr
end Go.Vl
end
section
namespace Go.Proofs.YtphlkdbglpcikaaGreatDoor
open Go.Vl
open Y
namespace WIndex
theorem c_IndexByte0 (l : List UInt8) (c : UInt8) : FnP Tryz.prog 131 [.str l, .lit (.int .u8 (c.toNat : Int))] (.int (idxI (fun b => b == c) l)) :=  by
 refine FnC.mk Tryz.func131 (by kernel_rfl) rfl Tryz.ntmps131 rfl (fun w0 F => ?_)
 refine W.s (.r (.q (.assign .k) rfl (.n (.h (.s (.r (.mv rfl rfl (.mv rfl rfl ?_)))))))); refine W.q (.ixb (fn := Tryz.f147) Tryz.func147 rfl rfl rfl rfl (.t rfl) (.t rfl)) rfl ?_; refine W.asg rfl rfl (.n (.h ?_)); refine W.ret ?_; refine W.retn (M' := []) (rs := [.tmp 4]) (avs := [_]) Tryz.results131 ⟨rfl, trivial⟩ rfl (.refl _) ?_
 exact ⟨rfl, rfl⟩
theorem c_IndexByte (l : List UInt8) (c : UInt8) : FnP Tryz.prog 118 [.str l, .lit (.int .u8 (c.toNat : Int))] (.int (idxI (fun b => b == c) l)) :=  by
 refine FnC.mk Tryz.func118 (by kernel_rfl) rfl Tryz.ntmps118 rfl (fun w0 F => ?_)
 refine W.s (.r (.q (.assign .k) rfl (.n (.h (.s (.r (.mv rfl rfl (.mv rfl rfl ?_)))))))); refine W.callp (c_IndexByte0 l c) ⟨(.t rfl), (.t rfl), trivial⟩ rfl ?_; refine W.asg rfl rfl (.n (.h ?_)); refine W.ret ?_; refine W.retn (M' := []) (rs := [.tmp 4]) (avs := [_]) Tryz.results118 ⟨rfl, trivial⟩ rfl (.refl _) ?_
 exact ⟨rfl, rfl⟩
end WIndex
end Go.Proofs.YtphlkdbglpcikaaGreatDoor
end
