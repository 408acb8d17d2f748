/-
  Merged: WOrder WParse1 Emit Ref WIndex WParse2 WFault.
-/
import Derived.Test.YtphlkdbglpcikaaGreatDoorG9
import Derived.Laws.Externs
import Derived.Lib.Bytealg
set_option linter.unusedVariables false
set_option linter.unusedSimpArgs false
set_option maxRecDepth 100000

section
namespace Go.Proofs.YtphlkdbglpcikaaGreatDoor
open Go.Vl
open Y
namespace WOrder
theorem c_order (w : Au) (hs : w.Shape) (hn : w.next.length ≤ 100) (M0 : List ME) (hI : ∀ n : Int, -1 ≤ n → n < 100 → FnC Tryz.prog 107 [.int n] M0 (fun r M => r = .str (itoa n) ∧ M = M0)) (hsz : ∀ a : Au, a.Ord → (∀ u, a.acc 0 u ↔ w.acc 0 u) → a.next.length ≤ 40) : FnC Tryz.prog 39 [.agg [.sl 8 (w.next.map wrow), .sl 1 (w.final.map AV.bool)]] M0 (fun r M => ∃ a : Au, a.Ord ∧ (∀ u, a.acc 0 u ↔ w.acc 0 u) ∧ r = .tup [.agg [.sl 1 (a.next.map pav), .sl 1 (a.final.map AV.bool)], .int 0] ∧ M = M0) :=  by
 refine FnC.mk Tryz.func39 (by kernel_rfl) rfl Tryz.ntmps39 rfl (fun w0 F => ?_)
 have hfin := hs.fin
 have hpos := hs.pos
 have hnl : (w.next.map wrow).length = w.next.length := List.length_map ..
 have hfl : (w.final.map AV.bool).length = w.final.length := List.length_map ..
 refine W.s ?_; refine W.r ?_; refine W.box (.t rfl) rfl rfl ?_; intro b1; refine W.alloc ty62 rfl rfl ?_; intro b2; refine W.q (.assign .k) rfl ?_; refine W.n ?_; refine W.h ?_; refine W.s ?_; refine W.r ?_
 refine W.q (.ldbn 1 (.t rfl) rfl ag99 ty99 rfl) rfl ?_; refine W.call (WClasses.c_classes w hs hn M0 hI) ⟨(.t rfl), trivial⟩ (List.perm_append_comm (l₁ := [_, _])) rfl ?_
 rintro _ _ ⟨v16, cl, rfl, rfl, hcls, hrg⟩
 refine W.perm (List.Perm.cons _ (List.perm_append_comm (l₂ := [_, _]))) ?_; refine W.q (.assign (.t rfl)) rfl ?_; refine W.n ?_; refine W.h ?_; refine W.s ?_; refine W.s ?_; refine W.r ?_; refine W.q (.move (.t rfl)) rfl ?_; refine W.q (.ata 0 (.t rfl) rfl .k Tryz.underlying22 ty3 (fun _ => by rw [rowI_len]; omega)) rfl ?_; refine W.q (.lda1 0 0 0 (.t rfl) rfl (rowI_get hpos) rfl rfl rfl rfl ag3) rfl ?_; refine W.q (.lti (.t rfl) .k) rfl ?_; refine W.n ?_; refine W.h ?_; refine W.cond (.t rfl) (fun hc_t20 => ?_) (fun hc_t20 => ?_)
 ·have h20 := of_decide_eq_true hc_t20
  have hdl := (hcls.neg 0 hpos).1 h20
  refine W.s (.r ?_); refine W.bs (es := [_]) Tryz.underlying22 ty3 ⟨rfl, .k, rfl, rfl, trivial⟩ rfl (by decide) rfl rfl ?_; refine W.call (WRepeat.c_Repeat8) ⟨(.t rfl), .k, trivial⟩ (.refl _) rfl ?_
  rintro _ _ ⟨v22, rfl, rfl⟩
  refine W.q (.assign (.t rfl)) rfl ?_; refine W.n ?_; refine W.h ?_; refine W.s ?_; refine W.r ?_; refine W.freezeA (M1 := .arr v16 3 1 (rowI w.next.length cl) :: .box b2 62 [.lit (.slice none 0 0), .lit (.slice none 0 0)] :: .box b1 99 [.sl 8 (w.next.map wrow), .sl 1 (w.final.map AV.bool)] :: M0) (M2 := .arr v16 3 1 (rowI w.next.length cl) :: .box b2 62 [.lit (.slice none 0 0), .lit (.slice none 0 0)] :: .box b1 99 [.sl 8 (w.next.map wrow), .sl 1 (w.final.map AV.bool)] :: M0) (D := []) (v := v22) (L' := [(5, true, .sl 1 (List.replicate 8 (AV.int (-1))))]) (by rw [List.append_nil] <;> exact .refl _) ⟨⟨_, rfl, .one .hit⟩, trivial⟩ (FrzMs.refl _) ?_; refine W.q (.move (.t rfl)) rfl ?_; refine W.bs (es := [_]) Tryz.underlying59 ty22 ⟨rfl, (.t rfl), rfl, rfl, trivial⟩ rfl (by decide) rfl rfl ?_; refine W.bs (es := [_]) Tryz.underlying60 ty4 ⟨rfl, .k, rfl, rfl, trivial⟩ rfl (by decide) rfl rfl ?_; refine W.q (.build ty62 st62 rfl (fun hg => ⟨_, _, _, rfl, (.t rfl), rfl, rfl, rfl, _, _, _, rfl, (.t rfl), rfl, rfl, rfl, rfl⟩)) rfl ?_
  refine W.stb 1 (.t rfl) (.t rfl) rfl ty62 rfl rfl rfl (.q (.assign .k) rfl (.n (.h ?_))); refine W.ret ?_; refine W.hr ?_; refine W.retn (M' := M0) (D := _) (rs := [.cell 2 62, .tmp 3]) (avs := [_, _]) Tryz.results39 ⟨⟨_, _, _, rfl, by repeat (first | exact List.mem_cons_self | apply List.mem_cons_of_mem), rfl, by funext w; exact ag62.run w, by funext w; exact ty62.size w⟩, rfl, trivial⟩ rfl (List.perm_append_comm (l₁ := [_, _, _])) ?_
  refine ⟨Au.dead, .inr rfl, fun u => ⟨fun h => absurd h (Au.dead_acc u), fun h => absurd ⟨u, h⟩ hdl⟩, rfl, rfl⟩
 ·have h20 : 0 ≤ cl 0 := Int.not_lt.1 (of_decide_eq_false hc_t20)
  refine W.k ?_; refine W.h ?_; refine W.s ?_; refine W.r ?_; refine W.mkmap rfl ?_; intro b27; refine W.q (.move (.t rfl)) rfl ?_; refine W.q (.ata 1 (.t rfl) rfl .k Tryz.underlying22 ty3 (fun _ => by rw [rowI_len]; omega)) rfl ?_; refine W.q (.lda1 1 0 0 (.t rfl) rfl (rowI_get hpos) rfl rfl rfl rfl ag3) rfl ?_; refine W.mapnew 0 (ks := []) (k := cl 0) (f := fun n : Int => Value.int .i64 n) (.t rfl) rfl (.t rfl) .k Tryz.underlying150 (KeyKind.int Tryz.underlying3) (by simp) _ (.inr rfl) ?_; refine W.q (.move (.t rfl)) rfl ?_; refine W.q (.assign (.t rfl)) rfl ?_; refine W.n ?_; refine W.h ?_; refine W.s ?_; refine W.r ?_; refine W.bso (es := [_]) Tryz.underlying22 ty3 ⟨rfl, .k, rfl, rfl, trivial⟩ rfl (by decide) rfl rfl ?_; intro v32; refine W.q (.assign (.t rfl)) rfl ?_; refine W.n ?_; refine W.h ?_; refine W.s ?_; refine W.r ?_; refine W.alloc ty62 rfl rfl ?_; intro b8; refine W.n ?_; refine W.h ?_; refine W.s ?_; refine W.s ?_; refine W.r ?_; refine W.q (.assign .k) rfl ?_; refine W.n ?_; refine W.h ?_; refine W.b ?_; refine W.own_nil 4 1 ?_; refine W.own_nil 22 1 ?_; refine W.loop (D := []) (ι := Nat × List Nat × (Nat → Nat → Int) × List (List Int) × List Bool × Value × Value × Value) (fun z => [(9, true, .int (z.1 : Int)), (7, true, .lit z.2.2.2.2.2.1), (1, true, .lit (.pointer (some ⟨b1, 0, none⟩))), (2, true, .lit (.pointer (some ⟨b2, 0, none⟩))), (4, true, .lit v16), (6, true, .lit (.map (some b27))), (8, true, .lit (.pointer (some ⟨b8, 0, none⟩)))]) (fun z => .arr z.2.2.2.2.2.2.1 22 1 (z.2.2.2.1.map pav) :: .arr z.2.2.2.2.2.2.2 4 1 (z.2.2.2.2.1.map AV.bool) :: .box b8 62 [.lit z.2.2.2.2.2.2.1, .lit z.2.2.2.2.2.2.2] :: .arr z.2.2.2.2.2.1 3 1 (z.2.1.map fun s : Nat => AV.int (s : Int)) :: .obj b27 (mObj ((z.2.1.map cl).map fun n : Int => Value.int .i64 n)) :: .arr v16 3 1 (rowI w.next.length cl) :: .box b2 62 [.lit (.slice none 0 0), .lit (.slice none 0 0)] :: .box b1 99 [.sl 8 (w.next.map wrow), .sl 1 (w.final.map AV.bool)] :: M0) (fun z => Au.Bfs w cl z.2.1 z.2.2.1 z.1 0 ∧ z.1 ≤ z.2.1.length ∧ z.2.2.2.1 = Au.rowsL z.1 z.2.2.1 ∧ z.2.2.2.2.1 = (z.2.1.take z.1).map fun k => w.final.getD k false) (fun z => 101 - z.1) (0, [0], (fun _ _ => 0), [], [], v32, .slice none 0 0, .slice none 0 0) ⟨rfl, rfl, rfl, rfl, rfl, rfl, rfl, trivial⟩ (by rw [List.append_nil]; exact .refl _) ⟨Au.Bfs.start _ hs h20, Nat.zero_le _, rfl, rfl⟩ ?_
  rintro ⟨i, S, T, Ns, Fs, vs, vn, vf⟩ ⟨hB, hi, hNs, hFs⟩
  dsimp only at hB hi hNs hFs ⊢
  have hSl := hB.len
  have hml : (S.map fun s : Nat => AV.int (s : Int)).length = S.length := List.length_map ..
  have hNl : Ns.length = i := by rw [hNs, Au.rowsL_len]
  have hFl : Fs.length = i := by rw [hFs, List.length_map, List.length_take]; omega
  rcases (show i < S.length ∨ i = S.length from by omega) with hi | hend
  ·have hgS := getD_mapG (fun s : Nat => AV.int (s : Int)) 0 S i hi
   have hlt := (hB.lt i hi).1
   have hga := wrow_get hs hlt
   refine W.s (.s (.r (.mv rfl rfl (.mv rfl rfl ?_)))); refine W.q (.lenar (i := 3) (.t rfl) rfl Tryz.underlying22) rfl ?_
   refine W.q (.lti (.t rfl) (.t rfl)) rfl ?_; refine W.n ?_; refine W.h ?_; refine W.isb 36 true rfl (by exact decide_eq_true (by omega)) ?_; refine W.condT (.t rfl) ?_; refine W.k ?_; refine W.h ?_; refine W.s ?_; refine W.b ?_; refine W.s ?_; refine W.r ?_; refine W.mk (n := 8) .k .k Tryz.underlying22 ty3 rfl rfl rfl rfl rfl (by omega) rfl ?_; intro v39; refine W.q (.assign (.t rfl)) rfl ?_; refine W.n ?_; refine W.h ?_; refine W.s ?_; refine W.s ?_; refine W.drawn (by kernel_rfl) (by kernel_rfl) ?_
   refine DP.q (.fab (.t rfl) fa99_0) rfl (.q (.ldb1 8 (.t rfl) rfl ag97 rfl) rfl (.q (.move (.t rfl)) rfl (.q (.move (.t rfl)) rfl ?_))); refine DP.q (.ata 4 (.t rfl) rfl (.t rfl) Tryz.underlying22 ty3 (fun _ => by rw [List.length_map]; omega)) rfl ?_; refine DP.q (.lda1 4 i 0 (.t rfl) rfl hgS (by omega) rfl rfl rfl ag3) rfl ?_; refine DP.q (.at (E := 147) (.t rfl) (.t rfl) Tryz.underlying97 ty147 (fun _ => ⟨by omega, hga⟩) rfl rfl) rfl ?_; refine DP.q (.lden (.t rfl) ag147 ty147 rfl rfl) rfl (.q (.move .k) rfl (.nil ?_)); refine W.is (t := 47) (av' := r8av (fun c => w.to ((S.getD i 0 : Nat) : Int) (c : Int))) rfl rfl ?_; refine W.h (.b ?_)
   obtain ⟨St, hSt⟩ : ∃ St, S.take (i + 1) = St := ⟨_, rfl⟩
   have hFs1 : Fs = (St.take i).map fun k => w.final.getD k false := by rw [hFs, ← hSt, List.take_take, Nat.min_eq_left (by omega)]
   have hS0 : ∀ R : List Nat, R.take (i + 1) = St → i < R.length → R.getD i 0 = S.getD i 0 ∧ R.take i = St.take i := by
    intro R hR hl
    refine ⟨?_, by rw [← hR, List.take_take, Nat.min_eq_left (by omega)]⟩
    have := congrArg (fun l => l.getD i 0) (hR.trans hSt.symm)
    simp only [List.getD_eq_getElem?_getD, List.getElem?_take, if_pos (Nat.lt_succ_self i)] at this
    rw [List.getD_eq_getElem?_getD, List.getD_eq_getElem?_getD]; exact this
   generalize hs0 : S.getD i 0 = s0 at hS0 hgS hlt hga ⊢
   refine W.loop (D := []) (ι := Nat × List Nat × (Nat → Nat → Int) × Value) (fun z => [(48, true, .int (z.1 : Int)), (47, true, r8av (fun c => w.to (s0 : Int) (c : Int))), (10, true, .lit v39), (9, true, .int (i : Int)), (7, true, .lit z.2.2.2), (1, true, .lit (.pointer (some ⟨b1, 0, none⟩))), (2, true, .lit (.pointer (some ⟨b2, 0, none⟩))), (4, true, .lit v16), (6, true, .lit (.map (some b27))), (8, true, .lit (.pointer (some ⟨b8, 0, none⟩)))]) (fun z => .arr v39 3 1 (Au.rowV z.2.2.1 i z.1) :: .arr vn 22 1 (Ns.map pav) :: .arr vf 4 1 (Fs.map AV.bool) :: .box b8 62 [.lit vn, .lit vf] :: .arr z.2.2.2 3 1 (z.2.1.map fun s : Nat => AV.int (s : Int)) :: .obj b27 (mObj ((z.2.1.map cl).map fun n : Int => Value.int .i64 n)) :: .arr v16 3 1 (rowI w.next.length cl) :: .box b2 62 [.lit (.slice none 0 0), .lit (.slice none 0 0)] :: .box b1 99 [.sl 8 (w.next.map wrow), .sl 1 (w.final.map AV.bool)] :: M0) (fun z => Au.Bfs w cl z.2.1 z.2.2.1 i z.1 ∧ Ns = Au.rowsL i z.2.2.1 ∧ i < z.2.1.length ∧ z.1 ≤ 8 ∧ z.2.1.take (i + 1) = St) (fun z => 8 - z.1) (0, S, T, vs) ⟨rfl, rfl, rfl, rfl, rfl, rfl, rfl, rfl, rfl, rfl, trivial⟩ (by rw [List.append_nil]; exact .refl _) ⟨hB, hNs, hi, Nat.zero_le _, hSt⟩ ?_
   clear hB hi hml hSl hgS hs0 hSt hFs hNs
   clear hi
   clear S T vs
   rintro ⟨d, S, T, vs⟩ ⟨hB, hNs, hi, hd, hS⟩
   dsimp only at hB hNs hi hd hS ⊢
   obtain ⟨hs0, hSi⟩ := hS0 S hS hi
   have hFs : Fs = (S.take i).map fun k => w.final.getD k false := by rw [hSi]; exact hFs1
   have hSl := hB.len
   have hml : (S.map fun s : Nat => AV.int (s : Int)).length = S.length := List.length_map ..
   rcases (show d < 8 ∨ d = 8 from by omega) with hd8 | hend
   ·have hto := Au.to_range hs (i := (s0 : Int)) (c := (d : Int)) (by omega) (by omega) (by omega) (by omega)
    refine W.s ?_; refine W.r ?_; refine W.q (.lti (.t rfl) .k) rfl ?_; refine W.n ?_; refine W.h ?_; refine W.s ?_; refine W.isb 49 true rfl (by exact decide_eq_true (by omega)) ?_; refine W.condT (.t rfl) ?_; refine W.k ?_; refine W.h ?_; refine W.s ?_; refine W.b ?_; refine W.s ?_; refine W.r ?_; refine W.q (.move (.t rfl)) rfl ?_; refine W.q (.arrat (.t rfl) (.t rfl) Tryz.underlying147 Tryz.underlying3 (fun _ => ⟨by omega, by omega, row8_get _ d hd8⟩) ty3) rfl ?_; refine W.q (.assign (.t rfl)) rfl ?_; refine W.q (.assign (.t rfl)) rfl ?_; refine W.n ?_; refine W.h ?_; refine W.s ?_; refine W.r ?_; refine W.q (.move (.t rfl)) rfl ?_; refine W.q (.move (.t rfl)) rfl ?_; refine W.q (.ata 0 (.t rfl) rfl (.t rfl) Tryz.underlying22 ty3 (fun hg => by rw [Au.rowV_len]; omega)) rfl ?_; refine W.sta 0 d 0 (e := AV.int _) (e' := AV.int (-1)) (.t rfl) .k rfl (row8_get _ d hd8) (by omega) ty3 rfl rfl rfl rfl rfl rfl rfl ?_; refine W.n ?_; refine W.h ?_; refine W.s ?_; refine W.s ?_; refine W.r ?_; refine W.q (.move (.t rfl)) rfl ?_; refine W.q (.lti (.t rfl) .k) rfl ?_; refine W.q (.move (.t rfl)) rfl ?_; refine W.qgF rfl rfl (.move (.t rfl)) rfl ?_; refine W.qgF rfl rfl (.move (.t rfl)) rfl ?_; refine W.qgF rfl rfl (.ata 6 (.c rfl) rfl (.c rfl) Tryz.underlying22 ty3 (fun hg => ⟨by simpa using hg, by rw [rowI_len]; omega⟩)) rfl ?_; refine W.qgF rfl rfl (.lda1 6 (w.to (s0 : Int) (d : Int)).toNat 0 (.c rfl) rfl (rowI_get (by omega)) (by omega) rfl rfl rfl ag3) rfl ?_; refine W.qgF rfl rfl (.lti (.c rfl) .k) rfl ?_; refine W.q (.or (.t rfl) ⟨_, _, rfl, rfl, by ((simp; done))⟩) rfl ?_; refine W.n ?_; refine W.h ?_; refine W.cond (.t rfl) (fun hc_t63 => ?_) (fun hc_t63 => ?_)
    ·have hneg : w.cto cl (S.getD i 0) d < 0 := by
      rw [hs0]
      unfold Au.cto
      by_cases h0 : 0 ≤ w.to (s0 : Int) (d : Int)
      ·rw [if_pos h0]
       simpa [show ¬ (w.to (s0 : Int) (d : Int) < 0) from by omega] using hc_t63
      ·rw [if_neg h0]; decide
     refine W.ex (.he (.bh (.h (.r (.q (.add (.t rfl) .k (fun _ => by omega)) rfl (.mv rfl rfl (.n (.h ?_))))))))
     have h9 := (hB.setI (-1)).none (Au.setI_at _ _ _ _) hneg
     refine W.reach (D := []) (d + 1, S, Au.setI T i d (-1), vs) ⟨rfl, rfl, rfl, rfl, rfl, rfl, rfl, rfl, rfl, rfl, trivial⟩ ?_ ⟨⟨h9, ?_, ?_, hd8, ?_⟩, by show 8 - (d + 1) < 8 - d; omega⟩
     ·rw [List.append_nil]; (try dsimp only); rw [← Au.rowV_step T i d _ hd8]; exact .refl _
     ·dsimp only; rw [Au.rowsL_set]; exact hNs
     ·dsimp only; exact hi
     ·dsimp only; exact hS
    ·obtain ⟨hto0, hcl0⟩ : 0 ≤ w.to (s0 : Int) (d : Int) ∧ 0 ≤ cl (w.to (s0 : Int) (d : Int)).toNat := by
      have h := hc_t63
      simp only [Bool.or_eq_false_iff, decide_eq_false_iff_not] at h
      omega
     have hset : ∀ x : Int, ((Au.rowV T i d).set d (AV.int (-1))).set d (AV.int x) = (Au.rowV T i d).set d (AV.int x) := fun x => List.set_set ..
     refine W.k (.h (.s (.r (.mv rfl rfl (.mv rfl rfl (.mv rfl rfl ?_)))))); refine W.q (.ata 6 (.t rfl) rfl (.t rfl) Tryz.underlying22 ty3 (fun hg => by rw [rowI_len]; omega)) rfl ?_; refine W.q (.lda1 6 (w.to (s0 : Int) (d : Int)).toNat 0 (.t rfl) rfl (rowI_get (by omega)) (by omega) rfl rfl rfl ag3) rfl (.q (.look2 5 (.t rfl) rfl (.t rfl) Tryz.underlying150 (KeyKind.int Tryz.underlying3) ty3) rfl ?_)
     refine W.q (.move (.t rfl)) rfl ?_; refine W.q (.extract (.t rfl) rfl) rfl ?_; refine W.q (.extract (.t rfl) rfl) rfl ?_; refine W.q (.assign (.t rfl)) rfl ?_; refine W.q (.assign (.t rfl)) rfl ?_; refine W.n ?_; refine W.h ?_; refine W.s ?_; refine W.s ?_; refine W.r ?_; refine W.q (.move (.t rfl)) rfl ?_; refine W.q (.not (.t rfl)) rfl ?_; refine W.n ?_; refine W.h ?_; refine W.cond (.t rfl) (fun hc_t74 => ?_) (fun hc_t74 => ?_)
     ·have hnew : cl (w.to (s0 : Int) (d : Int)).toNat ∉ S.map cl := by
       rw [← place_none]
       cases hp : place (cl (w.to (s0 : Int) (d : Int)).toNat) (S.map cl) with
       | none => rfl
       | some j => rw [hp] at hc_t74; simp at hc_t74
      have hnewk := Au.Bfs.fresh hnew
      have hsnoc : (S ++ [(w.to (s0 : Int) (d : Int)).toNat]).map (fun s : Nat => AV.int (s : Int)) = S.map (fun s : Nat => AV.int (s : Int)) ++ [AV.int (w.to (s0 : Int) (d : Int))] := by rw [List.map_append]; show _ ++ [AV.int (((w.to (s0 : Int) (d : Int)).toNat : Nat) : Int)] = _; rw [Int.toNat_of_nonneg hto0]
      have hkey : S.map cl ++ [cl (w.to (s0 : Int) (d : Int)).toNat] = (S ++ [(w.to (s0 : Int) (d : Int)).toNat]).map cl := by rw [List.map_append]; rfl
      refine W.s (.r (.mv rfl rfl ?_)); refine W.q (.lenar (i := 4) (.t rfl) rfl Tryz.underlying22) rfl ?_; refine W.is (t := 76) (av' := .int (S.length : Int)) rfl (by rw [List.length_map]) ?_; refine W.asg rfl rfl (.n (.h (.s (.r (.mv rfl rfl (.mv rfl rfl (.mv rfl rfl ?_))))))); refine W.q (.ata 6 (.t rfl) rfl (.t rfl) Tryz.underlying22 ty3 (fun hg => by rw [rowI_len]; omega)) rfl ?_; refine W.q (.lda1 6 (w.to (s0 : Int) (d : Int)).toNat 0 (.t rfl) rfl (rowI_get (by omega)) (by omega) rfl rfl rfl ag3) rfl (.mv rfl rfl ?_); refine W.is (t := 82) (av' := .int ((S.map cl).length : Int)) rfl (by rw [List.length_map]) ?_; refine W.mapnew 5 (ks := S.map cl) (k := cl (w.to (s0 : Int) (d : Int)).toNat) (f := fun n : Int => Value.int .i64 n) (.t rfl) rfl (.t rfl) (.t rfl) Tryz.underlying150 (KeyKind.int Tryz.underlying3) hnew _ (.inl rfl) ?_; refine W.n (.h (.r (.mv rfl rfl (.mv rfl rfl ?_)))); refine W.bs (es := [_]) Tryz.underlying22 ty3 ⟨rfl, (.t rfl), rfl, rfl, trivial⟩ rfl (by decide) rfl rfl ?_; refine W.app 4 (.t rfl) rfl (.sl (.t rfl) (by intro e he; rw [List.mem_singleton.1 he]; rfl)) Tryz.underlying22 ni22 ty3 rfl rfl (by rw [List.length_map]; simp only [List.length_cons, List.length_nil]; omega) rfl ?_
      intro v86; refine W.q (.assign (.t rfl)) rfl ?_; refine W.n ?_; refine W.h ?_; refine W.r ?_; refine W.q (.move (.t rfl)) rfl ?_; refine W.q (.move (.t rfl)) rfl ?_; refine W.q (.move (.t rfl)) rfl ?_; refine W.q (.ata 0 (.t rfl) rfl (.t rfl) Tryz.underlying22 ty3 (fun hg => by rw [List.length_set, Au.rowV_len]; omega)) rfl ?_; refine W.sta 0 d 0 (e := AV.int (-1)) (e' := AV.int _) (.t rfl) (.t rfl) rfl (by rw [List.getElem?_set_self (by rw [Au.rowV_len]; exact hd8)]) (by omega) ty3 rfl rfl rfl rfl rfl rfl rfl ?_; refine W.n ?_; refine W.bn ?_; refine W.h ?_; refine W.r ?_
      refine W.q (.add (.t rfl) .k (fun _ => by omega)) rfl (.mv rfl rfl (.n (.h ?_)))
      have h9 := (hB.setI (S.length : Int)).new (Au.setI_at _ _ _ _) hi hd8 (t := (w.to (s0 : Int) (d : Int)).toNat) (by omega) (by rw [hs0]; omega) (by omega) hnewk
      refine W.reach (D := []) (d + 1, S ++ [(w.to (s0 : Int) (d : Int)).toNat], Au.setI T i d (S.length : Int), _) ⟨rfl, rfl, rfl, rfl, rfl, rfl, rfl, rfl, rfl, rfl, trivial⟩ ?_ ⟨⟨h9, ?_, ?_, hd8, ?_⟩, by show 8 - (d + 1) < 8 - d; omega⟩
      ·rw [List.append_nil]; (try dsimp only); rw [← Au.rowV_step T i d _ hd8, hsnoc, ← hkey, ← hset (S.length : Int)]; exact .refl _
      ·dsimp only; rw [Au.rowsL_set]; exact hNs
      ·dsimp only; rw [List.length_append]; omega
      ·dsimp only; rw [← hS, List.take_append_of_le_length (by omega)]
     ·obtain ⟨j, hj⟩ : ∃ j, place (cl (w.to (s0 : Int) (d : Int)).toNat) (S.map cl) = some j := by
       cases hp : place (cl (w.to (s0 : Int) (d : Int)).toNat) (S.map cl) with
       | none => rw [hp] at hc_t74; simp at hc_t74
       | some j => exact ⟨j, rfl⟩
      obtain ⟨hjl, hje⟩ := hB.plc hj
      refine W.is (t := 13) (av' := .int (j : Int)) rfl (by rw [hj]; rfl) ?_; refine W.k ?_; refine W.h ?_; refine W.r ?_; refine W.q (.move (.t rfl)) rfl ?_; refine W.q (.move (.t rfl)) rfl ?_; refine W.q (.move (.t rfl)) rfl ?_; refine W.q (.ata 0 (.t rfl) rfl (.t rfl) Tryz.underlying22 ty3 (fun hg => by rw [List.length_set, Au.rowV_len]; omega)) rfl ?_; refine W.sta 0 d 0 (e := AV.int (-1)) (e' := AV.int _) (.t rfl) (.t rfl) rfl (by rw [List.getElem?_set_self (by rw [Au.rowV_len]; exact hd8)]) (by omega) ty3 rfl rfl rfl rfl rfl rfl rfl ?_; refine W.n ?_; refine W.bn ?_; refine W.h ?_; refine W.r ?_
      refine W.q (.add (.t rfl) .k (fun _ => by omega)) rfl (.mv rfl rfl (.n (.h ?_)))
      have h9 := (hB.setI (j : Int)).old (Au.setI_at _ _ _ _) hjl (by rw [hs0]; unfold Au.cto; rw [if_pos hto0]; exact hje)
      refine W.reach (D := []) (d + 1, S, Au.setI T i d (j : Int), vs) ⟨rfl, rfl, rfl, rfl, rfl, rfl, rfl, rfl, rfl, rfl, trivial⟩ ?_ ⟨⟨h9, ?_, ?_, hd8, ?_⟩, by show 8 - (d + 1) < 8 - d; omega⟩
      ·rw [List.append_nil]; (try dsimp only); rw [← Au.rowV_step T i d _ hd8, ← hset (j : Int)]; exact .refl _
      ·dsimp only; rw [Au.rowsL_set]; exact hNs
      ·dsimp only; exact hi
      ·dsimp only; exact hS
   ·subst hend
    have hgS := getD_mapG (fun s : Nat => AV.int (s : Int)) 0 S i hi
    have hgF := getD_mapG AV.bool false w.final (S.getD i 0) (by omega)
    rw [Au.rowV_done]
    refine W.freezeA (M1 := .arr vn 22 1 (Ns.map pav) :: .arr vf 4 1 (Fs.map AV.bool) :: .box b8 62 [.lit vn, .lit vf] :: .arr vs 3 1 (S.map fun s : Nat => AV.int (s : Int)) :: .obj b27 (mObj ((S.map cl).map fun n : Int => Value.int .i64 n)) :: .arr v16 3 1 (rowI w.next.length cl) :: .box b2 62 [.lit (.slice none 0 0), .lit (.slice none 0 0)] :: .box b1 99 [.sl 8 (w.next.map wrow), .sl 1 (w.final.map AV.bool)] :: M0) (M2 := .arr vn 22 1 (Ns.map pav) :: .arr vf 4 1 (Fs.map AV.bool) :: .box b8 62 [.lit vn, .lit vf] :: .arr vs 3 1 (S.map fun s : Nat => AV.int (s : Int)) :: .obj b27 (mObj ((S.map cl).map fun n : Int => Value.int .i64 n)) :: .arr v16 3 1 (rowI w.next.length cl) :: .box b2 62 [.lit (.slice none 0 0), .lit (.slice none 0 0)] :: .box b1 99 [.sl 8 (w.next.map wrow), .sl 1 (w.final.map AV.bool)] :: M0) (D := []) (v := v39) (L' := [(10, true, .sl 1 (row8 (T i)))]) (by rw [List.append_nil] <;> exact .refl _) ⟨⟨_, rfl, .one .hit⟩, trivial⟩ (FrzMs.refl _) ?_; refine W.s ?_; refine W.r ?_; refine W.q (.lti (.t rfl) .k) rfl ?_; refine W.n ?_; refine W.h ?_; refine W.s ?_; refine W.isb 49 false rfl (by rfl) ?_; refine W.condF (.t rfl) ?_; refine W.ex ?_; refine W.he ?_; refine W.he ?_; refine W.bh ?_; refine W.h ?_; refine W.drawnM (fun ee c_ => (bif ee 4 then ME.arr (c_ 4).2 22 1 (Ns.map pav ++ [.sl 1 (row8 (T i))]) else ME.arr vn 22 1 (Ns.map pav)) :: (bif ee 16 then ME.arr (c_ 16).2 4 1 (Fs.map AV.bool ++ [.bool (w.final.getD (S.getD i 0) false)]) else ME.arr vf 4 1 (Fs.map AV.bool)) :: ME.box b8 62 [bif ee 18 then .lit (c_ 4).2 else .lit vn, bif ee 20 then .lit (c_ 16).2 else .lit vf] :: .arr vs 3 1 (S.map fun s : Nat => AV.int (s : Int)) :: .obj b27 (mObj ((S.map cl).map fun n : Int => Value.int .i64 n)) :: .arr v16 3 1 (rowI w.next.length cl) :: .box b2 62 [.lit (.slice none 0 0), .lit (.slice none 0 0)] :: .box b1 99 [.sl 8 (w.next.map wrow), .sl 1 (w.final.map AV.bool)] :: M0) (c0 := ks0) (by kernel_rfl) (by kernel_rfl) rfl ?_
    refine DM.q (fun e c hk => (.fab (.t rfl) fa62_0)) rfl (fun _ _ => rfl) (fun _ _ _ => rfl) ?_
    refine DM.q (av := fun _ => .lit vn) (fun e c hk => by have h := hk.down 18 (by kernel_rfl); simp only [h, cond_false]; exact Ev.ldb1 2 (.t rfl) rfl ag59 rfl) rfl (fun _ _ => rfl) (fun _ _ _ => rfl) ?_; refine DM.q (fun e c hk => (.move (.t rfl))) rfl (fun _ _ => rfl) (fun _ _ _ => rfl) ?_; refine DM.bs (es := fun _ => [_]) Tryz.underlying59 ty22 (fun c => ⟨rfl, (.t rfl), rfl, rfl, trivial⟩) (fun _ => rfl) (by decide) rfl rfl (fun _ _ => rfl) (fun _ _ _ => rfl) ?_; refine DM.eff1 (av := fun c => .lit (c 4).2) rfl (fun c c_ h => by (simp only [h 4 (by (exact .inl rfl))])) (fun e c hk L_ hs Q h => ?_) ?_
    ·have hk_4 := hk.not
     have hk_16 := hk.down 16 (by kernel_rfl)
     have hk_18 := hk.down 18 (by kernel_rfl)
     have hk_20 := hk.down 20 (by kernel_rfl)
     simp only [addE, upd, eq_self, List.nil_append, List.cons_append, List.append_nil, hk_4, hk_16, hk_18, hk_20, Nat.reduceAdd, Nat.reduceEqDiff, ↓reduceIte, cond_true, cond_false] at h ⊢
     ((refine W.app 0 (.t (hs _ _ rfl)) rfl (.sl (.t (hs _ _ rfl)) (by intro e he; rw [List.mem_singleton.1 he]; rfl)) Tryz.underlying59 ni59 ty22 rfl rfl (by rw [List.length_map]; simp only [List.length_cons, List.length_nil]; omega) rfl ?_; exact fun v => h (0, v) _ (by (exact .refl _))))
    refine DM.q (fun e c hk => (.fab (.t rfl) fa62_1)) rfl (fun _ _ => rfl) (fun _ _ _ => rfl) ?_; refine DM.q (av := fun _ => .lit vf) (fun e c hk => by have h := hk.down 20 (by kernel_rfl); simp only [h, cond_false]; exact Ev.ldb1 2 (.t rfl) rfl ag60 rfl) rfl (fun _ _ => rfl) (fun _ _ _ => rfl) ?_; refine DM.q (fun e c hk => (.fab (.t rfl) fa99_1)) rfl (fun _ _ => rfl) (fun _ _ _ => rfl) (.q (fun e c hk => (.ldb1 7 (.t rfl) rfl ag60 rfl)) rfl (fun _ _ => rfl) (fun _ _ _ => rfl) (.q (fun e c hk => (.move (.t rfl))) rfl (fun _ _ => rfl) (fun _ _ _ => rfl) (.q (fun e c hk => (.move (.t rfl))) rfl (fun _ _ => rfl) (fun _ _ _ => rfl) ?_))); refine DM.q (fun e c hk => Ev.ata 3 (.t rfl) rfl (.t rfl) Tryz.underlying22 ty3 (fun _ => by rw [List.length_map]; omega)) rfl (fun _ _ => rfl) (fun _ _ _ => rfl) ?_; refine DM.q (fun e c hk => Ev.lda1 3 i 0 (.t rfl) rfl hgS (by omega) rfl rfl rfl ag3) rfl (fun _ _ => rfl) (fun _ _ _ => rfl) ?_; refine DM.q (fun e c hk => Ev.at (E := 4) (.t rfl) (.t rfl) Tryz.underlying60 ty4 (fun _ => ⟨by omega, hgF⟩) rfl rfl) rfl (fun _ _ => rfl) (fun _ _ _ => rfl) ?_; refine DM.q (fun e c hk => (.lde1 (.t rfl) ag4)) rfl (fun _ _ => rfl) (fun _ _ _ => rfl) ?_
    refine DM.bs (es := fun _ => [_]) Tryz.underlying60 ty4 (fun c => ⟨rfl, (.t rfl), rfl, rfl, trivial⟩) (fun _ => rfl) (by decide) rfl rfl (fun _ _ => rfl) (fun _ _ _ => rfl) ?_; refine DM.eff1 (av := fun c => .lit (c 16).2) rfl (fun c c_ h => by (simp only [h 4 (by (exact .inr (by kernel_rfl))), h 16 (by (exact .inl rfl))])) (fun e c hk L_ hs Q h => ?_) ?_
    ·have hk_16 := hk.not
     have hk_4 := hk.up 4 (by kernel_rfl)
     have hk_18 := hk.down 18 (by kernel_rfl)
     have hk_20 := hk.down 20 (by kernel_rfl)
     simp only [addE, upd, eq_self, List.nil_append, List.cons_append, List.append_nil, hk_16, hk_4, hk_18, hk_20, Nat.reduceAdd, Nat.reduceEqDiff, ↓reduceIte, cond_true, cond_false] at h ⊢
     ((refine W.app 1 (.t (hs _ _ rfl)) rfl (.sl (.t (hs _ _ rfl)) (by intro e he; rw [List.mem_singleton.1 he]; rfl)) Tryz.underlying60 ni60 ty4 rfl rfl (by rw [List.length_map]; simp only [List.length_cons, List.length_nil]; omega) rfl ?_; exact fun v => h (0, v) _ (by (exact .refl _))))
    refine DM.q (fun e c hk => (.fab (.t rfl) fa62_0)) rfl (fun _ _ => rfl) (fun _ _ _ => rfl) ?_
    refine DM.eff0 (fun e c hk L_ hs Q h => ?_) ?_
    ·have hk_18 := hk.not
     have hk_4 := hk.up 4 (by kernel_rfl)
     have hk_16 := hk.up 16 (by kernel_rfl)
     have hk_20 := hk.down 20 (by kernel_rfl)
     simp only [addE, upd, eq_self, List.nil_append, List.cons_append, List.append_nil, hk_18, hk_4, hk_16, hk_20, Nat.reduceAdd, Nat.reduceEqDiff, ↓reduceIte, cond_true, cond_false] at h ⊢
     refine W.arr_inv 0 rfl (fun a9 n9 c9 h9 => ?_)
     rw [h9] at h ⊢
     refine W.stb 2 (.t (hs _ _ rfl)) (.t ((hs _ _ rfl).trans (congrArg (fun v => some (true, AV.lit v)) h9))) rfl ty59 rfl rfl rfl ?_
     exact h
    refine DM.q (fun e c hk => (.fab (.t rfl) fa62_1)) rfl (fun _ _ => rfl) (fun _ _ _ => rfl) ?_
    refine DM.eff0 (fun e c hk L_ hs Q h => ?_) ?_
    ·have hk_20 := hk.not
     have hk_4 := hk.up 4 (by kernel_rfl)
     have hk_16 := hk.up 16 (by kernel_rfl)
     have hk_18 := hk.up 18 (by kernel_rfl)
     simp only [addE, upd, eq_self, List.nil_append, List.cons_append, List.append_nil, hk_20, hk_4, hk_16, hk_18, Nat.reduceAdd, Nat.reduceEqDiff, ↓reduceIte, cond_true, cond_false] at h ⊢
     refine W.arr_inv 1 rfl (fun a9 n9 c9 h9 => ?_)
     rw [h9] at h ⊢
     refine W.stb 2 (.t (hs _ _ rfl)) (.t ((hs _ _ rfl).trans (congrArg (fun v => some (true, AV.lit v)) h9))) rfl ty60 rfl rfl rfl ?_
     exact h
    refine DM.nil (fun cc e_ he_ => ?_)
    simp only [he_ 4 (by decide), he_ 16 (by decide), he_ 18 (by decide), he_ 20 (by decide), cond_true, cond_false]
    generalize (cc 4).2 = v96
    generalize (cc 16).2 = v108
    refine W.bn (.h (.r (.mv rfl rfl (.q (.add (.t rfl) .k (fun _ => by omega)) rfl ?_))))
    refine W.q (.assign (.t rfl)) rfl ?_; refine W.n ?_; refine W.h ?_; refine W.reach (D := []) (i + 1, S, T, Ns ++ [r8l (T i)], Fs ++ [w.final.getD (S.getD i 0) false], vs, v96, v108) ⟨rfl, rfl, rfl, rfl, rfl, rfl, rfl, trivial⟩ ?_ ⟨⟨hB.row, hi, ?_, ?_⟩, by show 101 - (i + 1) < 101 - i; omega⟩
    ·rw [List.append_nil]; (try dsimp only); rw [List.map_append (f := pav), List.map_append (f := AV.bool)]; exact .refl _
    ·dsimp only; rw [hNs, Au.rowsL_snoc]
    ·dsimp only; rw [take_getDG 0 S i hi, List.map_append, hFs]; rfl
  ·subst hend
   have hmd := hB.made hs hcls Fs (by rw [hFs, List.take_length])
   have hsz40 := hsz _ (.inl hmd.1) hmd.2
   have hNs2 : Ns = (Au.auOf S.length T Fs).next := hNs
   refine W.s (.s (.r (.mv rfl rfl (.mv rfl rfl ?_)))); refine W.q (.lenar (i := 3) (.t rfl) rfl Tryz.underlying22) rfl ?_; refine W.q (.lti (.t rfl) (.t rfl)) rfl (.n (.h ?_)); refine W.isb 36 false rfl (by exact decide_eq_false (by omega)) ?_; refine W.condF (.t rfl) (.ex (.he (.he (.bh (.h (.s (.s (.r (.q (.fab (.t rfl) fa62_0) rfl (.q (.ldb1 2 (.t rfl) rfl ag59 rfl) rfl ?_)))))))))); refine W.q (.lenar (i := 0) (.t rfl) rfl Tryz.underlying59) rfl ?_
   refine W.is (t := 113) (av' := .int (S.length : Int)) rfl (by rw [List.length_map, hNl]) ?_; refine W.q (.gti (.t rfl) .k) rfl ?_; refine W.n ?_; refine W.h ?_; refine W.isb 114 false rfl (by exact decide_eq_false (by rw [Au.auOf_len] at hsz40; omega)) ?_; refine W.condF (.t rfl) ?_; refine W.k ?_; refine W.h ?_; refine W.s ?_; refine W.r ?_; refine W.freezeA (M1 := .arr vf 4 1 (Fs.map AV.bool) :: .box b8 62 [.lit vn, .lit vf] :: .arr vs 3 1 (S.map fun s : Nat => AV.int (s : Int)) :: .obj b27 (mObj ((S.map cl).map fun n : Int => Value.int .i64 n)) :: .arr v16 3 1 (rowI w.next.length cl) :: .box b2 62 [.lit (.slice none 0 0), .lit (.slice none 0 0)] :: .box b1 99 [.sl 8 (w.next.map wrow), .sl 1 (w.final.map AV.bool)] :: M0) (M2 := .arr vf 4 1 (Fs.map AV.bool) :: .box b8 62 [.sl 1 (Ns.map pav), .lit vf] :: .arr vs 3 1 (S.map fun s : Nat => AV.int (s : Int)) :: .obj b27 (mObj ((S.map cl).map fun n : Int => Value.int .i64 n)) :: .arr v16 3 1 (rowI w.next.length cl) :: .box b2 62 [.lit (.slice none 0 0), .lit (.slice none 0 0)] :: .box b1 99 [.sl 8 (w.next.map wrow), .sl 1 (w.final.map AV.bool)] :: M0) (D := []) (v := vn) (L' := []) (by rw [List.append_nil] <;> exact .refl _) trivial (⟨.refl _, .box ⟨.hit, .refl _, trivial⟩, FrzMs.refl _⟩) ?_; refine W.freezeA (M1 := .box b8 62 [.sl 1 (Ns.map pav), .lit vf] :: .arr vs 3 1 (S.map fun s : Nat => AV.int (s : Int)) :: .obj b27 (mObj ((S.map cl).map fun n : Int => Value.int .i64 n)) :: .arr v16 3 1 (rowI w.next.length cl) :: .box b2 62 [.lit (.slice none 0 0), .lit (.slice none 0 0)] :: .box b1 99 [.sl 8 (w.next.map wrow), .sl 1 (w.final.map AV.bool)] :: M0) (M2 := .box b8 62 [.sl 1 (Ns.map pav), .sl 1 (Fs.map AV.bool)] :: .arr vs 3 1 (S.map fun s : Nat => AV.int (s : Int)) :: .obj b27 (mObj ((S.map cl).map fun n : Int => Value.int .i64 n)) :: .arr v16 3 1 (rowI w.next.length cl) :: .box b2 62 [.lit (.slice none 0 0), .lit (.slice none 0 0)] :: .box b1 99 [.sl 8 (w.next.map wrow), .sl 1 (w.final.map AV.bool)] :: M0) (D := []) (v := vf) (L' := []) (by rw [List.append_nil] <;> exact .refl _) trivial (⟨.box ⟨.refl _, .hit, trivial⟩, FrzMs.refl _⟩) ?_
   refine W.q (.ldbn 0 (.t rfl) rfl ag62 ty62 rfl) rfl (.stb 4 (.t rfl) (.t rfl) rfl ty62 rfl rfl rfl (.q (.assign .k) rfl (.n (.h ?_)))); refine W.ret ?_; refine W.retn (M' := M0) (D := _) (rs := [.cell 2 62, .tmp 3]) (avs := [_, _]) Tryz.results39 ⟨⟨_, _, _, rfl, by repeat (first | exact List.mem_cons_self | apply List.mem_cons_of_mem), rfl, by funext w; exact ag62.run w, by funext w; exact ty62.size w⟩, rfl, trivial⟩ rfl (List.perm_append_comm (l₁ := [_, _, _, _, _, _])) ?_
   exact ⟨_, .inl hmd.1, hmd.2, by rw [hNs2]; rfl, rfl⟩
end WOrder
end Go.Proofs.YtphlkdbglpcikaaGreatDoor
end
section
namespace Go.Proofs.YtphlkdbglpcikaaGreatDoor
open Go.Vl
open Y
namespace WParse1
theorem c_takesT (b : Nat) (c : UInt8) (r : List UInt8) : FnC Tryz.prog 65 [.lit (.pointer (some ⟨b, 0, none⟩)), .u8 c] [.box b 94 [.str (c :: r), .bool false]] (fun x M => x = .bool true ∧ M = [.box b 94 [.str (r), .bool false]]) :=  by
 refine FnC.mk Tryz.func65 (by kernel_rfl) rfl Tryz.ntmps65 rfl (fun w0 F => ?_)
 refine W.s (.r (.q (.assign .k) rfl (.n (.h (.s (.s (.r (.mv rfl rfl (.q (.nilc (.t rfl)) rfl (.q (.fab (.t rfl) fa94_0) rfl (.q (.ldb1 0 (.t rfl) rfl ag9 rfl) rfl (.q (.eqs (.t rfl) .k) rfl (.mv rfl rfl (.qgF rfl rfl (.move (.t rfl)) rfl (.qgF rfl rfl (.nilc (.c rfl)) rfl (.qgF rfl rfl (.fab (.c rfl) fa94_0) rfl (.qgF rfl rfl (.ldb1 0 (.c rfl) rfl ag9 rfl) rfl ?_))))))))))))))))); refine W.qgF rfl rfl (.ats (b := c) (.c rfl) .k Tryz.underlying9 (fun _ => ⟨by decide, rfl⟩)) rfl ?_; refine W.qgF rfl rfl (.move (.t rfl)) rfl (.qgF rfl rfl (.nei (.c rfl) (.c rfl)) rfl ?_); refine W.q (.or (.t rfl) ⟨_, _, rfl, rfl, by ((simp; done))⟩) rfl ?_; refine W.n (.h ?_); refine W.isb 18 false rfl (by simp) ?_; refine W.condF (.t rfl) (.k (.h (.s (.r (.mv rfl rfl (.mv rfl rfl (.q (.nilc (.t rfl)) rfl (.q (.fab (.t rfl) fa94_0) rfl (.q (.ldb1 0 (.t rfl) rfl ag9 rfl) rfl ?_))))))))); refine W.q (.subs (lo := some (.const (.int .i64 1))) (hi := none) (.t rfl) Tryz.underlying9 (Ov.k (g := true) (L := [])) rfl (fun _ => by simp only [List.length_cons]; omega)) rfl ?_; refine W.is (t := 24) (av' := .str (r)) rfl (congrArg AV.str (It.tail1 _ _)) ?_; refine W.q (.nilc (.t rfl)) rfl (.q (.fab (.t rfl) fa94_0) rfl (.stb 0 (.t rfl) (.t rfl) rfl ty9 rfl rfl rfl (.n (.h (.s (.r (.q (.assign .k) rfl (.n (.h ?_))))))))); refine W.ret ?_; refine W.retn (M' := [_]) (rs := [.tmp 4]) (avs := [_]) Tryz.results65 ⟨rfl, trivial⟩ rfl (.refl _) ?_
 exact ⟨rfl, rfl⟩
theorem c_takesD (b : Nat) (c d : UInt8) (r : List UInt8) (hcd : d ≠ c) : FnC Tryz.prog 65 [.lit (.pointer (some ⟨b, 0, none⟩)), .u8 c] [.box b 94 [.str (d :: r), .bool false]] (fun x M => x = .bool false ∧ M = [.box b 94 [.str (d :: r), .bool false]]) :=  by
 refine FnC.mk Tryz.func65 (by kernel_rfl) rfl Tryz.ntmps65 rfl (fun w0 F => ?_)
 have hn : ((d.toNat : Nat) : Int) ≠ (c.toNat : Int) := fun h => hcd (UInt8.toNat_inj.1 (by omega))
 refine W.s (.r (.q (.assign .k) rfl (.n (.h (.s (.s (.r (.mv rfl rfl (.q (.nilc (.t rfl)) rfl (.q (.fab (.t rfl) fa94_0) rfl (.q (.ldb1 0 (.t rfl) rfl ag9 rfl) rfl (.q (.eqs (.t rfl) .k) rfl (.mv rfl rfl (.qgF rfl rfl (.move (.t rfl)) rfl (.qgF rfl rfl (.nilc (.c rfl)) rfl (.qgF rfl rfl (.fab (.c rfl) fa94_0) rfl (.qgF rfl rfl (.ldb1 0 (.c rfl) rfl ag9 rfl) rfl ?_))))))))))))))))); refine W.qgF rfl rfl (.ats (b := d) (.c rfl) .k Tryz.underlying9 (fun _ => ⟨by decide, rfl⟩)) rfl ?_; refine W.qgF rfl rfl (.move (.t rfl)) rfl (.qgF rfl rfl (.nei (.c rfl) (.c rfl)) rfl ?_); refine W.q (.or (.t rfl) ⟨_, _, rfl, rfl, by ((simp; done))⟩) rfl ?_; refine W.n (.h ?_); refine W.isb 18 true rfl (by simp; omega) ?_; refine W.condT (.t rfl) (.s (.r (.q (.assign .k) rfl (.n (.h ?_))))); refine W.ret ?_; refine W.hr ?_; refine W.retn (M' := [_]) (rs := [.tmp 4]) (avs := [_]) Tryz.results65 ⟨rfl, trivial⟩ rfl (.refl _) ?_
 exact ⟨rfl, rfl⟩
theorem c_takesN (b : Nat) (c : UInt8) : FnC Tryz.prog 65 [.lit (.pointer (some ⟨b, 0, none⟩)), .u8 c] [.box b 94 [.str ([]), .bool false]] (fun x M => x = .bool false ∧ M = [.box b 94 [.str ([]), .bool false]]) :=  by
 refine FnC.mk Tryz.func65 (by kernel_rfl) rfl Tryz.ntmps65 rfl (fun w0 F => ?_)
 refine W.s (.r (.q (.assign .k) rfl (.n (.h (.s (.s (.r (.mv rfl rfl (.q (.nilc (.t rfl)) rfl (.q (.fab (.t rfl) fa94_0) rfl (.q (.ldb1 0 (.t rfl) rfl ag9 rfl) rfl (.q (.eqs (.t rfl) .k) rfl (.mv rfl rfl ?_))))))))))))); refine W.gnob rfl rfl (by simp) rfl ?_; refine W.gnob rfl rfl (by simp) rfl ?_; refine W.gnob rfl rfl (by simp) rfl ?_; refine W.gnob rfl rfl (by simp) rfl ?_; refine W.gnob rfl rfl (by simp) rfl ?_; refine W.gnob rfl rfl (by simp) rfl ?_; refine W.gnob rfl rfl (by simp) rfl ?_; refine W.q (.or (.t rfl) ⟨_, _, rfl, rfl, by ((simp; done))⟩) rfl ?_; refine W.n (.h ?_); refine W.isb 18 true rfl (by simp) ?_; refine W.condT (.t rfl) (.s (.r (.q (.assign .k) rfl (.n (.h ?_))))); refine W.ret ?_; refine W.hr ?_; refine W.retn (M' := [_]) (rs := [.tmp 4]) (avs := [_]) Tryz.results65 ⟨rfl, trivial⟩ rfl (.refl _) ?_
 exact ⟨rfl, rfl⟩
theorem c_takesF (b : Nat) (c : UInt8) (r : List UInt8) (h : ∀ t, r ≠ c :: t) : FnC Tryz.prog 65 [.lit (.pointer (some ⟨b, 0, none⟩)), .u8 c] [.box b 94 [.str (r), .bool false]] (fun x M => x = .bool false ∧ M = [.box b 94 [.str (r), .bool false]]) := by
 cases r with
 | nil => exact c_takesN b c
 | cons d t => exact c_takesD b c d t (fun e => h t (by rw [e]))
theorem c_together (k : Int) (l : List Ex) (hl : Ex.szs l ≤ 16777216) : FnP Tryz.prog 66 [.int k, .sl 3 (l.map Ex.av)] (Ex.tog k l).avx :=  by
 refine FnC.mk Tryz.func66 (by kernel_rfl) rfl Tryz.ntmps66 rfl (fun w0 F => ?_)
 have hll : (l.map Ex.av).length = l.length := List.length_map ..
 have hsl := Ex.szs_len l
 have hfs := Ex.flat_szs k l
 have hfl := Ex.szs_len (Ex.flat k l)
 refine W.s ?_; refine W.r ?_; refine W.alloc ty56 rfl rfl ?_; intro b4; refine W.n ?_; refine W.h ?_; refine W.s ?_; refine W.s ?_; refine W.r ?_; refine W.q (.move (.t rfl)) rfl ?_
 refine W.q (.lensl (.t rfl) Tryz.underlying54) rfl ?_
 refine W.q (.eqi (.t rfl) .k) rfl ?_; refine W.n ?_; refine W.h ?_; refine W.cond (.t rfl) (fun hc_t10 => ?_) (fun hc_t10 => ?_)
 ·obtain ⟨x1, hx1⟩ : ∃ x, l = [x] := List.length_eq_one_iff.1 (by have := eq_of_beq hc_t10; omega)
  subst hx1
  refine W.s (.r (.mv rfl rfl ?_)); refine W.q (.at (E := 56) (.t rfl) .k Tryz.underlying54 ty56 (e := x1.avx) (fun _ => ⟨by decide, by show (List.map Ex.av [x1])[0]? = _; rw [← Ex.av_eq]; rfl⟩) rfl rfl) rfl ?_; refine W.q (.lden (.t rfl) ag56 ty56 rfl rfl) rfl (.stb 0 (.t rfl) (.t rfl) rfl ty56 rfl rfl rfl (.n (.h ?_))); refine W.ret ?_; refine W.hr ?_; refine W.retn (M' := []) (D := _) (rs := [.cell 4 56]) (avs := [_]) Tryz.results66 ⟨⟨_, _, _, rfl, by (exact List.mem_cons_self), rfl, by funext w; exact ag56.run w, by funext w; exact ty56.size w⟩, trivial⟩ rfl (.refl _) ?_
  refine ⟨?_, rfl⟩
  (rfl)
 ·have h10 : l.length ≠ 1 := fun h => by rw [hll, h] at hc_t10; simp at hc_t10
  refine W.k ?_; refine W.h ?_; refine W.s ?_; refine W.r ?_; refine W.q (.move (.t rfl)) rfl ?_; refine W.q (.build ty56 st56 rfl (fun hg => ⟨_, _, _, rfl, (.t rfl), rfl, rfl, rfl, rfl⟩)) rfl ?_; refine W.alloc ty56 rfl rfl ?_; intro b5
  refine W.stb 0 (.t rfl) (.t rfl) rfl ty56 rfl rfl rfl (.n (.h (.s (.s (.r (.mv rfl rfl (.q (.lensl (.t rfl) Tryz.underlying54) rfl (.q (.move .k) rfl (.n (.h (.b ?_))))))))))); refine W.own_nil 56 3 ?_; refine W.perm (List.Perm.refl _) ?_; refine W.loop (D := []) (ι := Nat × Value) (fun z => [(18, true, .int (z.1 : Int)), (17, true, .int ((l.map Ex.av).length : Int)), (16, true, .sl 3 (l.map Ex.av)), (5, true, .lit (.pointer (some ⟨b5, 0, none⟩))), (0, true, .int k), (4, true, .lit (.pointer (some ⟨b4, 0, none⟩)))]) (fun z => [.arr z.2 56 3 ((Ex.flat k (l.take z.1)).map Ex.av), .box b5 56 [.int k, .int 0, .lit z.2], .box b4 56 [.int 0, .int 0, .lit (.slice none 0 0)]]) (fun z => z.1 ≤ l.length) (fun z => l.length - z.1) (0, .slice none 0 0) ⟨rfl, rfl, rfl, rfl, rfl, rfl, trivial⟩ (.refl _) (Nat.zero_le _) ?_
  rintro ⟨i, v⟩ hi
  dsimp only at hi ⊢
  rcases (show i < l.length ∨ i = l.length from by omega) with hlt | hend
  ·have hga := Ex.at_av l i hlt
   have hsn := Ex.flat_snoc k l i hlt
   have hsz := Ex.szs_mem (getD_memG Ex.dflt l i hlt)
   have hft := Ex.flat_take k l i
   generalize hd : l.getD i Ex.dflt = d at hga hsn hsz
   have hse := Ex.sz_eq d
   refine W.s (.r (.q (.lti (.t rfl) (.t rfl)) rfl (.n (.h (.s ?_))))); refine W.isb 19 true rfl (by exact decide_eq_true (by omega)) ?_; refine W.condT (.t rfl) (.k (.h (.s (.b (.s (.r ?_)))))); refine W.q (.at (E := 56) (.t rfl) (.t rfl) Tryz.underlying54 ty56 (fun _ => ⟨by omega, hga⟩) rfl rfl) rfl ?_; refine W.q (.lden (.t rfl) ag56 ty56 rfl rfl) rfl ?_
   refine W.alloc ty56 rfl rfl ?_; intro b7
   refine W.stb 0 (.t rfl) (.t rfl) rfl ty56 rfl rfl rfl (.n (.h (.s (.r (.q (.fab (.t rfl) fa56_0) rfl (.q (.ldb1 0 (.t rfl) rfl ag3 rfl) rfl ?_))))))
   refine W.q (.move (.t rfl)) rfl ?_; refine W.q (.eqi (.t rfl) (.t rfl)) rfl ?_; refine W.n ?_; refine W.h ?_; refine W.cond (.t rfl) (fun hc_t25 => ?_) (fun hc_t25 => ?_)
   ·have hek : d.kind = k := eq_of_beq hc_t25
    refine W.r (.q (.fab (.t rfl) fa56_2) rfl (.q (.ldb1 2 (.t rfl) rfl ag54 rfl) rfl (.q (.fab (.t rfl) fa56_2) rfl (.q (.ldb1 0 (.t rfl) rfl ag54 rfl) rfl ?_)))); refine W.app 1 (.t rfl) rfl (.sl (.t rfl) (Ex.okc_avs _)) Tryz.underlying54 ni54 ty56 rfl rfl (by rw [List.length_map, List.length_map]; have := Ex.szs_len d.parts; omega) rfl ?_
    intro v30; refine W.arr_inv 1 rfl (fun a30 n30 c30 h30 => ?_)
    subst h30
    refine W.q (.fab (.t rfl) fa56_2) rfl (.stb 2 (.t rfl) (.t rfl) rfl ty54 rfl rfl rfl (.n (.bn (.h (.r (.q (.add (.t rfl) .k (fun _ => by omega)) rfl (.mv rfl rfl (.n (.h ?_)))))))))
    first
    | (rw [if_pos hek] at hsn; refine W.reach (D := [_]) (i + 1, _) ⟨rfl, rfl, rfl, rfl, rfl, rfl, trivial⟩ (by rw [hsn, List.map_append]; exact (List.perm_middle (l₁ := [_])).symm.trans (List.Perm.cons _ (List.perm_append_comm (l₁ := [_])))) ⟨by show i + 1 ≤ _; omega, by show _ - (i + 1) < _; omega⟩)
    | (rw [if_neg hek] at hsn; refine W.reach (D := [_]) (i + 1, _) ⟨rfl, rfl, rfl, rfl, rfl, rfl, trivial⟩ (by rw [hsn, Ex.map_snoc]; exact (List.perm_middle (l₁ := [_])).symm.trans (List.Perm.cons _ (List.perm_append_comm (l₁ := [_])))) ⟨by show i + 1 ≤ _; omega, by show _ - (i + 1) < _; omega⟩)
   ·have hek : d.kind ≠ k := beq_eq_false_iff_ne.1 hc_t25
    refine W.r (.q (.fab (.t rfl) fa56_2) rfl (.q (.ldb1 2 (.t rfl) rfl ag54 rfl) rfl (.q (.ldbn 0 (.t rfl) rfl ag56 ty56 rfl) rfl ?_))); refine W.bs (es := [_]) Tryz.underlying54 ty56 ⟨rfl, (.t rfl), rfl, rfl, trivial⟩ rfl (by decide) rfl rfl ?_; refine W.app 1 (.t rfl) rfl (.sl (.t rfl) (by simp [AV.okc, shV])) Tryz.underlying54 ni54 ty56 rfl rfl (by rw [List.length_map]; simp only [List.length_cons, List.length_nil]; omega) rfl ?_
    intro v36; refine W.arr_inv 1 rfl (fun a36 n36 c36 h36 => ?_)
    subst h36
    refine W.q (.fab (.t rfl) fa56_2) rfl (.stb 2 (.t rfl) (.t rfl) rfl ty54 rfl rfl rfl (.n (.bn (.h (.r (.q (.add (.t rfl) .k (fun _ => by omega)) rfl (.mv rfl rfl (.n (.h ?_)))))))))
    first
    | (rw [if_pos hek] at hsn; refine W.reach (D := [_]) (i + 1, _) ⟨rfl, rfl, rfl, rfl, rfl, rfl, trivial⟩ (by rw [hsn, List.map_append]; exact (List.perm_middle (l₁ := [_])).symm.trans (List.Perm.cons _ (List.perm_append_comm (l₁ := [_])))) ⟨by show i + 1 ≤ _; omega, by show _ - (i + 1) < _; omega⟩)
    | (rw [if_neg hek] at hsn; refine W.reach (D := [_]) (i + 1, _) ⟨rfl, rfl, rfl, rfl, rfl, rfl, trivial⟩ (by rw [hsn, Ex.map_snoc]; exact (List.perm_middle (l₁ := [_])).symm.trans (List.Perm.cons _ (List.perm_append_comm (l₁ := [_])))) ⟨by show i + 1 ≤ _; omega, by show _ - (i + 1) < _; omega⟩)
  ·rw [List.take_of_length_le (show l.length ≤ i from by omega)]
   refine W.s (.r (.q (.lti (.t rfl) (.t rfl)) rfl (.n (.h (.s ?_))))); refine W.isb 19 false rfl (by exact decide_eq_false (by omega)) ?_; refine W.condF (.t rfl) (.ex (.he (.he (.bh (.h (.s (.s (.r (.q (.fab (.t rfl) fa56_2) rfl (.q (.ldb1 1 (.t rfl) rfl ag54 rfl) rfl ?_)))))))))); refine W.q (.lenar (i := 0) (.t rfl) rfl Tryz.underlying54) rfl ?_
   refine W.q (.eqi (.t rfl) .k) rfl ?_; refine W.n ?_; refine W.h ?_; refine W.cond (.t rfl) (fun hc_t42 => ?_) (fun hc_t42 => ?_)
   ·obtain ⟨y1, hy1⟩ : ∃ y, Ex.flat k l = [y] := List.length_eq_one_iff.1 (by have := eq_of_beq hc_t42; rw [List.length_map] at this; omega)
    refine W.s (.r (.q (.fab (.t rfl) fa56_2) rfl (.q (.ldb1 1 (.t rfl) rfl ag54 rfl) rfl ?_))); refine W.q (.ata 0 (.t rfl) rfl .k Tryz.underlying54 ty56 (fun _ => by rw [List.length_map, hy1]; simp)) rfl ?_; refine W.q (.ldan 0 0 (e := y1.avx) (.t rfl) rfl (by rw [hy1, ← Ex.av_eq]; rfl) rfl rfl ag56 ty56) rfl ?_; refine W.stb 2 (.t rfl) (.t rfl) rfl ty56 rfl rfl rfl (.n (.h ?_)); refine W.ret ?_; refine W.hr ?_; refine W.retn (M' := []) (D := _) (rs := [.cell 4 56]) (avs := [_]) Tryz.results66 ⟨⟨_, _, _, rfl, by (exact List.mem_cons_of_mem _ (List.mem_cons_of_mem _ List.mem_cons_self)), rfl, by funext w; exact ag56.run w, by funext w; exact ty56.size w⟩, trivial⟩ rfl (.refl _) ?_
    refine ⟨?_, rfl⟩
    ((rw [Ex.tog_y k l y1 h10 hy1]; rfl))
   ·have h42 : (Ex.flat k l).length ≠ 1 := fun h => by rw [List.length_map, h] at hc_t42; simp at hc_t42
    refine W.k (.h (.s (.r ?_))); refine W.freezeA (M1 := [.box b5 56 _, _]) (M2 := [.box b5 56 [.int k, .int 0, .sl 3 ((Ex.flat k l).map Ex.av)], _]) (D := []) (v := v) (L' := []) (.refl _) trivial ⟨.box ⟨.refl _, .refl _, .hit, trivial⟩, .refl _, trivial⟩ ?_; refine W.q (.ldbn 0 (.t rfl) rfl ag56 ty56 rfl) rfl (.stb 1 (.t rfl) (.t rfl) rfl ty56 rfl rfl rfl (.n (.h ?_))); refine W.ret ?_; refine W.retn (M' := []) (D := _) (rs := [.cell 4 56]) (avs := [_]) Tryz.results66 ⟨⟨_, _, _, rfl, by (exact List.mem_cons_of_mem _ List.mem_cons_self), rfl, by funext w; exact ag56.run w, by funext w; exact ty56.size w⟩, trivial⟩ rfl (.refl _) ?_
    refine ⟨?_, rfl⟩
    ((rw [Ex.tog_n k l h10 h42]; rfl))
end WParse1
end Go.Proofs.YtphlkdbglpcikaaGreatDoor
end
section
namespace Go.Vl
def esc1 (q : Bool) (c : UInt8) : List UInt8 := if c = 38 then [38, 97, 109, 112, 59] else if c = 60 then [38, 108, 116, 59] else if c = 62 then [38, 103, 116, 59] else if c = 34 ∧ q = true then [38, 113, 117, 111, 116, 59] else [c]
def esc (q : Bool) (s : List UInt8) : List UInt8 := s.flatMap (esc1 q)
structure Tk where
 kind : Int
 name : List UInt8
 attrs : List Dc
 self : Bool
 text : List UInt8
def attrS (a : Dc) : List UInt8 := (([32] ++ a.1) ++ [61, 34] ++ esc true a.2) ++ [34]
def tagS (name : List UInt8) (attrs : List Dc) (self : Bool) : List UInt8 := (([60] ++ name) ++ attrs.flatMap attrS ++ (if self then [47] else [])) ++ [62]
structure okAt (l : List Dc) : Prop where
 len : l.length ≤ 4
 all : ∀ a ∈ l, nameOk a.1 = true ∧ a.1.length ≤ 1000
 one : ∀ i, i < l.length → ((l.take i).any fun b => (l.getD i ([], [])).1 == b.1) = false
namespace Tk
abbrev dfl : Tk := ⟨0, [], [], false, []⟩
def txt (t : Tk) : List UInt8 := if t.kind = 1 then tagS t.name t.attrs t.self else if t.kind = 2 then ([60, 47] ++ t.name) ++ [62] else esc false t.text
abbrev nm5 : List (List UInt8) := [[112], [98], [105], [108, 105], [104, 45, 49]]
abbrev tx7 : List (List UInt8) := [[120], [97, 60, 98], [38, 97, 109, 112, 59], [34, 113, 34], [60, 112, 62], [32, 62, 32], [38, 35, 54, 48, 59]]
abbrev vl6 : List (List UInt8) := [[], [120], [97, 34, 98], [60, 38, 62], [97, 32, 98], [38, 108, 116, 59]]
abbrev at2 : List (List UInt8) := [[99, 108, 97, 115, 115], [104, 114, 101, 102]]
def drawn (t : Tk) : Prop := (t.kind = 1 ∧ t.name ∈ nm5 ∧ (t.attrs.map (·.1) = at2.take t.attrs.length ∧ ∀ a ∈ t.attrs, a.2 ∈ vl6) ∧ t.text = []) ∨ (t.kind = 2 ∧ t.name ∈ nm5 ∧ t.attrs = [] ∧ t.self = false ∧ t.text = []) ∨ (t.kind = 3 ∧ t.name = [] ∧ t.attrs = [] ∧ t.self = false ∧ t.text ∈ tx7)
end Tk
end Go.Vl
end
section
namespace Go.Vl
abbrev Pc := UInt8 × Bool
namespace Pc
def nm (c : UInt8) : List UInt8 := if c = 38 then [97, 109, 112] else if c = 60 then [108, 116] else if c = 62 then [103, 116] else [113, 117, 111, 116]
def txt (p : Pc) : List UInt8 := if p.2 = true then 38 :: (nm p.1 ++ [59]) else [p.1]
def ok (p : Pc) : Prop := if p.2 = true then (p.1 = 38 ∨ p.1 = 60 ∨ p.1 = 62 ∨ p.1 = 34) else p.1 ≠ 38
def flat (e : List Pc) : List UInt8 := e.flatMap txt
def of (q : Bool) (c : UInt8) : Pc := (c, decide (c = 38 ∨ c = 60 ∨ c = 62 ∨ (c = 34 ∧ q = true)))
abbrev dfl : Pc := (0, false)
end Pc
open Go Go.Sem
theorem idx_lib (c : UInt8) : ∀ l : List UInt8, Lib.indexByte l c = idxI (fun b => b == c) l
 | [] => rfl
 | b :: l => by
  have ih := idx_lib c l
  have hg := idxI_ge (fun b => b == c) l
  rw [Lib.indexByte, idxI, ih]
  by_cases h : (b == c) = true
  ·rw [if_pos h, if_pos h]
  ·rw [if_neg h, if_neg h]
   by_cases h2 : idxI (fun b => b == c) l = -1
   ·rw [h2]; rfl
   ·rw [if_neg (by simpa using h2), if_neg (by omega)]
theorem Ev.ixb {x : Cx} {g : Bool} {L : List (Tmp × Bool × AV)} {M : List ME} {ty : TypeId} {o1 o2 : Operand} {f : FuncId} {fn : Func} {ats : Array TypeId} {l : List UInt8} {c : UInt8} (hf : x.P.funcs[f]? = some fn) (hname : (fn.name == "runtime.NumGoroutine") = false)
 (hb : fn.body.isNone = true) (hn : Extern.findNext fn = none) (he : Extern.find fn = some Extern.BytealgIndexByte.indexByte) (h1 : Ov g L o1 (.str l)) (h2 : Ov g L o2 (.lit (.int .u8 (c.toNat : Int)))) :
 Ev x g L M (.call ⟨.value (.func f), #[o1, o2], ats⟩) ty (.lit (.int .i64 (idxI (fun b => b == c) l))) :=
 Ev.pure fun a w hst hg => by
  have e1 : a.eval o1 = .string ⟨l.toArray⟩ := h1.lit hg hst
  have e2 : a.eval o2 = .int .u8 (c.toNat : Int) := h2.lit hg hst
  have hv : a.eval (.func f) = .func (.func f) #[] #[] := rfl
  have hc : ((c.toNat : Int)).toNat.toUInt8 = c := by simp
  have hr : (callFunc f #[.string ⟨l.toArray⟩, .int .u8 (c.toNat : Int)]).run x.P w = .ok (.value (.int .i64 (idxI (fun b => b == c) l))) w := by
   rw [run_callFunc_extern hf hname hb hn he, Lib.run_indexByteString, Result.andThen_ok, hc, idx_lib]
  simp only [execOp, resolve, hv, Deferred.ofValue, Sem.run_bind, Sem.run_pure, Result.andThen_ok, invoke, List.map_toArray, List.map_cons, List.map_nil, e1, e2]
  simpa using hr
end Go.Vl
end
section
namespace Go.Proofs.YtphlkdbglpcikaaGreatDoor
open Go.Vl
open Y
namespace WIndex
theorem c_IndexByte0 (l : List UInt8) (c : UInt8) : FnP Tryz.prog 131 [.str l, .lit (.int .u8 (c.toNat : Int))] (.int (idxI (fun b => b == c) l)) :=  by
 refine FnC.mk Tryz.func131 (by kernel_rfl) rfl Tryz.ntmps131 rfl (fun w0 F => ?_)
 refine W.s (.r (.q (.assign .k) rfl (.n (.h (.s (.r (.mv rfl rfl (.mv rfl rfl ?_)))))))); refine W.q (.ixb (fn := Tryz.f147) Tryz.func147 rfl rfl rfl rfl (.t rfl) (.t rfl)) rfl ?_; refine W.asg rfl rfl (.n (.h ?_)); refine W.ret ?_; refine W.retn (M' := []) (rs := [.tmp 4]) (avs := [_]) Tryz.results131 ⟨rfl, trivial⟩ rfl (.refl _) ?_
 exact ⟨rfl, rfl⟩
theorem c_IndexByte (l : List UInt8) (c : UInt8) : FnP Tryz.prog 118 [.str l, .lit (.int .u8 (c.toNat : Int))] (.int (idxI (fun b => b == c) l)) :=  by
 refine FnC.mk Tryz.func118 (by kernel_rfl) rfl Tryz.ntmps118 rfl (fun w0 F => ?_)
 refine W.s (.r (.q (.assign .k) rfl (.n (.h (.s (.r (.mv rfl rfl (.mv rfl rfl ?_)))))))); refine W.callp (c_IndexByte0 l c) ⟨(.t rfl), (.t rfl), trivial⟩ rfl ?_; refine W.asg rfl rfl (.n (.h ?_)); refine W.ret ?_; refine W.retn (M' := []) (rs := [.tmp 4]) (avs := [_]) Tryz.results118 ⟨rfl, trivial⟩ rfl (.refl _) ?_
 exact ⟨rfl, rfl⟩
end WIndex
end Go.Proofs.YtphlkdbglpcikaaGreatDoor
end
section
namespace Go.Proofs.YtphlkdbglpcikaaGreatDoor
open Go.Vl
open Y
namespace WParse2
theorem c_item_ch (b n : Nat) (sf : List Nat) (r : List UInt8) (hn : n < 8) (hsf : ∀ k ∈ sf, k < 3) (hr : It.endI r) : FnC Tryz.prog 98 [.lit (.pointer (some ⟨b, 0, none⟩))] [.box b 94 [.str (It.tx (.ch n sf) ++ r), .bool false]] (fun x M => x = (It.ev (.ch n sf)).avx ∧ M = [.box b 94 [.str (r), .bool false]]) :=  by
 refine FnC.mk Tryz.func98 (by kernel_rfl) rfl Tryz.ntmps98 rfl (fun w0 F => ?_)
 rw [It.tx, List.cons_append]
 have hcn := It.ch_nat n hn
 generalize 97 + UInt8.ofNat n = c0 at hcn ⊢
 refine W.s ?_; refine W.r ?_; refine W.alloc ty56 rfl rfl ?_; intro b2; refine W.n ?_; refine W.h ?_; refine W.s ?_; refine W.r ?_; refine W.q (.move (.t rfl)) rfl ?_; refine W.q (.nilc (.t rfl)) rfl ?_
 refine W.q (.fab (.t rfl) fa94_0) rfl (.q (.ldb1 1 (.t rfl) rfl ag9 rfl) rfl ?_); refine W.q (.ats (b := c0) (.t rfl) .k Tryz.underlying9 (fun _ => ⟨by decide, rfl⟩)) rfl ?_; refine W.asg rfl rfl (.n (.h (.s (.r (.mv rfl rfl (.mv rfl rfl (.q (.nilc (.t rfl)) rfl (.q (.fab (.t rfl) fa94_0) rfl (.q (.ldb1 1 (.t rfl) rfl ag9 rfl) rfl ?_))))))))); refine W.q (.subs (lo := some (.const (.int .i64 1))) (hi := none) (.t rfl) Tryz.underlying9 (Ov.k (g := true) (L := [])) rfl (fun _ => by simp only [List.length_cons]; omega)) rfl ?_; refine W.is (t := 16) (av' := .str (sf.map sg ++ r)) rfl (congrArg AV.str (It.tail1 _ _)) ?_; refine W.q (.nilc (.t rfl)) rfl (.q (.fab (.t rfl) fa94_0) rfl (.stb 1 (.t rfl) (.t rfl) rfl ty9 rfl rfl rfl ?_))
 refine W.n ?_; refine W.h ?_; refine W.s ?_; refine W.r ?_; refine W.alloc ty56 rfl rfl ?_; intro b4; refine W.n ?_; refine W.h ?_; refine W.s ?_; refine W.b ?_; refine W.s ?_; refine W.r ?_; refine W.q (.move (.t rfl)) rfl ?_; refine W.q (.gei (.t rfl) .k) rfl ?_; refine W.q (.move (.t rfl)) rfl ?_; refine W.qgT rfl rfl (.move (.t rfl)) rfl ?_; refine W.qgT rfl rfl (.lei (.c rfl) .k) rfl ?_; refine W.q (.and (.t rfl) ⟨_, _, rfl, rfl, by ((simp; done))⟩) rfl ?_; refine W.q (.assign (.t rfl)) rfl ?_; refine W.n ?_; refine W.h ?_; refine W.isb 22 true rfl (by simp; omega) ?_; refine W.condT (.t rfl) ?_; refine W.r ?_; refine W.q (.move (.t rfl)) rfl ?_; refine W.q (.subw (.t rfl) .k) rfl ?_; refine W.is (t := 30) (av' := .lit (.int .u8 (n : Int))) rfl (congrArg (fun z => AV.lit (.int .u8 z)) (by rw [hcn]; simp [IntKind.wrap, IntKind.signed, IntKind.bits]; omega)) ?_
 refine W.q (.conv64 (.t rfl) ⟨_, Tryz.underlying5⟩ Tryz.underlying3 (fun _ => by omega)) rfl (.q (.build ty56 st56 rfl (fun hg => ⟨_, _, _, rfl, .k, rfl, rfl, rfl, _, _, _, rfl, (.t rfl), rfl, rfl, rfl, rfl⟩)) rfl ?_); refine W.nils (t := 32) (g := true) (cs' := [.int 1, .int (n : Int), .sl 3 []]) rfl ⟨.inl rfl, .inl rfl, .inr ⟨rfl, 3, rfl⟩, trivial⟩ ?_; refine W.stb 0 (.t rfl) (.t rfl) rfl ty56 rfl rfl rfl ?_
 refine W.n ?_; refine W.bn ?_; refine W.h ?_; refine W.s ?_; refine W.b ?_; refine W.loop (D := []) (ι := Nat) (fun k => [(0, true, .lit (.pointer (some ⟨b, 0, none⟩))), (4, true, .lit (.pointer (some ⟨b4, 0, none⟩))), (2, true, .lit (.pointer (some ⟨b2, 0, none⟩)))]) (fun k => [.box b4 56 (Ex.sfe (.mk 1 (n : Int) []) (sf.take k)).avx.cells, .box b2 56 [.int 0, .int 0, .lit (.slice none 0 0)], .box b 94 [.str ((sf.drop k).map sg ++ r), .bool false]]) (fun k => k ≤ sf.length) (fun k => sf.length - k) 0 ⟨rfl, rfl, rfl, trivial⟩ (.refl _) (Nat.zero_le _) ?_; intro k hk
 dsimp only at hk ⊢
 rcases (show k < sf.length ∨ (k = sf.length ∧ r = []) ∨ (k = sf.length ∧ ∃ c t, r = c :: t) from by
  rcases Nat.lt_or_ge k sf.length with h | h
  ·exact .inl h
  ·cases r with
   | nil => exact .inr (.inl ⟨by omega, rfl⟩)
   | cons c t => exact .inr (.inr ⟨by omega, c, t, rfl⟩)) with hlt | ⟨hend, hr0⟩ | ⟨hend, c, t, hr0⟩
 ·rw [It.sfdrop sf k hlt r]
  have hk3 := hsf _ (getD_memG 0 sf k hlt)
  have hsn := Ex.sfe_snoc (.mk 1 (n : Int) []) sf k hlt
  generalize hkk : sf.getD k 0 = kk at hk3 hsn ⊢
  refine W.s (.s (.r (.mv rfl rfl (.q (.nilc (.t rfl)) rfl (.q (.fab (.t rfl) fa94_0) rfl (.q (.ldb1 2 (.t rfl) rfl ag9 rfl) rfl (.q (.nes (.t rfl) .k) rfl (.n (.h (.isb 54 true rfl (by rfl) (.condT (.t rfl) (.k (.h (.b (.s (.r (.mv rfl rfl (.q (.nilc (.t rfl)) rfl (.q (.fab (.t rfl) fa94_0) rfl (.q (.ldb1 2 (.t rfl) rfl ag9 rfl) rfl ?_)))))))))))))))))))); refine W.q (.ats (b := sg kk) (.t rfl) .k Tryz.underlying9 (fun _ => ⟨by decide, rfl⟩)) rfl ?_; refine W.callp (WIndex.c_IndexByte [42, 43, 63] (sg kk)) ⟨.k, (.t rfl), trivial⟩ rfl ?_; refine W.asg rfl rfl (.n (.h (.s (.s (.r (.mv rfl rfl (.q (.lti (.t rfl) .k) rfl (.n (.h ?_))))))))); refine W.isb 62 false rfl (by rw [It.sg_idx kk hk3]; exact decide_eq_false (by omega)) ?_; refine W.condF (.t rfl) (.k (.h (.s (.r (.mv rfl rfl (.mv rfl rfl (.q (.nilc (.t rfl)) rfl (.q (.fab (.t rfl) fa94_0) rfl (.q (.ldb1 2 (.t rfl) rfl ag9 rfl) rfl ?_))))))))); refine W.q (.subs (lo := some (.const (.int .i64 1))) (hi := none) (.t rfl) Tryz.underlying9 (Ov.k (g := true) (L := [])) rfl (fun _ => by simp only [List.length_cons]; omega)) rfl ?_; refine W.is (t := 68) (av' := .str ((sf.drop (k + 1)).map sg ++ r)) rfl (congrArg AV.str (It.tail1 _ _)) ?_; refine W.q (.nilc (.t rfl)) rfl (.q (.fab (.t rfl) fa94_0) rfl (.stb 2 (.t rfl) (.t rfl) rfl ty9 rfl rfl rfl (.n (.h (.r (.mv rfl rfl ?_)))))); refine W.is (t := 71) (av' := .int (kk : Int)) rfl (congrArg AV.int (It.sg_idx kk hk3)) ?_; refine W.q (.add .k (.t rfl) (fun _ => by omega)) rfl (.q (.ldbn 0 (.t rfl) rfl ag56 ty56 rfl) rfl ?_); refine W.bs (es := [_]) Tryz.underlying54 ty56 ⟨rfl, (.t rfl), rfl, rfl, trivial⟩ rfl (by decide) rfl rfl ?_; refine W.q (.build ty56 st56 rfl (fun hg => ⟨_, _, _, rfl, (.t rfl), rfl, rfl, rfl, _, _, _, rfl, (.t rfl), rfl, rfl, rfl, rfl⟩)) rfl (.stb 0 (.t rfl) (.t rfl) rfl ty56 rfl rfl rfl ?_)
  refine W.n ?_; refine W.bn ?_; refine W.h ?_; refine W.reach (D := []) (k + 1) ⟨rfl, rfl, rfl, trivial⟩ (by rw [hsn, Ex.avx_one]; exact .refl _) ⟨by show k + 1 ≤ _; omega, by show _ - (k + 1) < _; omega⟩
 ·subst hr0
  rw [hend, List.drop_length, List.take_length]
  refine W.s (.s (.r (.mv rfl rfl (.q (.nilc (.t rfl)) rfl (.q (.fab (.t rfl) fa94_0) rfl (.q (.ldb1 2 (.t rfl) rfl ag9 rfl) rfl (.q (.nes (.t rfl) .k) rfl (.n (.h (.isb 54 false rfl (by rfl) (.condF (.t rfl) (.ex (.he (.he (.bh (.h (.s (.r (.q (.ldbn 0 (.t rfl) rfl ag56 ty56 rfl) rfl (.stb 1 (.t rfl) (.t rfl) rfl ty56 rfl rfl rfl (.n (.h ?_)))))))))))))))))))))); refine W.ret ?_; refine W.retn (M' := [_]) (D := _) (rs := [.cell 2 56]) (avs := [_]) Tryz.results98 ⟨⟨_, _, _, rfl, by (exact List.mem_cons_of_mem _ List.mem_cons_self), rfl, by funext w; exact ag56.run w, by funext w; exact ty56.size w⟩, trivial⟩ rfl (List.perm_middle (l₁ := [_, _])) ?_
  exact ⟨by rw [It.ev]; rfl, rfl⟩
 ·subst hr0
  rw [hend, List.drop_length, List.take_length]
  have hc3 := hr c t rfl
  refine W.s (.s (.r (.mv rfl rfl (.q (.nilc (.t rfl)) rfl (.q (.fab (.t rfl) fa94_0) rfl (.q (.ldb1 2 (.t rfl) rfl ag9 rfl) rfl (.q (.nes (.t rfl) .k) rfl (.n (.h (.isb 54 true rfl (by rfl) (.condT (.t rfl) (.k (.h (.b (.s (.r (.mv rfl rfl (.q (.nilc (.t rfl)) rfl (.q (.fab (.t rfl) fa94_0) rfl (.q (.ldb1 2 (.t rfl) rfl ag9 rfl) rfl ?_)))))))))))))))))))); refine W.q (.ats (b := c) (.t rfl) .k Tryz.underlying9 (fun _ => ⟨by decide, rfl⟩)) rfl ?_; refine W.callp (WIndex.c_IndexByte [42, 43, 63] c) ⟨.k, (.t rfl), trivial⟩ rfl ?_; refine W.asg rfl rfl (.n (.h (.s (.s (.r (.mv rfl rfl (.q (.lti (.t rfl) .k) rfl (.n (.h ?_))))))))); refine W.isb 62 true rfl (by rw [It.idx_no c hc3]; rfl) ?_; refine W.condT (.t rfl) (.ex (.he (.bm rfl (.he (.bh (.h (.s (.r (.q (.ldbn 0 (.t rfl) rfl ag56 ty56 rfl) rfl (.stb 1 (.t rfl) (.t rfl) rfl ty56 rfl rfl rfl (.n (.h ?_)))))))))))); refine W.ret ?_; refine W.retn (M' := [_]) (D := _) (rs := [.cell 2 56]) (avs := [_]) Tryz.results98 ⟨⟨_, _, _, rfl, by (exact List.mem_cons_of_mem _ List.mem_cons_self), rfl, by funext w; exact ag56.run w, by funext w; exact ty56.size w⟩, trivial⟩ rfl (List.perm_middle (l₁ := [_, _])) ?_
  exact ⟨by rw [It.ev]; rfl, rfl⟩
theorem c_item_gr (b : Nat) (s : List It) (a : List (List It)) (sf : List Nat) (r : List UInt8) (hA : ∀ r, It.endA r → FnC Tryz.prog 36 [.lit (.pointer (some ⟨b, 0, none⟩))] [.box b 94 [.str (It.stx (s) ++ (It.atl (a) ++ r)), .bool false]] (fun x M => x = (It.al (s) (a)).avx ∧ M = [.box b 94 [.str (r), .bool false]])) (hsf : ∀ k ∈ sf, k < 3) (hr : It.endI r) : FnC Tryz.prog 98 [.lit (.pointer (some ⟨b, 0, none⟩))] [.box b 94 [.str (It.tx (.gr s a sf) ++ r), .bool false]] (fun x M => x = (It.ev (.gr s a sf)).avx ∧ M = [.box b 94 [.str (r), .bool false]]) :=  by
 refine FnC.mk Tryz.func98 (by kernel_rfl) rfl Tryz.ntmps98 rfl (fun w0 F => ?_)
 rw [It.tx, show (40 :: (It.stx s ++ (It.atl a ++ 41 :: sf.map sg)) ++ r : List UInt8) = 40 :: (It.stx s ++ (It.atl a ++ (41 :: (sf.map sg ++ r)))) from by simp]
 refine W.s ?_; refine W.r ?_; refine W.alloc ty56 rfl rfl ?_; intro b2; refine W.n ?_; refine W.h ?_; refine W.s ?_; refine W.r ?_; refine W.q (.move (.t rfl)) rfl ?_; refine W.q (.nilc (.t rfl)) rfl ?_
 refine W.q (.fab (.t rfl) fa94_0) rfl (.q (.ldb1 1 (.t rfl) rfl ag9 rfl) rfl ?_); refine W.q (.ats (b := 40) (.t rfl) .k Tryz.underlying9 (fun _ => ⟨by decide, rfl⟩)) rfl ?_; refine W.asg rfl rfl (.n (.h (.s (.r (.mv rfl rfl (.mv rfl rfl (.q (.nilc (.t rfl)) rfl (.q (.fab (.t rfl) fa94_0) rfl (.q (.ldb1 1 (.t rfl) rfl ag9 rfl) rfl ?_))))))))); refine W.q (.subs (lo := some (.const (.int .i64 1))) (hi := none) (.t rfl) Tryz.underlying9 (Ov.k (g := true) (L := [])) rfl (fun _ => by simp only [List.length_cons]; omega)) rfl ?_; refine W.is (t := 16) (av' := .str (It.stx s ++ (It.atl a ++ (41 :: (sf.map sg ++ r))))) rfl (congrArg AV.str (It.tail1 _ _)) ?_; refine W.q (.nilc (.t rfl)) rfl (.q (.fab (.t rfl) fa94_0) rfl (.stb 1 (.t rfl) (.t rfl) rfl ty9 rfl rfl rfl ?_))
 refine W.n ?_; refine W.h ?_; refine W.s ?_; refine W.r ?_; refine W.alloc ty56 rfl rfl ?_; intro b4; refine W.n ?_; refine W.h ?_; refine W.s ?_; refine W.b ?_; refine W.s ?_; refine W.r ?_; refine W.q (.move (.t rfl)) rfl ?_; refine W.q (.gei (.t rfl) .k) rfl ?_; refine W.q (.move (.t rfl)) rfl ?_; refine W.qgT rfl rfl (.move (.t rfl)) rfl ?_; refine W.qgT rfl rfl (.lei (.c rfl) .k) rfl ?_; refine W.q (.and (.t rfl) ⟨_, _, rfl, rfl, by ((simp; done))⟩) rfl ?_; refine W.q (.assign (.t rfl)) rfl ?_; refine W.n ?_; refine W.h ?_; refine W.isb 22 false rfl (by rfl) ?_; refine W.condF (.t rfl) ?_; refine W.s ?_; refine W.r ?_; refine W.q (.move (.t rfl)) rfl ?_; refine W.q (.eqi (.t rfl) .k) rfl ?_; refine W.q (.assign (.t rfl)) rfl ?_; refine W.n ?_; refine W.h ?_; refine W.isb 33 true rfl (by rfl) ?_; refine W.condT (.t rfl) ?_; refine W.s ?_; refine W.r ?_; refine W.q (.move (.t rfl)) rfl ?_; refine W.call (hA _ (It.endA_close (sf.map sg ++ r))) ⟨(.t rfl), trivial⟩ ((List.perm_middle (l₁ := [_, _]))) rfl ?_
 rintro _ _ ⟨rfl, rfl⟩
 refine W.stb 1 (.t rfl) (.t rfl) rfl ty56 rfl rfl rfl (.n (.h (.r (.mv rfl rfl (.mv rfl rfl (.q (.nilc (.t rfl)) rfl (.q (.fab (.t rfl) fa94_1) rfl (.q (.ldb1 0 (.t rfl) rfl ag4 rfl) rfl (.mv rfl rfl (.gyes rfl rfl (.mv rfl rfl (.gyes rfl rfl ?_)))))))))))); refine W.call (WParse1.c_takesT b 41 (sf.map sg ++ r)) ⟨(.t rfl), .k, trivial⟩ (.refl _) rfl ?_
 rintro _ _ ⟨rfl, rfl⟩
 refine W.gyes rfl rfl (.q (.not (.t rfl)) rfl ?_); refine W.q (.or (.t rfl) ⟨_, _, rfl, rfl, by ((simp; done))⟩) rfl ?_; refine W.q (.nilc (.t rfl)) rfl (.q (.fab (.t rfl) fa94_1) rfl (.stb 0 (.t rfl) (.t rfl) rfl ty4 rfl rfl rfl ?_))
 refine W.n ?_; refine W.bn ?_; refine W.h ?_; refine W.s ?_; refine W.b ?_; refine W.loop (D := []) (ι := Nat) (fun k => [(0, true, .lit (.pointer (some ⟨b, 0, none⟩))), (4, true, .lit (.pointer (some ⟨b4, 0, none⟩))), (2, true, .lit (.pointer (some ⟨b2, 0, none⟩)))]) (fun k => [.box b4 56 (Ex.sfe (It.al s a) (sf.take k)).avx.cells, .box b2 56 [.int 0, .int 0, .lit (.slice none 0 0)], .box b 94 [.str ((sf.drop k).map sg ++ r), .bool false]]) (fun k => k ≤ sf.length) (fun k => sf.length - k) 0 ⟨rfl, rfl, rfl, trivial⟩ ((List.perm_append_comm (l₁ := [_]))) (Nat.zero_le _) ?_; intro k hk
 dsimp only at hk ⊢
 rcases (show k < sf.length ∨ (k = sf.length ∧ r = []) ∨ (k = sf.length ∧ ∃ c t, r = c :: t) from by
  rcases Nat.lt_or_ge k sf.length with h | h
  ·exact .inl h
  ·cases r with
   | nil => exact .inr (.inl ⟨by omega, rfl⟩)
   | cons c t => exact .inr (.inr ⟨by omega, c, t, rfl⟩)) with hlt | ⟨hend, hr0⟩ | ⟨hend, c, t, hr0⟩
 ·rw [It.sfdrop sf k hlt r]
  have hk3 := hsf _ (getD_memG 0 sf k hlt)
  have hsn := Ex.sfe_snoc (It.al s a) sf k hlt
  generalize hkk : sf.getD k 0 = kk at hk3 hsn ⊢
  refine W.s (.s (.r (.mv rfl rfl (.q (.nilc (.t rfl)) rfl (.q (.fab (.t rfl) fa94_0) rfl (.q (.ldb1 2 (.t rfl) rfl ag9 rfl) rfl (.q (.nes (.t rfl) .k) rfl (.n (.h (.isb 54 true rfl (by rfl) (.condT (.t rfl) (.k (.h (.b (.s (.r (.mv rfl rfl (.q (.nilc (.t rfl)) rfl (.q (.fab (.t rfl) fa94_0) rfl (.q (.ldb1 2 (.t rfl) rfl ag9 rfl) rfl ?_)))))))))))))))))))); refine W.q (.ats (b := sg kk) (.t rfl) .k Tryz.underlying9 (fun _ => ⟨by decide, rfl⟩)) rfl ?_; refine W.callp (WIndex.c_IndexByte [42, 43, 63] (sg kk)) ⟨.k, (.t rfl), trivial⟩ rfl ?_; refine W.asg rfl rfl (.n (.h (.s (.s (.r (.mv rfl rfl (.q (.lti (.t rfl) .k) rfl (.n (.h ?_))))))))); refine W.isb 62 false rfl (by rw [It.sg_idx kk hk3]; exact decide_eq_false (by omega)) ?_; refine W.condF (.t rfl) (.k (.h (.s (.r (.mv rfl rfl (.mv rfl rfl (.q (.nilc (.t rfl)) rfl (.q (.fab (.t rfl) fa94_0) rfl (.q (.ldb1 2 (.t rfl) rfl ag9 rfl) rfl ?_))))))))); refine W.q (.subs (lo := some (.const (.int .i64 1))) (hi := none) (.t rfl) Tryz.underlying9 (Ov.k (g := true) (L := [])) rfl (fun _ => by simp only [List.length_cons]; omega)) rfl ?_; refine W.is (t := 68) (av' := .str ((sf.drop (k + 1)).map sg ++ r)) rfl (congrArg AV.str (It.tail1 _ _)) ?_; refine W.q (.nilc (.t rfl)) rfl (.q (.fab (.t rfl) fa94_0) rfl (.stb 2 (.t rfl) (.t rfl) rfl ty9 rfl rfl rfl (.n (.h (.r (.mv rfl rfl ?_)))))); refine W.is (t := 71) (av' := .int (kk : Int)) rfl (congrArg AV.int (It.sg_idx kk hk3)) ?_; refine W.q (.add .k (.t rfl) (fun _ => by omega)) rfl (.q (.ldbn 0 (.t rfl) rfl ag56 ty56 rfl) rfl ?_); refine W.bs (es := [_]) Tryz.underlying54 ty56 ⟨rfl, (.t rfl), rfl, rfl, trivial⟩ rfl (by decide) rfl rfl ?_; refine W.q (.build ty56 st56 rfl (fun hg => ⟨_, _, _, rfl, (.t rfl), rfl, rfl, rfl, _, _, _, rfl, (.t rfl), rfl, rfl, rfl, rfl⟩)) rfl (.stb 0 (.t rfl) (.t rfl) rfl ty56 rfl rfl rfl ?_)
  refine W.n ?_; refine W.bn ?_; refine W.h ?_; refine W.reach (D := []) (k + 1) ⟨rfl, rfl, rfl, trivial⟩ (by rw [hsn, Ex.avx_one]; exact .refl _) ⟨by show k + 1 ≤ _; omega, by show _ - (k + 1) < _; omega⟩
 ·subst hr0
  rw [hend, List.drop_length, List.take_length]
  refine W.s (.s (.r (.mv rfl rfl (.q (.nilc (.t rfl)) rfl (.q (.fab (.t rfl) fa94_0) rfl (.q (.ldb1 2 (.t rfl) rfl ag9 rfl) rfl (.q (.nes (.t rfl) .k) rfl (.n (.h (.isb 54 false rfl (by rfl) (.condF (.t rfl) (.ex (.he (.he (.bh (.h (.s (.r (.q (.ldbn 0 (.t rfl) rfl ag56 ty56 rfl) rfl (.stb 1 (.t rfl) (.t rfl) rfl ty56 rfl rfl rfl (.n (.h ?_)))))))))))))))))))))); refine W.ret ?_; refine W.retn (M' := [_]) (D := _) (rs := [.cell 2 56]) (avs := [_]) Tryz.results98 ⟨⟨_, _, _, rfl, by (exact List.mem_cons_of_mem _ List.mem_cons_self), rfl, by funext w; exact ag56.run w, by funext w; exact ty56.size w⟩, trivial⟩ rfl (List.perm_middle (l₁ := [_, _])) ?_
  exact ⟨by rw [It.ev]; rfl, rfl⟩
 ·subst hr0
  rw [hend, List.drop_length, List.take_length]
  have hc3 := hr c t rfl
  refine W.s (.s (.r (.mv rfl rfl (.q (.nilc (.t rfl)) rfl (.q (.fab (.t rfl) fa94_0) rfl (.q (.ldb1 2 (.t rfl) rfl ag9 rfl) rfl (.q (.nes (.t rfl) .k) rfl (.n (.h (.isb 54 true rfl (by rfl) (.condT (.t rfl) (.k (.h (.b (.s (.r (.mv rfl rfl (.q (.nilc (.t rfl)) rfl (.q (.fab (.t rfl) fa94_0) rfl (.q (.ldb1 2 (.t rfl) rfl ag9 rfl) rfl ?_)))))))))))))))))))); refine W.q (.ats (b := c) (.t rfl) .k Tryz.underlying9 (fun _ => ⟨by decide, rfl⟩)) rfl ?_; refine W.callp (WIndex.c_IndexByte [42, 43, 63] c) ⟨.k, (.t rfl), trivial⟩ rfl ?_; refine W.asg rfl rfl (.n (.h (.s (.s (.r (.mv rfl rfl (.q (.lti (.t rfl) .k) rfl (.n (.h ?_))))))))); refine W.isb 62 true rfl (by rw [It.idx_no c hc3]; rfl) ?_; refine W.condT (.t rfl) (.ex (.he (.bm rfl (.he (.bh (.h (.s (.r (.q (.ldbn 0 (.t rfl) rfl ag56 ty56 rfl) rfl (.stb 1 (.t rfl) (.t rfl) rfl ty56 rfl rfl rfl (.n (.h ?_)))))))))))); refine W.ret ?_; refine W.retn (M' := [_]) (D := _) (rs := [.cell 2 56]) (avs := [_]) Tryz.results98 ⟨⟨_, _, _, rfl, by (exact List.mem_cons_of_mem _ List.mem_cons_self), rfl, by funext w; exact ag56.run w, by funext w; exact ty56.size w⟩, trivial⟩ rfl (List.perm_middle (l₁ := [_, _])) ?_
  exact ⟨by rw [It.ev]; rfl, rfl⟩
theorem c_seq (b : Nat) (s : List It) (r : List UInt8) (hs : It.oks s) (hz : Ex.szs (It.sev s) ≤ 16777216) (hI : ∀ i ∈ s, ∀ r, It.endI r → FnC Tryz.prog 98 [.lit (.pointer (some ⟨b, 0, none⟩))] [.box b 94 [.str (It.tx (i) ++ r), .bool false]] (fun x M => x = (It.ev (i)).avx ∧ M = [.box b 94 [.str (r), .bool false]])) (hr : It.endS r) : FnC Tryz.prog 64 [.lit (.pointer (some ⟨b, 0, none⟩))] [.box b 94 [.str (It.stx (s) ++ r), .bool false]] (fun x M => x = (It.sq (s)).avx ∧ M = [.box b 94 [.str (r), .bool false]]) :=  by
 refine FnC.mk Tryz.func64 (by kernel_rfl) rfl Tryz.ntmps64 rfl (fun w0 F => ?_)
 have hsm : (It.sev s).length = s.length := by rw [It.sev_map, List.length_map]
 have hsz := Ex.szs_len (It.sev s)
 refine W.s ?_; refine W.r ?_; refine W.alloc ty56 rfl rfl ?_; intro b2; refine W.n ?_; refine W.h ?_; refine W.s ?_; refine W.r ?_; refine W.q (.assign .k) rfl ?_; refine W.n ?_; refine W.h ?_; refine W.s ?_; refine W.b ?_; refine W.own_nil 56 3 ?_; refine W.loop (D := []) (ι := Nat × Value) (fun z => [(0, true, .lit (.pointer (some ⟨b, 0, none⟩))), (2, true, .lit (.pointer (some ⟨b2, 0, none⟩))), (3, true, .lit z.2)]) (fun z => [.box b 94 [.str (It.stx (s.drop z.1) ++ r), .bool false], .arr z.2 56 3 (((It.sev s).take z.1).map Ex.av), .box b2 56 [.int 0, .int 0, .lit (.slice none 0 0)]]) (fun z => z.1 ≤ s.length) (fun z => s.length - z.1) (0, .slice none 0 0) ⟨rfl, rfl, rfl, trivial⟩ (List.perm_middle (l₁ := [_, _])) (Nat.zero_le _) ?_
 rintro ⟨k, v⟩ hk
 dsimp only at hk ⊢
 rcases (show k < s.length ∨ (k = s.length ∧ r = []) ∨ (k = s.length ∧ ∃ c t, r = c :: t) from by
  rcases Nat.lt_or_ge k s.length with h | h
  ·exact .inl h
  ·cases r with
   | nil => exact .inr (.inl ⟨by omega, rfl⟩)
   | cons c t => exact .inr (.inr ⟨by omega, c, t, rfl⟩)) with hlt | ⟨hend, hr0⟩ | ⟨hend, c, t, hr0⟩
 ·have him := getD_memG (It.ch 0 []) s k hlt
  have hok := (It.oks_iff s).1 hs
  have hdr := It.drop_cons s k hlt
  have hsn : (It.sev s).take (k + 1) = (It.sev s).take k ++ [(s.getD k (It.ch 0 [])).ev] := by rw [It.sev_map, ← List.map_take, take_getDG (It.ch 0 []) s k hlt, List.map_append, ← List.map_take]; rfl
  have hei : It.endI (It.stx (s.drop (k + 1)) ++ r) := It.endI_stx _ ((It.oks_iff _).2 fun j hj => hok j (List.mem_of_mem_drop hj)) hr
  generalize s.getD k (It.ch 0 []) = i at him hdr hsn
  have cI := hI i him _ hei
  obtain ⟨c0, t0, ht0, hc0⟩ := It.tx_head i (hok i him)
  rw [hdr, List.append_assoc]
  rw [ht0, List.cons_append] at cI ⊢
  have hcn : c0 ≠ 124 ∧ c0 ≠ 41 := by rcases hc0 with h | rfl; constructor <;> (rintro rfl; simp at h); decide
  have h124 := It.u8ne (n := 124) (by decide) hcn.1
  have h41 := It.u8ne (n := 41) (by decide) hcn.2
  refine W.s (.s (.r (.mv rfl rfl (.q (.nilc (.t rfl)) rfl (.q (.fab (.t rfl) fa94_1) rfl (.q (.ldb1 0 (.t rfl) rfl ag4 rfl) rfl (.q (.not (.t rfl)) rfl (.mv rfl rfl (.qgT rfl rfl (.move (.t rfl)) rfl (.qgT rfl rfl (.nilc (.c rfl)) rfl (.qgT rfl rfl (.fab (.c rfl) fa94_0) rfl (.qgT rfl rfl (.ldb1 0 (.c rfl) rfl ag9 rfl) rfl (.qgT rfl rfl (.nes (.c rfl) .k) rfl ?_))))))))))))); refine W.q (.and (.t rfl) ⟨_, _, rfl, rfl, by ((simp; done))⟩) rfl ?_; refine W.mv rfl rfl (.qgT rfl rfl (.move (.t rfl)) rfl (.qgT rfl rfl (.nilc (.c rfl)) rfl (.qgT rfl rfl (.fab (.c rfl) fa94_0) rfl (.qgT rfl rfl (.ldb1 0 (.c rfl) rfl ag9 rfl) rfl ?_)))); refine W.qgT rfl rfl (.ats (b := c0) (.c rfl) .k Tryz.underlying9 (fun _ => ⟨by decide, rfl⟩)) rfl ?_; refine W.qgT rfl rfl (.nei (.c rfl) .k) rfl ?_; refine W.q (.and (.t rfl) ⟨_, _, rfl, rfl, by ((simp; done))⟩) rfl ?_; refine W.mv rfl rfl (.qgT rfl rfl (.move (.t rfl)) rfl (.qgT rfl rfl (.nilc (.c rfl)) rfl (.qgT rfl rfl (.fab (.c rfl) fa94_0) rfl (.qgT rfl rfl (.ldb1 0 (.c rfl) rfl ag9 rfl) rfl ?_)))); refine W.qgT rfl rfl (.ats (b := c0) (.c rfl) .k Tryz.underlying9 (fun _ => ⟨by decide, rfl⟩)) rfl ?_; refine W.qgT rfl rfl (.nei (.c rfl) .k) rfl ?_; refine W.q (.and (.t rfl) ⟨_, _, rfl, rfl, by ((simp; done))⟩) rfl ?_; refine W.n (.h ?_); refine W.isb 31 true rfl (by simp; omega) ?_; refine W.condT (.t rfl) (.k (.h (.b (.r (.mv rfl rfl (.mv rfl rfl ?_)))))); refine W.call (cI) ⟨(.t rfl), trivial⟩ (.refl _) rfl ?_
  rintro _ _ ⟨rfl, rfl⟩
  refine W.bs (es := [_]) Tryz.underlying54 ty56 ⟨rfl, (.t rfl), rfl, rfl, trivial⟩ rfl (by decide) rfl rfl ?_; refine W.app 1 (.t rfl) rfl (.sl (.t rfl) (by simp [AV.okc, shV])) Tryz.underlying54 ni54 ty56 rfl rfl (by rw [List.length_map, List.length_take]; simp only [List.length_cons, List.length_nil]; omega) rfl ?_
  intro v36; refine W.q (.assign (.t rfl)) rfl ?_; refine W.n ?_; refine W.bn ?_; refine W.h ?_; refine W.reach (D := []) (k + 1, v36) ⟨rfl, rfl, rfl, trivial⟩ (by rw [hsn, Ex.map_snoc]; exact .refl _) ⟨by show k + 1 ≤ _; omega, by show _ - (k + 1) < _; omega⟩
 ·subst hr0
  rw [hend, List.drop_length, show (It.stx [] ++ [] : List UInt8) = [] from rfl, List.take_of_length_le (show (It.sev s).length ≤ s.length from by omega)]
  refine W.s (.s (.r (.mv rfl rfl (.q (.nilc (.t rfl)) rfl (.q (.fab (.t rfl) fa94_1) rfl (.q (.ldb1 0 (.t rfl) rfl ag4 rfl) rfl (.q (.not (.t rfl)) rfl (.mv rfl rfl (.qgT rfl rfl (.move (.t rfl)) rfl (.qgT rfl rfl (.nilc (.c rfl)) rfl (.qgT rfl rfl (.fab (.c rfl) fa94_0) rfl (.qgT rfl rfl (.ldb1 0 (.c rfl) rfl ag9 rfl) rfl (.qgT rfl rfl (.nes (.c rfl) .k) rfl ?_))))))))))))); refine W.q (.and (.t rfl) ⟨_, _, rfl, rfl, by ((simp; done))⟩) rfl ?_; refine W.mv rfl rfl ?_; refine W.is (t := 16) (av' := .bool false) rfl rfl ?_; refine W.gnob rfl rfl (by simp) rfl ?_; refine W.gnob rfl rfl (by simp) rfl ?_; refine W.gnob rfl rfl (by simp) rfl ?_; refine W.gnob rfl rfl (by simp) rfl ?_; refine W.gnob rfl rfl (by simp) rfl ?_; refine W.gnob rfl rfl (by simp) rfl ?_; refine W.q (.and (.t rfl) ⟨_, _, rfl, rfl, by ((simp; done))⟩) rfl ?_; refine W.mv rfl rfl ?_; refine W.is (t := 24) (av' := .bool false) rfl rfl ?_; refine W.gnob rfl rfl (by simp) rfl ?_; refine W.gnob rfl rfl (by simp) rfl ?_; refine W.gnob rfl rfl (by simp) rfl ?_; refine W.gnob rfl rfl (by simp) rfl ?_; refine W.gnob rfl rfl (by simp) rfl ?_; refine W.gnob rfl rfl (by simp) rfl ?_; refine W.q (.and (.t rfl) ⟨_, _, rfl, rfl, by ((simp; done))⟩) rfl ?_; refine W.n (.h (.isb 31 false rfl (by rfl) (.condF (.t rfl) (.ex (.he (.he (.bh (.h (.s (.r (.mv rfl rfl ?_))))))))))); refine W.freezeA (M1 := [_, _]) (M2 := [_, _]) (D := []) (v := v) (L' := [(37, true, .sl 3 ((It.sev s).map Ex.av))]) (List.perm_middle (l₁ := [_])) ⟨⟨_, rfl, .one .hit⟩, trivial⟩ (FrzMs.refl _) ?_; refine W.callp (WParse1.c_together 2 (It.sev s) hz) ⟨.k, (.t rfl), trivial⟩ rfl ?_; refine W.stb 1 (.t rfl) (.t rfl) rfl ty56 rfl rfl rfl (.n (.h ?_)); refine W.ret ?_; refine W.retn (M' := [_]) (D := _) (rs := [.cell 2 56]) (avs := [_]) Tryz.results64 ⟨⟨_, _, _, rfl, by (exact List.mem_cons_of_mem _ List.mem_cons_self), rfl, by funext w; exact ag56.run w, by funext w; exact ty56.size w⟩, trivial⟩ rfl (.refl _) ?_
  exact ⟨rfl, rfl⟩
 ·subst hr0
  rw [hend, List.drop_length, show (It.stx [] ++ c :: t : List UInt8) = c :: t from rfl, List.take_of_length_le (show (It.sev s).length ≤ s.length from by omega)]
  have hcc : ((c.toNat : Nat) : Int) = 124 ∨ ((c.toNat : Nat) : Int) = 41 := by
   rcases hr with h | ⟨t2, h | h⟩
   ·cases h
   ·rw [(List.cons.inj h).1]; exact .inr rfl
   ·rw [(List.cons.inj h).1]; exact .inl rfl
  refine W.s (.s (.r (.mv rfl rfl (.q (.nilc (.t rfl)) rfl (.q (.fab (.t rfl) fa94_1) rfl (.q (.ldb1 0 (.t rfl) rfl ag4 rfl) rfl (.q (.not (.t rfl)) rfl (.mv rfl rfl (.qgT rfl rfl (.move (.t rfl)) rfl (.qgT rfl rfl (.nilc (.c rfl)) rfl (.qgT rfl rfl (.fab (.c rfl) fa94_0) rfl (.qgT rfl rfl (.ldb1 0 (.c rfl) rfl ag9 rfl) rfl (.qgT rfl rfl (.nes (.c rfl) .k) rfl ?_))))))))))))); refine W.q (.and (.t rfl) ⟨_, _, rfl, rfl, by ((simp; done))⟩) rfl ?_; refine W.mv rfl rfl (.qgT rfl rfl (.move (.t rfl)) rfl (.qgT rfl rfl (.nilc (.c rfl)) rfl (.qgT rfl rfl (.fab (.c rfl) fa94_0) rfl (.qgT rfl rfl (.ldb1 0 (.c rfl) rfl ag9 rfl) rfl ?_)))); refine W.qgT rfl rfl (.ats (b := c) (.c rfl) .k Tryz.underlying9 (fun _ => ⟨by decide, rfl⟩)) rfl ?_; refine W.qgT rfl rfl (.nei (.c rfl) .k) rfl ?_; refine W.q (.and (.t rfl) ⟨_, _, rfl, rfl, by ((simp; done))⟩) rfl ?_; refine W.mv rfl rfl (.qgT rfl rfl (.move (.t rfl)) rfl (.qgT rfl rfl (.nilc (.c rfl)) rfl (.qgT rfl rfl (.fab (.c rfl) fa94_0) rfl (.qgT rfl rfl (.ldb1 0 (.c rfl) rfl ag9 rfl) rfl ?_))))
  refine W.qgT rfl rfl (.ats (b := c) (.c rfl) .k Tryz.underlying9 (fun _ => ⟨by decide, rfl⟩)) rfl ?_; refine W.qgT rfl rfl (.nei (.c rfl) .k) rfl ?_; refine W.q (.and (.t rfl) ⟨_, _, rfl, rfl, by ((simp; done))⟩) rfl ?_; refine W.n ?_; refine W.h ?_; refine W.isb 31 false rfl (by rcases hcc with h | h <;> rw [h] <;> simp) ?_; refine W.condF (.t rfl) ?_; refine W.ex ?_; refine W.he ?_; refine W.he ?_; refine W.bh ?_; refine W.h ?_; refine W.s ?_; refine W.r ?_; refine W.q (.move (.t rfl)) rfl ?_; refine W.freezeA (M1 := [_, _]) (M2 := [_, _]) (D := []) (v := v) (L' := [(37, true, .sl 3 ((It.sev s).map Ex.av))]) (List.perm_middle (l₁ := [_])) ⟨⟨_, rfl, .one .hit⟩, trivial⟩ (FrzMs.refl _) ?_; refine W.callp (WParse1.c_together 2 (It.sev s) hz) ⟨.k, (.t rfl), trivial⟩ rfl ?_
  refine W.stb 1 (.t rfl) (.t rfl) rfl ty56 rfl rfl rfl (.n (.h ?_)); refine W.ret ?_; refine W.retn (M' := [_]) (D := _) (rs := [.cell 2 56]) (avs := [_]) Tryz.results64 ⟨⟨_, _, _, rfl, by (exact List.mem_cons_of_mem _ List.mem_cons_self), rfl, by funext w; exact ag56.run w, by funext w; exact ty56.size w⟩, trivial⟩ rfl (.refl _) ?_
  exact ⟨rfl, rfl⟩
theorem c_alt (b : Nat) (s : List It) (a : List (List It)) (r : List UInt8) (hz : Ex.szs (It.sq s :: It.aev a) ≤ 16777216) (hS : ∀ t, (t = s ∨ t ∈ a) → ∀ r, It.endS r → FnC Tryz.prog 64 [.lit (.pointer (some ⟨b, 0, none⟩))] [.box b 94 [.str (It.stx (t) ++ r), .bool false]] (fun x M => x = (It.sq (t)).avx ∧ M = [.box b 94 [.str (r), .bool false]])) (hr : It.endA r) : FnC Tryz.prog 36 [.lit (.pointer (some ⟨b, 0, none⟩))] [.box b 94 [.str (It.stx (s) ++ (It.atl (a) ++ r)), .bool false]] (fun x M => x = (It.al (s) (a)).avx ∧ M = [.box b 94 [.str (r), .bool false]]) :=  by
 refine FnC.mk Tryz.func36 (by kernel_rfl) rfl Tryz.ntmps36 rfl (fun w0 F => ?_)
 have ham : (It.aev a).length = a.length := by rw [It.aev_map, List.length_map]
 have hsz := Ex.szs_len (It.sq s :: It.aev a)
 rw [List.length_cons] at hsz
 refine W.s ?_; refine W.r ?_; refine W.alloc ty56 rfl rfl ?_; intro b2; refine W.n ?_; refine W.h ?_; refine W.s ?_; refine W.r ?_; refine W.q (.move (.t rfl)) rfl ?_; refine W.call (hS s (.inl rfl) _ (It.endS_atl a hr)) ⟨(.t rfl), trivial⟩ ((List.Perm.swap _ _ [])) rfl ?_
 rintro _ _ ⟨rfl, rfl⟩
 refine W.bso (es := [_]) Tryz.underlying54 ty56 ⟨rfl, (.t rfl), rfl, rfl, trivial⟩ rfl (by decide) rfl rfl ?_; intro v6; refine W.q (.assign (.t rfl)) rfl ?_; refine W.n ?_; refine W.h ?_; refine W.s ?_; refine W.b ?_; refine W.loop (D := []) (ι := Nat × Value) (fun z => [(0, true, .lit (.pointer (some ⟨b, 0, none⟩))), (2, true, .lit (.pointer (some ⟨b2, 0, none⟩))), (3, true, .lit z.2)]) (fun z => [.box b 94 [.str (It.atl (a.drop z.1) ++ r), .bool false], .arr z.2 56 3 (([It.sq s] ++ (It.aev a).take z.1).map Ex.av), .box b2 56 [.int 0, .int 0, .lit (.slice none 0 0)]]) (fun z => z.1 ≤ a.length) (fun z => a.length - z.1) (0, v6) ⟨rfl, rfl, rfl, trivial⟩ (by have e : ([It.sq s] ++ (It.aev a).take 0).map Ex.av = [(It.sq s).avx] := (by rw [List.take_zero]; show [(It.sq s).av] = _; rw [Ex.av_eq]); dsimp only; rw [e]; exact List.Perm.swap _ _ _) (Nat.zero_le _) ?_
 rintro ⟨k, v⟩ hk
 dsimp only at hk ⊢
 rcases (show k < a.length ∨ k = a.length from by omega) with hlt | hend
 ·have htm := getD_memG [] a k hlt
  have hdr := It.atl_drop a k hlt
  have hsn : (It.aev a).take (k + 1) = (It.aev a).take k ++ [It.sq (a.getD k [])] := by rw [It.aev_map, ← List.map_take, take_getDG [] a k hlt, List.map_append, ← List.map_take]; rfl
  generalize a.getD k [] = u at htm hdr hsn
  rw [hdr, List.cons_append, List.append_assoc]
  refine W.s (.s (.r (.mv rfl rfl ?_))); refine W.call (WParse1.c_takesT b 124 _) ⟨(.t rfl), .k, trivial⟩ (.refl _) rfl ?_
  rintro _ _ ⟨rfl, rfl⟩
  refine W.n (.h (.isb 8 true rfl (by rfl) (.condT (.t rfl) (.k (.h (.b (.r (.mv rfl rfl (.mv rfl rfl ?_))))))))); refine W.call (hS u (.inr htm) _ (It.endS_atl _ hr)) ⟨(.t rfl), trivial⟩ (.refl _) rfl ?_
  rintro _ _ ⟨rfl, rfl⟩
  refine W.bs (es := [_]) Tryz.underlying54 ty56 ⟨rfl, (.t rfl), rfl, rfl, trivial⟩ rfl (by decide) rfl rfl ?_; refine W.app 1 (.t rfl) rfl (.sl (.t rfl) (by simp [AV.okc, shV])) Tryz.underlying54 ni54 ty56 rfl rfl (by rw [List.length_map, List.length_append, List.length_take]; simp only [List.length_cons, List.length_nil]; omega) rfl ?_
  intro v13; refine W.q (.assign (.t rfl)) rfl ?_; refine W.n ?_; refine W.bn ?_; refine W.h ?_; refine W.reach (D := []) (k + 1, v13) ⟨rfl, rfl, rfl, trivial⟩ (by rw [hsn, ← List.append_assoc, Ex.map_snoc]; exact .refl _) ⟨by show k + 1 ≤ _; omega, by show _ - (k + 1) < _; omega⟩
 ·rw [hend, List.drop_length, show (It.atl [] ++ r : List UInt8) = r from rfl, List.take_of_length_le (show (It.aev a).length ≤ a.length from by omega), show [It.sq s] ++ It.aev a = It.sq s :: It.aev a from rfl]
  refine W.s ?_; refine W.s ?_; refine W.r ?_; refine W.q (.move (.t rfl)) rfl ?_; refine W.call (WParse1.c_takesF b 124 r (fun t e => by rcases hr with h | ⟨t2, h⟩ <;> (rw [h] at e; cases e))) ⟨(.t rfl), .k, trivial⟩ (.refl _) rfl ?_
  rintro _ _ ⟨rfl, rfl⟩
  refine W.n (.h (.isb 8 false rfl (by rfl) (.condF (.t rfl) (.ex (.he (.he (.bh (.h (.s (.r (.mv rfl rfl ?_))))))))))); refine W.freezeA (M1 := [_, _]) (M2 := [_, _]) (D := []) (v := v) (L' := [(14, true, .sl 3 ((It.sq s :: It.aev a).map Ex.av))]) (List.perm_middle (l₁ := [_])) ⟨⟨_, rfl, .one .hit⟩, trivial⟩ (FrzMs.refl _) ?_; refine W.callp (WParse1.c_together 3 (It.sq s :: It.aev a) hz) ⟨.k, (.t rfl), trivial⟩ rfl ?_; refine W.stb 1 (.t rfl) (.t rfl) rfl ty56 rfl rfl rfl (.n (.h ?_)); refine W.ret ?_; refine W.retn (M' := [.box b 94 [.str (r), .bool false]]) (D := _) (rs := [.cell 2 56]) (avs := [_]) Tryz.results36 ⟨⟨_, _, _, rfl, by (exact List.mem_cons_of_mem _ List.mem_cons_self), rfl, by funext w; exact ag56.run w, by funext w; exact ty56.size w⟩, trivial⟩ rfl (.refl _) ?_
  exact ⟨rfl, rfl⟩
theorem c_item (b : Nat) : ∀ i : It, It.ok i → (It.tx i).length ≤ 1048576 → ∀ r, It.endI r → FnC Tryz.prog 98 [.lit (.pointer (some ⟨b, 0, none⟩))] [.box b 94 [.str (It.tx (i) ++ r), .bool false]] (fun x M => x = (It.ev (i)).avx ∧ M = [.box b 94 [.str (r), .bool false]]) := by
 suffices H : ∀ n, ∀ i : It, It.sz i ≤ n → It.ok i → (It.tx i).length ≤ 1048576 → ∀ r, It.endI r → FnC Tryz.prog 98 [.lit (.pointer (some ⟨b, 0, none⟩))] [.box b 94 [.str (It.tx (i) ++ r), .bool false]] (fun x M => x = (It.ev (i)).avx ∧ M = [.box b 94 [.str (r), .bool false]]) from fun i => H _ i (Nat.le_refl _)
 intro n
 induction n with
 | zero => intro i hi; cases i <;> simp only [It.sz] at hi <;> omega
 | succ n ih =>
  intro i hi hok hz r hr
  cases i with
  | ch m sf => simp only [It.ok] at hok; exact c_item_ch b m sf r hok.1 hok.2 hr
  | gr s a sf =>
   simp only [It.sz] at hi
   simp only [It.ok] at hok
   have hal := It.al_big s a
   have hle : (It.stx s ++ It.atl a).length ≤ 1048576 := by rw [It.tx] at hz; simp only [List.length_cons, List.length_append] at hz ⊢; omega
   refine c_item_gr b s a sf r (fun r hr => c_alt b s a r (by omega) (fun t ht r hr => ?_) hr) hok.2 hr
   have hto : It.oks t := ht.elim (fun e => e ▸ hok.1.1) fun hm => (It.oka_iff a).1 hok.1.2 t hm
   have htz : It.szs t ≤ n := ht.elim (fun e => by subst e; omega) fun hm => by have := It.szs_mem hm; omega
   have htl := It.al_mem ht
   have hts := It.sev_big t
   exact c_seq b t r hto (by omega) (fun i hi' r hr => ih i (by have := It.sz_mem hi'; omega) ((It.oks_iff t).1 hto i hi') (by have := It.stx_mem hi'; omega) r hr) hr
theorem c_top (b : Nat) (s : List It) (a : List (List It)) (hs : It.oks s) (ha : It.oka a) (hz : (It.stx s ++ It.atl a).length ≤ 1048576) : FnC Tryz.prog 36 [.lit (.pointer (some ⟨b, 0, none⟩))] [.box b 94 [.str (It.stx (s) ++ (It.atl (a) ++ [])), .bool false]] (fun x M => x = (It.al (s) (a)).avx ∧ M = [.box b 94 [.str ([]), .bool false]]) := by
 have hal := It.al_big s a
 refine c_alt b s a [] (by omega) (fun t ht r hr => ?_) (.inl rfl)
 have hto : It.oks t := ht.elim (fun e => e ▸ hs) fun hm => (It.oka_iff a).1 ha t hm
 have htl := It.al_mem ht
 have hts := It.sev_big t
 exact c_seq b t r hto (by omega) (fun i hi' r hr => c_item b i ((It.oks_iff t).1 hto i hi') (by have := It.stx_mem hi'; omega) r hr) hr
end WParse2
end Go.Proofs.YtphlkdbglpcikaaGreatDoor
end
section
namespace Go.Proofs.YtphlkdbglpcikaaGreatDoor
open Go.Vl
open Y
namespace WFault
theorem c_IndexFuncX (l : List Ex) (g : Nat) (caps : List Value) (M0 : List ME) (p : Ex → Bool) (hg : ∀ d ∈ l, FnC Tryz.prog g ([Ex.avx d] ++ caps.map .lit) M0 (fun r M => r = .bool (p d) ∧ M = M0)) (hn : l.length ≤ 1099511627776) : FnC Tryz.prog 119 [.sl 3 (l.map Ex.av), .lit (.func (.func g) #[] caps.toArray)] M0 (fun r M => r = .int (idxI p l) ∧ M = M0) :=  by
 refine FnC.mk Tryz.func119 (by kernel_rfl) rfl Tryz.ntmps119 rfl (fun w0 F => ?_)
 have hnl : (l.map Ex.av).length = l.length := List.length_map ..
 refine W.s (.r (.q (.assign .k) rfl (.n (.h (.s (.s (.r (.mv rfl rfl (.q (.lensl (.t rfl) Tryz.underlying54) rfl (.q (.move .k) rfl (.n (.h (.b ?_))))))))))))); refine W.loop (D := []) (ι := Nat) (fun i => [(8, true, .int (i : Int)), (7, true, .int ((l.map Ex.av).length : Int)), (0, true, .sl 3 (l.map Ex.av)), (1, true, .lit (.func (.func g) #[] caps.toArray))]) (fun _ => M0) (fun i => i ≤ l.length ∧ ∀ d ∈ l.take i, p d = false) (fun i => l.length - i) 0 ⟨rfl, rfl, rfl, rfl, trivial⟩ (List.Perm.of_eq (List.append_nil _).symm) ⟨Nat.zero_le _, by simp⟩ ?_
 rintro i ⟨hi1, hi2⟩
 dsimp only at hi1 hi2 ⊢
 rcases (show i < l.length ∨ i = l.length from by omega) with hlt | hend
 ·have hga := Ex.at_av l i hlt
  refine W.s (.r (.q (.lti (.t rfl) (.t rfl)) rfl (.n (.h (.s ?_))))); refine W.isb 9 true rfl (by simp; omega) ?_; refine W.condT (.t rfl) (.k (.h (.s (.b (.s (.r (.mv rfl rfl (.asg rfl rfl (.n (.h (.s (.r (.mv rfl rfl (.mv rfl rfl (.mv rfl rfl ?_))))))))))))))); refine W.q (.at (E := 56) (.t rfl) (.t rfl) Tryz.underlying54 ty56 (fun _ => ⟨by omega, hga⟩) rfl rfl) rfl ?_; refine W.q (.lden (.t rfl) ag56 ty56 rfl rfl) rfl ?_; refine W.callv (caps := caps) (avs := [_]) (hg (l.getD i Ex.dflt) (getD_memG Ex.dflt l i hlt)) (.t rfl) ⟨(.t rfl), trivial⟩ rfl ((List.Perm.of_eq (List.append_nil _).symm)) rfl ?_
  rintro _ M' ⟨rfl, hM⟩
  rw [hM, List.append_nil]
  refine W.n ?_; refine W.h ?_; refine W.cond (.t rfl) (fun hc_t16 => ?_) (fun hc_t16 => ?_)
  ·have hq := idxI_hit p Ex.dflt l i hlt hi2 hc_t16
   refine W.s (.r (.mv rfl rfl (.asg rfl rfl (.n (.h ?_))))); refine W.ret ?_; refine W.br (.hr (.hr (.br (.hr ?_)))); refine W.retn (M' := M0) (D := []) (rs := [.tmp 4]) (avs := [_]) Tryz.results119 ⟨rfl, trivial⟩ rfl (List.Perm.of_eq (List.append_nil _).symm) ?_
   exact ⟨congrArg AV.int (by rw [hq]), rfl⟩
  ·have hq : p (l.getD i Ex.dflt) = false := hc_t16
   refine W.k (.bn (.h (.r (.q (.add (.t rfl) .k (fun _ => by omega)) rfl ?_))))
   refine W.q (.move (.t rfl)) rfl ?_; refine W.n ?_; refine W.h ?_; refine W.reach (D := []) (i + 1) ⟨rfl, rfl, rfl, rfl, trivial⟩ (List.Perm.of_eq (List.append_nil _).symm) ⟨⟨by omega, ?_⟩, by omega⟩
   rw [take_getDG Ex.dflt l i hlt]
   intro d hd
   cases List.mem_append.1 hd with
   | inl h => exact hi2 d h
   | inr h => rw [List.mem_singleton.1 h]; exact hq
 ·rw [List.take_of_length_le (by omega)] at hi2
  have hq := idxI_miss p l hi2
  refine W.s (.r (.q (.lti (.t rfl) (.t rfl)) rfl (.n (.h (.s ?_))))); refine W.isb 9 false rfl (by simp; omega) ?_; refine W.condF (.t rfl) (.ex (.he (.he (.bh (.h (.s (.r (.q (.assign .k) rfl (.n (.h ?_)))))))))); refine W.ret ?_; refine W.retn (M' := M0) (D := []) (rs := [.tmp 4]) (avs := [_]) Tryz.results119 ⟨rfl, trivial⟩ rfl (List.Perm.of_eq (List.append_nil _).symm) ?_
  exact ⟨congrArg AV.int (by rw [hq]), rfl⟩
theorem c_ContainsFuncX (l : List Ex) (g : Nat) (caps : List Value) (M0 : List ME) (p : Ex → Bool) (hg : ∀ d ∈ l, FnC Tryz.prog g ([Ex.avx d] ++ caps.map .lit) M0 (fun r M => r = .bool (p d) ∧ M = M0)) (hn : l.length ≤ 1099511627776) : FnC Tryz.prog 99 [.sl 3 (l.map Ex.av), .lit (.func (.func g) #[] caps.toArray)] M0 (fun r M => r = .bool (l.any p) ∧ M = M0) :=  by
 refine FnC.mk Tryz.func99 (by kernel_rfl) rfl Tryz.ntmps99 rfl (fun w0 F => ?_)
 refine W.s (.r (.q (.assign .k) rfl (.n (.h (.s (.r (.mv rfl rfl (.mv rfl rfl ?_)))))))); refine W.call (c_IndexFuncX l g caps M0 p hg hn) ⟨(.t rfl), (.t rfl), trivial⟩ ((List.Perm.of_eq (List.append_nil _).symm)) rfl ?_
 rintro _ M' ⟨rfl, hM⟩
 rw [hM, List.append_nil]
 refine W.q (.gei (.t rfl) .k) rfl (.asg rfl rfl (.n (.h ?_))); refine W.ret ?_; refine W.retn (M' := M0) (D := []) (rs := [.tmp 4]) (avs := [_]) Tryz.results99 ⟨rfl, trivial⟩ rfl (List.Perm.of_eq (List.append_nil _).symm) ?_
 exact ⟨congrArg AV.bool (idxI_any p l), rfl⟩
theorem c_fault1 (b : Nat) (x d : Ex) : FnC Tryz.prog 100 ([Ex.avx d] ++ [Value.pointer (some ⟨b, 0, none⟩)].map .lit) [.box b 56 x.avx.cells] (fun r M => r = .bool (d.kind == x.kind) ∧ M = [.box b 56 x.avx.cells]) :=  by
 refine FnC.mk Tryz.func100 (by kernel_rfl) rfl Tryz.ntmps100 rfl (fun w0 F => ?_)
 refine W.s ?_; refine W.r ?_; refine W.box (.t rfl) rfl rfl ?_; intro b2; refine W.q (.assign .k) rfl ?_; refine W.n ?_; refine W.h ?_; refine W.s ?_; refine W.r ?_
 refine W.q (.fab (.t rfl) fa56_0) rfl (.q (.ldb1 0 (.t rfl) rfl ag3 rfl) rfl (.q (.fab (.t rfl) fa56_0) rfl (.q (.ldb1 1 (.t rfl) rfl ag3 rfl) rfl (.q (.eqi (.t rfl) (.t rfl)) rfl (.asg rfl rfl (.n (.h ?_))))))); refine W.ret ?_; refine W.retn (M' := [.box b 56 _]) (D := _) (rs := [.tmp 3]) (avs := [_]) Tryz.results100 ⟨rfl, trivial⟩ rfl (List.Perm.swap _ _ []) ?_
 exact ⟨rfl, rfl⟩
theorem c_fault_step (x : Ex) (h1 : Ex.ok1 x) (hz : x.sz ≤ 16777216) (ih : ∀ d ∈ x.parts, FnP Tryz.prog 67 [Ex.avx d] (.int 0)) : FnP Tryz.prog 67 [Ex.avx x] (.int 0) :=  by
 refine FnC.mk Tryz.func67 (by kernel_rfl) rfl Tryz.ntmps67 rfl (fun w0 F => ?_)
 have hpl : (x.parts.map Ex.av).length = x.parts.length := List.length_map ..
 have hse := Ex.sz_eq x
 have hsl := Ex.szs_len x.parts
 obtain ⟨k0, k1, k2, k3, k4, k5, k6, k7⟩ := Ex.ok1_facts h1
 refine W.s ?_; refine W.r ?_; refine W.box (.t rfl) rfl rfl ?_; intro b1; refine W.q (.assign .k) rfl ?_; refine W.n ?_; refine W.h ?_; refine W.s ?_; refine W.r ?_
 refine W.q (.fab (.t rfl) fa56_2) rfl (.q (.ldb1 0 (.t rfl) rfl ag54 rfl) rfl (.q (.lensl (.t rfl) Tryz.underlying54) rfl (.asg rfl rfl (.n (.h (.s (.r (.q (.fab (.t rfl) fa56_0) rfl (.q (.ldb1 0 (.t rfl) rfl ag3 rfl) rfl (.q (.eqi (.t rfl) .k) rfl (.mv rfl rfl (.qgF rfl rfl (.fab (.t rfl) fa56_0) rfl (.qgF rfl rfl (.ldb1 0 (.c rfl) rfl ag3 rfl) rfl (.qgF rfl rfl (.eqi (.c rfl) .k) rfl ?_)))))))))))))); refine W.q (.or (.t rfl) ⟨_, _, rfl, rfl, by ((simp; done))⟩) rfl ?_; refine W.asg rfl rfl (.n (.h (.s (.b (.s (.r (.q (.fab (.t rfl) fa56_0) rfl (.q (.ldb1 0 (.t rfl) rfl ag3 rfl) rfl (.q (.lti (.t rfl) .k) rfl (.mv rfl rfl (.qgF rfl rfl (.fab (.t rfl) fa56_0) rfl (.qgF rfl rfl (.ldb1 0 (.c rfl) rfl ag3 rfl) rfl (.qgF rfl rfl (.gti (.c rfl) .k) rfl ?_))))))))))))); refine W.q (.or (.t rfl) ⟨_, _, rfl, rfl, by ((simp; done))⟩) rfl ?_; refine W.asg rfl rfl (.n (.h ?_)); refine W.isb 19 false rfl (by exact Bool.eq_false_iff.2 (fun h => by simp at h; omega)) ?_; refine W.condF (.t rfl) (.s (.s (.r (.q (.fab (.t rfl) fa56_0) rfl (.q (.ldb1 0 (.t rfl) rfl ag3 rfl) rfl (.q (.eqi (.t rfl) .k) rfl (.mv rfl rfl (.qgT rfl rfl (.move (.t rfl)) rfl (.qgT rfl rfl (.gti (.c rfl) .k) rfl ?_))))))))); refine W.q (.and (.t rfl) ⟨_, _, rfl, rfl, by ((simp; done))⟩) rfl ?_; refine W.asg rfl rfl (.n (.h ?_)); refine W.isb 28 false rfl (by exact Bool.eq_false_iff.2 (fun h => by simp only [Bool.and_eq_true, Bool.or_eq_true, beq_iff_eq, bne_iff_ne, decide_eq_true_eq, ne_eq] at h; omega)) ?_; refine W.condF (.t rfl) (.s (.r (.q (.fab (.t rfl) fa56_0) rfl (.q (.ldb1 0 (.t rfl) rfl ag3 rfl) rfl (.q (.nei (.t rfl) .k) rfl (.mv rfl rfl (.qgT rfl rfl (.fab (.t rfl) fa56_1) rfl (.qgT rfl rfl (.ldb1 0 (.c rfl) rfl ag3 rfl) rfl (.qgT rfl rfl (.nei (.c rfl) .k) rfl ?_))))))))); refine W.q (.and (.t rfl) ⟨_, _, rfl, rfl, by ((simp; done))⟩) rfl ?_; refine W.asg rfl rfl (.n (.h ?_)); refine W.isb 28 false rfl (by exact Bool.eq_false_iff.2 (fun h => by simp only [Bool.and_eq_true, Bool.or_eq_true, beq_iff_eq, bne_iff_ne, decide_eq_true_eq, ne_eq] at h; omega)) ?_; refine W.condF (.t rfl) (.s (.r (.mv rfl rfl (.mv rfl rfl (.qgT rfl rfl (.move (.t rfl)) rfl (.qgT rfl rfl (.eqi (.c rfl) .k) rfl ?_)))))); refine W.q (.and (.t rfl) ⟨_, _, rfl, rfl, by ((simp; done))⟩) rfl ?_; refine W.asg rfl rfl (.n (.h ?_)); refine W.isb 28 false rfl (by exact Bool.eq_false_iff.2 (fun h => by simp only [Bool.and_eq_true, Bool.or_eq_true, beq_iff_eq, bne_iff_ne, decide_eq_true_eq, ne_eq] at h; omega)) ?_; refine W.condF (.t rfl) (.s (.r (.q (.fab (.t rfl) fa56_0) rfl (.q (.ldb1 0 (.t rfl) rfl ag3 rfl) rfl (.q (.eqi (.t rfl) .k) rfl (.mv rfl rfl (.qgT rfl rfl (.move (.t rfl)) rfl (.qgT rfl rfl (.eqi (.c rfl) .k) rfl ?_)))))))); refine W.q (.and (.t rfl) ⟨_, _, rfl, rfl, by ((simp; done))⟩) rfl ?_; refine W.asg rfl rfl (.n (.h ?_)); refine W.isb 28 false rfl (by exact Bool.eq_false_iff.2 (fun h => by simp only [Bool.and_eq_true, Bool.or_eq_true, beq_iff_eq, bne_iff_ne, decide_eq_true_eq, ne_eq] at h; omega)) ?_; refine W.condF (.t rfl) (.r (.q (.fab (.t rfl) fa56_0) rfl (.q (.ldb1 0 (.t rfl) rfl ag3 rfl) rfl (.q (.gei (.t rfl) .k) rfl (.mv rfl rfl (.qgT rfl rfl (.move (.t rfl)) rfl (.qgT rfl rfl (.nei (.c rfl) .k) rfl ?_))))))); refine W.q (.and (.t rfl) ⟨_, _, rfl, rfl, by ((simp; done))⟩) rfl ?_; refine W.asg rfl rfl (.n (.h ?_)); refine W.isb 28 false rfl (by exact Bool.eq_false_iff.2 (fun h => by simp only [Bool.and_eq_true, Bool.or_eq_true, beq_iff_eq, bne_iff_ne, decide_eq_true_eq, ne_eq] at h; omega)) ?_; refine W.condF (.t rfl) (.s (.r (.mv rfl rfl (.mv rfl rfl (.qgT rfl rfl (.fab (.t rfl) fa56_2) rfl (.qgT rfl rfl (.ldb1 0 (.c rfl) rfl ag54 rfl) rfl ?_)))))); refine W.qgT rfl rfl (.mkfn (caps := [.tmp 1]) (vs := [_]) ⟨(.t rfl), trivial⟩) rfl ?_; refine W.callgT (Min := _) (caps := []) (avs := [_, _]) rfl rfl (fun hg => c_ContainsFuncX x.parts 100 [.pointer (some ⟨b1, 0, none⟩)] [.box b1 56 x.avx.cells] (fun d => d.kind == x.kind) (fun d _ => c_fault1 b1 x d) (by omega)) (fun hg => .f) (fun hg => ⟨(.i rfl (fun _ => hg)), (.i rfl (fun _ => hg)), trivial⟩) rfl (.refl _) rfl ?_; refine W.q (.and (.t rfl) ⟨_, _, rfl, rfl, by ((simp; done))⟩) rfl ?_; refine W.asg rfl rfl (.n (.h ?_)); refine W.isb 63 false rfl (by exact Bool.eq_false_iff.2 (fun h => by have h1 := (Bool.and_eq_true _ _).mp h; rw [k7 h1.1] at h1; exact absurd h1.2 (by decide))) ?_; refine W.condF (.t rfl) (.s (.r (.q (.fab (.t rfl) fa56_1) rfl (.q (.ldb1 0 (.t rfl) rfl ag3 rfl) rfl (.q (.lti (.t rfl) .k) rfl (.mv rfl rfl (.qgF rfl rfl (.fab (.t rfl) fa56_1) rfl (.qgF rfl rfl (.ldb1 0 (.c rfl) rfl ag3 rfl) rfl (.qgF rfl rfl (.gei (.c rfl) .k) rfl ?_))))))))); refine W.q (.or (.t rfl) ⟨_, _, rfl, rfl, by ((simp; done))⟩) rfl ?_; refine W.asg rfl rfl (.n (.h ?_)); refine W.isb 71 false rfl (by exact Bool.eq_false_iff.2 (fun h => by simp at h; omega)) ?_; refine W.condF (.t rfl) (.k (.bn (.h (.s (.s (.r (.q (.fab (.t rfl) fa56_2) rfl (.q (.ldb1 0 (.t rfl) rfl ag54 rfl) rfl (.q (.lensl (.t rfl) Tryz.underlying54) rfl ?_)))))))))
 refine W.q (.move .k) rfl ?_; refine W.n ?_; refine W.h ?_; refine W.b ?_; refine W.loop (D := []) (ι := Nat) (fun i => [(83, true, .int (i : Int)), (82, true, .int ((x.parts.map Ex.av).length : Int)), (81, true, .sl 3 (x.parts.map Ex.av)), (1, true, .lit (.pointer (some ⟨b1, 0, none⟩)))]) (fun i => [.box b1 56 x.avx.cells]) (fun i => i ≤ x.parts.length) (fun i => x.parts.length - i) 0 ⟨rfl, rfl, rfl, rfl, trivial⟩ (.refl _) (Nat.zero_le _) ?_; intro i hi
 dsimp only at hi ⊢
 rcases (show i < x.parts.length ∨ i = x.parts.length from by omega) with hlt | hend
 ·have hga := Ex.at_av x.parts i hlt
  have hdm := getD_memG Ex.dflt x.parts i hlt
  generalize hd : x.parts.getD i Ex.dflt = d at hga hdm
  refine W.s (.r (.q (.lti (.t rfl) (.t rfl)) rfl (.n (.h (.s ?_))))); refine W.isb 84 true rfl (by exact decide_eq_true (by omega)) ?_; refine W.condT (.t rfl) (.k (.h (.s (.b (.s (.r ?_)))))); refine W.q (.at (E := 56) (.t rfl) (.t rfl) Tryz.underlying54 ty56 (fun _ => ⟨by omega, hga⟩) rfl rfl) rfl ?_; refine W.q (.lden (.t rfl) ag56 ty56 rfl rfl) rfl ?_
  refine W.alloc ty56 rfl rfl ?_; intro b6
  refine W.stb 0 (.t rfl) (.t rfl) rfl ty56 rfl rfl rfl (.n (.h (.s (.r (.q (.ldbn 0 (.t rfl) rfl ag56 ty56 rfl) rfl ?_))))); refine W.callp (ih d hdm) ⟨(.t rfl), trivial⟩ rfl ?_; refine W.asg rfl rfl (.n (.h (.s (.r (.mv rfl rfl (.q (.nei (.t rfl) .k) rfl (.n (.h (.isb 90 false rfl (by rfl) (.condF (.t rfl) (.k (.bn (.h (.r (.q (.add (.t rfl) .k (fun _ => by omega)) rfl ?_)))))))))))))))
  refine W.q (.move (.t rfl)) rfl ?_; refine W.n ?_; refine W.h ?_; refine W.reach (D := [_]) (i + 1) ⟨rfl, rfl, rfl, rfl, trivial⟩ (List.Perm.swap _ _ []) ⟨by show i + 1 ≤ _; omega, by show _ - (i + 1) < _; omega⟩
 ·skip
  refine W.s (.r (.q (.lti (.t rfl) (.t rfl)) rfl (.n (.h (.s ?_))))); refine W.isb 84 false rfl (by exact decide_eq_false (by omega)) ?_; refine W.condF (.t rfl) (.ex (.he (.he (.bh (.h (.s (.r (.q (.assign .k) rfl (.n (.h ?_)))))))))); refine W.ret ?_; refine W.retn (M' := []) (D := _) (rs := [.tmp 2]) (avs := [_]) Tryz.results67 ⟨rfl, trivial⟩ rfl (.refl _) ?_
  exact ⟨rfl, rfl⟩
theorem c_fault : ∀ x : Ex, Ex.ok x → x.sz ≤ 16777216 → FnP Tryz.prog 67 [Ex.avx x] (.int 0) := by
 refine Ex.rec' fun x ih hx hz => ?_
 obtain ⟨h1, h2⟩ := (Ex.ok_iff x).1 hx
 exact c_fault_step x h1 hz fun d hd => ih d hd (h2 d hd) (by have := Ex.part_sz hd; omega)
end WFault
end Go.Proofs.YtphlkdbglpcikaaGreatDoor
end
