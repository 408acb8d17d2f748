/-
  Merged: WSTree WFill WTypes SchT WCount WFSmall WFGoes WFFill.
-/
import Derived.Test.YtphlkdbglpcikaaGreatDoorG11
set_option linter.unusedVariables false
set_option linter.unusedSimpArgs false
set_option maxRecDepth 100000

section
namespace Go.Proofs.YtphlkdbglpcikaaGreatDoor
open Go.Vl
open Y
namespace WSTree
theorem c_TreeX (b : Nat) (ts : List Tp) (as_ : List Au) (sz : List Int) (hal : as_.length = ts.length) (hts : ts.length ≤ 100) (hsl : sz.length = ts.length) (hsh : ∀ A ∈ as_, A.Shape ∧ A.next.length ≤ 100 ∧ ∀ r ∈ A.next, ∀ k, k < 8 → 0 ≤ r.getD k (-1) → k < ts.length) (f : Nat) (t : Nat) (d0 : Nd) (hd : Sch.treeN ts as_ sz (f + 1) t = some d0) (IH : ∀ (k : Nat) (d : Nd), Sch.treeN ts as_ sz f k = some d → FnC Tryz.prog 56 [.lit (.pointer (some ⟨b, 0, none⟩)), .int ((k : Nat) : Int)] [.box b 76 [.sl 3 (ts.map tpv), .sl 2 (as_.map Au.avx), .sl 1 (sz.map AV.int)]] (fun r M => r = (d).av ∧ M = [.box b 76 [.sl 3 (ts.map tpv), .sl 2 (as_.map Au.avx), .sl 1 (sz.map AV.int)]])) : FnC Tryz.prog 56 [.lit (.pointer (some ⟨b, 0, none⟩)), .int ((t : Nat) : Int)] [.box b 76 [.sl 3 (ts.map tpv), .sl 2 (as_.map Au.avx), .sl 1 (sz.map AV.int)]] (fun r M => r = (d0).av ∧ M = [.box b 76 [.sl 3 (ts.map tpv), .sl 2 (as_.map Au.avx), .sl 1 (sz.map AV.int)]]) :=  by
 refine FnC.mk Tryz.func56 (by kernel_rfl) rfl Tryz.ntmps56 rfl (fun w0 F => ?_)
 have hnl : (ts.map tpv).length = ts.length := List.length_map ..
 have hasl : (as_.map Au.avx).length = as_.length := List.length_map ..
 have htl := Sch.treeN_lt hd
 have hgt := getD_mapG tpv Sch.dT ts t htl
 have hgA := getD_mapG Au.avx Sch.dA as_ t (by omega)
 have hAm := hsh _ (getD_memG Sch.dA as_ t (by omega))
 simp only [Sch.treeN] at hd
 rw [if_neg (by omega)] at hd
 obtain ⟨nm, hnm⟩ : ∃ n, (ts.getD t Sch.dT).name = n := ⟨_, rfl⟩
 rw [hnm] at hd
 generalize as_.getD t Sch.dA = A at hgA hAm hd
 generalize ts.getD t Sch.dT = tt at hgt hnm
 subst hnm
 refine W.s ?_; refine W.r ?_; refine W.alloc ty35 rfl rfl ?_; intro b4; refine W.n ?_; refine W.h ?_; refine W.s ?_; refine W.s ?_; refine W.r ?_; refine W.q (.move (.t rfl)) rfl ?_; refine W.q (.nilc (.t rfl)) rfl ?_
 refine W.q (.fab (.t rfl) fa76_0) rfl (.q (.ldb1 1 (.t rfl) rfl ag23 rfl) rfl (.mv rfl rfl ?_)); refine W.q (.at (E := 28) (.t rfl) (.t rfl) Tryz.underlying23 ty28 (fun hg => ⟨by omega, hgt⟩) rfl rfl) rfl ?_; refine W.q (.fae (.t rfl) fa28_0 rfl) rfl (.q (.lde1 (.t rfl) ag9) rfl ?_)
 refine W.q (.eqs (.t rfl) .k) rfl ?_; refine W.n ?_; refine W.h ?_; refine W.cond (.t rfl) (fun hc_t16 => ?_) (fun hc_t16 => ?_)
 ·have h0 : tt.name = [] := eq_of_beq hc_t16
  rw [if_pos h0] at hd
  obtain rfl := Option.some.inj hd
  refine W.s (.r (.q (.build ty35 st35 rfl (fun hg => ⟨_, _, _, rfl, .k, rfl, rfl, rfl, rfl⟩)) rfl ?_)); refine W.nils (t := 17) (g := true) (cs' := [.str [], .sl 2 [], .str [120], .sl 4 []]) rfl ⟨.inl rfl, .inr ⟨rfl, 2, rfl⟩, .inl rfl, .inr ⟨rfl, 4, rfl⟩, trivial⟩ ?_; refine W.stb 0 (.t rfl) (.t rfl) rfl ty35 rfl rfl rfl (.n (.h ?_)); refine W.ret ?_; refine W.hr ?_; refine W.retn (M' := [.box b 76 [.sl 3 (ts.map tpv), .sl 2 (as_.map Au.avx), .sl 1 (sz.map AV.int)]]) (D := _) (rs := [.cell 4 35]) (avs := [_]) Tryz.results56 ⟨⟨_, _, _, rfl, by repeat ((exact List.mem_cons_self)), rfl, by funext w; exact ag35.run w, by funext w; exact ty35.size w⟩, trivial⟩ rfl (by (exact List.Perm.swap _ _ [])) ?_
  (exact ⟨rfl, rfl⟩)
 ·have h0 : ¬ tt.name = [] := beq_eq_false_iff_ne.1 hc_t16
  rw [if_neg h0] at hd
  obtain ⟨w, hw⟩ : ∃ w, Sch.cheap sz A = some w := by
   cases h : Sch.cheap sz A with
   | none => rw [h] at hd; cases hd
   | some w => exact ⟨w, rfl⟩
  rw [hw] at hd
  dsimp only at hd
  obtain ⟨ps, hps⟩ : ∃ p, Sch.omap (fun (k : Int) => if k < 0 then none else Sch.treeN ts as_ sz f k.toNat) w = some p := by
   cases h : Sch.omap (fun (k : Int) => if k < 0 then none else Sch.treeN ts as_ sz f k.toNat) w with
   | none => rw [h] at hd; cases hd
   | some p => exact ⟨p, rfl⟩
  rw [hps] at hd
  obtain rfl := Option.some.inj hd
  have hpl := Sch.omap_len hps
  have hwl := Sch.cheap_len hw
  have hwm : (w.map AV.int).length = w.length := List.length_map ..
  obtain ⟨nm, hnm⟩ : ∃ n, tt.name = n := ⟨_, rfl⟩
  refine W.k (.h (.s (.r (.mv rfl rfl (.q (.nilc (.t rfl)) rfl (.q (.fab (.t rfl) fa76_0) rfl (.q (.ldb1 1 (.t rfl) rfl ag23 rfl) rfl (.mv rfl rfl ?_)))))))); refine W.q (.at (E := 28) (.t rfl) (.t rfl) Tryz.underlying23 ty28 (fun hg => ⟨by omega, hgt⟩) rfl rfl) rfl ?_; refine W.q (.fae (.t rfl) fa28_0 rfl) rfl (.q (.lde1 (.t rfl) ag9) rfl ?_)
  refine W.q (.build ty35 st35 rfl (fun hg => ⟨_, _, _, rfl, (.t rfl), rfl, rfl, rfl, rfl⟩)) rfl ?_; refine W.nils (t := 26) (g := true) (cs' := [.str tt.name, .sl 2 [], .lit (.string ⟨#[]⟩), .lit (.slice none 0 0)]) rfl ⟨.inl rfl, .inr ⟨rfl, 2, rfl⟩, .inl rfl, .inl rfl, trivial⟩ ?_; refine W.alloc ty35 rfl rfl ?_; intro b5
  refine W.stb 0 (.t rfl) (.t rfl) rfl ty35 rfl rfl rfl (.n (.h (.s (.s (.r (.mv rfl rfl (.mv rfl rfl (.q (.nilc (.t rfl)) rfl (.q (.fab (.t rfl) fa76_1) rfl (.q (.ldb1 2 (.t rfl) rfl ag74 rfl) rfl (.mv rfl rfl ?_))))))))))); refine W.q (.at (E := 62) (.t rfl) (.t rfl) Tryz.underlying74 ty62 (fun hg => ⟨by omega, hgA⟩) rfl rfl) rfl ?_; refine W.q (.lden (.t rfl) ag62 ty62 rfl rfl) rfl ?_
  refine W.call (WCheap.c_cheapest b ts as_ sz A hAm.1 hAm.2.1 (fun r hr k hk h => by rw [hsl]; exact hAm.2.2 r hr k hk h) w hw) ⟨(.t rfl), (.t rfl), trivial⟩ (((List.perm_middle (l₁ := [_, _])).trans <| List.Perm.cons _ <| List.Perm.cons _ <| List.Perm.cons _ <| .refl _)) rfl ?_
  rintro _ _ ⟨rfl, rfl⟩
  refine W.perm ((List.perm_middle (l₁ := [_])).trans <| List.Perm.cons _ <| (List.perm_middle (l₁ := [_])).trans <| List.Perm.cons _ <| List.Perm.cons _ <| .refl _) ?_
  refine W.q (.lensl (.t rfl) Tryz.underlying22) rfl (.q (.move .k) rfl (.n (.h (.b ?_))))
  rw [hnm]
  refine W.own_nil 35 4 ?_; refine W.loop (D := []) (ι := Nat × Value) (fun z => [(37, true, .int (z.1 : Int)), (36, true, .int ((w.map AV.int).length : Int)), (35, true, .sl 1 (w.map AV.int)), (0, true, .lit (.pointer (some ⟨b, 0, none⟩))), (5, true, .lit (.pointer (some ⟨b5, 0, none⟩))), (4, true, .lit (.pointer (some ⟨b4, 0, none⟩)))]) (fun z => .arr z.2 35 4 ((ps.take z.1).map Nd.av) :: .box b5 35 [.str nm, .sl 2 [], .lit (.string ⟨#[]⟩), .lit z.2] :: .box b4 35 [.lit (.string ⟨#[]⟩), .lit (.slice none 0 0), .lit (.string ⟨#[]⟩), .lit (.slice none 0 0)] :: [.box b 76 [.sl 3 (ts.map tpv), .sl 2 (as_.map Au.avx), .sl 1 (sz.map AV.int)]]) (fun z => z.1 ≤ w.length) (fun z => w.length - z.1) (0, .slice none 0 0) ⟨rfl, rfl, rfl, rfl, rfl, rfl, trivial⟩ (.refl _) (Nat.zero_le _) ?_
  rintro ⟨i, vp⟩ hi
  dsimp only at hi ⊢
  rcases (show i < w.length ∨ i = w.length from by omega) with hlt | hend
  ·have hgw := getD_map w i hlt
   have hoa := Sch.omap_at 0 Nd.dflt hps i hlt
   have htk := take_getDG Nd.dflt ps i (by omega)
   obtain ⟨d, hdd⟩ : ∃ d, ps.getD i Nd.dflt = d := ⟨_, rfl⟩
   rw [hdd] at hoa htk
   obtain ⟨kz, hkz⟩ : ∃ k, w.getD i 0 = k := ⟨_, rfl⟩
   rw [hkz] at hgw hoa
   have hk0 : ¬ kz < 0 := by intro h; rw [if_pos h] at hoa; cases hoa
   rw [if_neg hk0] at hoa
   have hIH := IH _ _ hoa
   rw [Nd.av_eq] at hIH
   rw [show ((kz.toNat : Nat) : Int) = kz from by omega] at hIH
   refine W.s (.r (.q (.lti (.t rfl) (.t rfl)) rfl (.n (.h (.s ?_))))); refine W.isb 38 true rfl (by exact decide_eq_true (by omega)) ?_; refine W.condT (.t rfl) (.k (.h (.s (.b (.s (.r ?_)))))); refine W.q (.at (E := 3) (.t rfl) (.t rfl) Tryz.underlying22 ty3 (fun hg => ⟨by omega, hgw⟩) rfl rfl) rfl ?_; refine W.q (.lde1 (.t rfl) ag3) rfl (.asg rfl rfl (.n (.h ?_))); refine W.drawnE (ι := Value) (fun ee c => (bif ee 6 then ME.arr c 35 4 (((ps.take i).map Nd.av) ++ [Nd.avx d]) else ME.arr vp 35 4 ((ps.take i).map Nd.av)) :: ME.box b5 35 [.str nm, .sl 2 [], .lit (.string ⟨#[]⟩), bif ee 8 then .lit c else .lit vp] :: .box b4 35 [.lit (.string ⟨#[]⟩), .lit (.slice none 0 0), .lit (.string ⟨#[]⟩), .lit (.slice none 0 0)] :: [.box b 76 [.sl 3 (ts.map tpv), .sl 2 (as_.map Au.avx), .sl 1 (sz.map AV.int)]]) 6 vp (by kernel_rfl) (by kernel_rfl) rfl ?_; refine DE.q (fun e c hk => (.fab (.t rfl) fa35_3)) rfl (fun _ _ => rfl) (.inr fun _ _ => rfl) ?_
   refine DE.q (av := fun _ => .lit vp) (fun e c hk => by have h := hk.down 8 (by kernel_rfl); simp only [h, cond_false]; exact Ev.ldb1 1 (.t rfl) rfl ag33 rfl) rfl (fun _ _ => rfl) (.inr fun _ _ => rfl) ?_; refine DE.q (fun e c hk => (.move (.t rfl))) rfl (fun _ _ => rfl) (.inr fun _ _ => rfl) ?_; refine DE.q (fun e c hk => (.move (.t rfl))) rfl (fun _ _ => rfl) (.inr fun _ _ => rfl) ?_; refine DE.callm (fun c => hIH) (fun e c => ⟨_, by exact (List.perm_append_comm (l₁ := [_, _, _]) (l₂ := [_]))⟩) (fun c => ⟨(.t rfl), (.t rfl), trivial⟩) rfl (fun _ _ => rfl) (.inr fun _ _ => rfl) ?_; refine DE.bs (es := fun _ => [_]) Tryz.underlying33 ty35 (fun c => ⟨rfl, (.t rfl), rfl, rfl, trivial⟩) (fun _ => rfl) (by decide) rfl rfl (fun _ _ => rfl) (.inr fun _ _ => rfl) ?_; refine DE.eff1 (av := fun v => .lit v) rfl rfl (fun e c hk L_ hs Q h => ?_) ?_
   ·have hk_6 := hk.not
    have hk_8 := hk.down 8 (by kernel_rfl)
    simp only [addE, hk_6, hk_8, Nat.reduceAdd, Nat.reduceEqDiff, ↓reduceIte, cond_true, cond_false] at h ⊢
    ((refine W.app 0 (.t (hs _ _ rfl)) rfl (.sl (.t (hs _ _ rfl)) (by intro e he; rw [List.mem_singleton.1 he]; rfl)) Tryz.underlying33 ni33 ty35 rfl rfl (by rw [List.length_map, List.length_take]; simp only [List.length_cons, List.length_nil]; omega) rfl ?_; exact h))
   refine DE.q (fun e c hk => (.fab (.t rfl) fa35_3)) rfl (fun _ _ => rfl) (.inr fun _ _ => rfl) ?_
   refine DE.eff0 (fun e c hk L_ hs Q h => ?_) ?_
   ·have hk_8 := hk.not
    have hk_6 := hk.up 6 (by kernel_rfl)
    simp only [addE, hk_8, hk_6, Nat.reduceAdd, Nat.reduceEqDiff, ↓reduceIte, cond_true, cond_false] at h ⊢
    refine W.arr_inv 0 rfl (fun a9 n9 c9 h9 => ?_)
    subst h9
    refine W.stb 1 (.t (hs _ _ rfl)) (.t (hs _ _ rfl)) rfl ty33 rfl rfl rfl ?_
    exact h
   refine DE.nil (fun v47 e_ he_ => ?_)
   simp only [he_ 6 (by decide), he_ 8 (by decide), cond_true, cond_false]
   refine W.bn (.h (.r (.q (.add (.t rfl) .k (fun _ => by omega)) rfl ?_)))
   refine W.q (.move (.t rfl)) rfl ?_; refine W.n ?_; refine W.h ?_; refine W.reach (D := []) (i + 1, v47) ⟨rfl, rfl, rfl, rfl, rfl, rfl, trivial⟩ ?_ ⟨hlt, by show w.length - (i + 1) < w.length - i; omega⟩
   dsimp only
   rw [htk, Nd.map_snoc]
   exact .refl _
  ·subst hend
   rw [List.take_of_length_le (by omega)]
   refine W.s (.r (.q (.lti (.t rfl) (.t rfl)) rfl (.n (.h (.s ?_))))); refine W.isb 38 false rfl (by exact decide_eq_false (by omega)) ?_; refine W.condF (.t rfl) (.ex (.he (.he (.bh (.h (.s (.r ?_))))))); refine W.freezeA (M1 := .box b5 35 [.str nm, .sl 2 [], .lit (.string ⟨#[]⟩), .lit vp] :: .box b4 35 [.lit (.string ⟨#[]⟩), .lit (.slice none 0 0), .lit (.string ⟨#[]⟩), .lit (.slice none 0 0)] :: [.box b 76 [.sl 3 (ts.map tpv), .sl 2 (as_.map Au.avx), .sl 1 (sz.map AV.int)]]) (M2 := .box b5 35 [.str nm, .sl 2 [], .lit (.string ⟨#[]⟩), .sl 4 (ps.map Nd.av)] :: .box b4 35 [.lit (.string ⟨#[]⟩), .lit (.slice none 0 0), .lit (.string ⟨#[]⟩), .lit (.slice none 0 0)] :: [.box b 76 [.sl 3 (ts.map tpv), .sl 2 (as_.map Au.avx), .sl 1 (sz.map AV.int)]]) (D := []) (v := vp) (L' := []) (.refl _) trivial ⟨.box ⟨.refl _, .refl _, .refl _, .hit, trivial⟩, FrzMs.refl _⟩ ?_; refine W.q (.ldbn 0 (.t rfl) rfl ag35 ty35 rfl) rfl (.stb 1 (.t rfl) (.t rfl) rfl ty35 rfl rfl rfl (.n (.h ?_))); refine W.ret ?_; refine W.retn (M' := [.box b 76 [.sl 3 (ts.map tpv), .sl 2 (as_.map Au.avx), .sl 1 (sz.map AV.int)]]) (D := _) (rs := [.cell 4 35]) (avs := [_]) Tryz.results56 ⟨⟨_, _, _, rfl, by repeat (first | exact List.mem_cons_self | apply List.mem_cons_of_mem), rfl, by funext w; exact ag35.run w, by funext w; exact ty35.size w⟩, trivial⟩ rfl (by (exact (List.perm_append_comm (l₁ := [_, _]) (l₂ := [_])))) ?_
   (exact ⟨by rw [Nd.av, Nd.avs_map]; rfl, rfl⟩)
theorem c_Tree (b : Nat) (ts : List Tp) (as_ : List Au) (sz : List Int) (hal : as_.length = ts.length) (hts : ts.length ≤ 100) (hsl : sz.length = ts.length) (hsh : ∀ A ∈ as_, A.Shape ∧ A.next.length ≤ 100 ∧ ∀ r ∈ A.next, ∀ k, k < 8 → 0 ≤ r.getD k (-1) → k < ts.length) : ∀ (f t : Nat) (d : Nd), Sch.treeN ts as_ sz f t = some d → FnC Tryz.prog 56 [.lit (.pointer (some ⟨b, 0, none⟩)), .int ((t : Nat) : Int)] [.box b 76 [.sl 3 (ts.map tpv), .sl 2 (as_.map Au.avx), .sl 1 (sz.map AV.int)]] (fun r M => r = (d).av ∧ M = [.box b 76 [.sl 3 (ts.map tpv), .sl 2 (as_.map Au.avx), .sl 1 (sz.map AV.int)]])
 | 0, _, _, h => by cases h
 | f + 1, t, d, h => c_TreeX b ts as_ sz hal hts hsl hsh f t d h (c_Tree b ts as_ sz hal hts hsl hsh f)
end WSTree
end Go.Proofs.YtphlkdbglpcikaaGreatDoor
end
section
namespace Go.Proofs.YtphlkdbglpcikaaGreatDoor
open Go.Vl
open Y
namespace WFill
theorem c_Fill (ts : List Tp) (as_ : List Au) (hg : Sch.Good ts as_) (fin : List Int) (hfin : Sch.sizesOf ts as_ = some fin) (hall : (fin.any fun n => n == 0 || decide (150 < n)) = false) (f t : Nat) (d : Nd) (hd : Sch.treeN ts as_ fin f t = some d) (M0 : List ME) (hI : ∀ n : Int, -1 ≤ n → n < 100 → FnC Tryz.prog 107 [.int n] M0 (fun r M => r = .str (itoa n) ∧ M = M0)) : FnC Tryz.prog 31 [.sl 3 (ts.map tpv), .int (t : Int)] M0 (fun r M => r = .tup [d.av, .int 0] ∧ M = M0) :=  by
 refine FnC.mk Tryz.func31 (by kernel_rfl) rfl Tryz.ntmps31 rfl (fun w0 F => ?_)
 have hnl : (ts.map tpv).length = ts.length := List.length_map ..
 have hsl : fin.length = ts.length := by
  have := Sch.mso_len 10 _ _ hfin
  rwa [List.length_replicate] at this
 have htl := Sch.treeN_lt hd
 have hte : ∀ b, FnC Tryz.prog 56 [.lit (.pointer (some ⟨b, 0, none⟩)), .int (t : Int)] [.box b 76 [.sl 3 (ts.map tpv), .sl 2 (as_.map Au.avx), .sl 1 (fin.map AV.int)]] (fun r M => r = Nd.avx d ∧ M = [.box b 76 [.sl 3 (ts.map tpv), .sl 2 (as_.map Au.avx), .sl 1 (fin.map AV.int)]]) := fun b => by
  have h := WSTree.c_Tree b ts as_ fin hg.has (by have := hg.len; omega) hsl hg.sh f t d hd
  rwa [Nd.av_eq] at h
 refine W.s ?_; refine W.r ?_; refine W.alloc ty35 rfl rfl ?_; intro b4; refine W.q (.assign .k) rfl ?_; refine W.n ?_; refine W.h ?_; refine W.s ?_; refine W.r ?_; refine W.q (.move (.t rfl)) rfl ?_; refine W.call (WNew.c_New ts as_ hg fin hfin hall M0 hI) ⟨(.t rfl), trivial⟩ ((List.perm_append_comm (l₁ := [_]))) rfl ?_
 rintro _ M' ⟨b9, rfl, hM'⟩
 rw [hM']
 refine W.perm (M' := .box b9 76 [.sl 3 (ts.map tpv), .sl 2 (as_.map Au.avx), .sl 1 (fin.map AV.int)] :: .box b4 35 [.lit (.string ⟨#[]⟩), .lit (.slice none 0 0), .lit (.string ⟨#[]⟩), .lit (.slice none 0 0)] :: M0) (List.Perm.cons _ (List.perm_append_comm (l₂ := [_]))) ?_; refine W.mv rfl rfl (.q (.extract (.t rfl) rfl) rfl (.q (.extract (.t rfl) rfl) rfl (.asg rfl rfl (.asg rfl rfl (.n (.h (.s (.b (.s (.r (.mv rfl rfl (.q (.nei (.t rfl) .k) rfl (.asg rfl rfl (.n (.h (.isb 13 false rfl (by rfl) (.condF (.t rfl) (.s (.r (.mv rfl rfl (.q (.lti (.t rfl) .k) rfl (.mv rfl rfl (.qgF rfl rfl (.move (.t rfl)) rfl ?_))))))))))))))))))))))); refine W.qgF rfl rfl (.move (.t rfl)) rfl (.qgF rfl rfl (.lensl (.c rfl) Tryz.underlying23) rfl (.qgF rfl rfl (.gei (.c rfl) (.c rfl)) rfl ?_)); refine W.q (.or (.t rfl) ⟨_, _, rfl, rfl, by ((simp; done))⟩) rfl ?_; refine W.asg rfl rfl (.n (.h ?_)); refine W.isb 18 false rfl (by simp; omega) ?_; refine W.condF (.t rfl) (.k (.bn (.h (.s (.r (.mv rfl rfl (.mv rfl rfl ?_))))))); refine W.call (hte b9) ⟨(.t rfl), (.t rfl), trivial⟩ ((List.Perm.refl _)) rfl ?_
 rintro _ _ ⟨rfl, rfl⟩
 refine W.stb 1 (.t rfl) (.t rfl) rfl ty35 rfl rfl rfl (.q (.assign .k) rfl (.n (.h ?_))); refine W.ret ?_; refine W.retn (M' := M0) (D := _) (rs := [.cell 4 35, .tmp 5]) (avs := [_, _]) Tryz.results31 ⟨⟨_, _, _, rfl, by repeat (first | exact List.mem_cons_self | apply List.mem_cons_of_mem), rfl, by funext w; exact ag35.run w, by funext w; exact ty35.size w⟩, rfl, trivial⟩ rfl (List.perm_append_comm (l₁ := [_, _])) ?_
 exact ⟨by rw [Nd.av_eq]; rfl, rfl⟩
theorem treeN_name {ts : List Tp} {as_ : List Au} {sz : List Int} : ∀ {f t : Nat} {d : Nd}, Sch.treeN ts as_ sz f t = some d → d.name = (ts.getD t Sch.dT).name
 | 0, t, d, h => by cases h
 | f + 1, t, d, h => by
  simp only [Sch.treeN] at h
  split at h
  ·cases h
  ·split at h
   ·rename_i h1; rw [← Option.some.inj h]; exact h1.symm
   ·split at h
    ·cases h
    ·split at h
     ·cases h
     ·rw [← Option.some.inj h]; rfl
theorem c_filled (ts : List Tp) (as_ : List Au) (hg : Sch.Good ts as_) (fin : List Int) (hfin : Sch.sizesOf ts as_ = some fin) (hall : (fin.any fun n => n == 0 || decide (150 < n)) = false) (f t : Nat) (d : Nd) (hd : Sch.treeN ts as_ fin f t = some d) (M0 : List ME) (hI : ∀ n : Int, -1 ≤ n → n < 100 → FnC Tryz.prog 107 [.int n] M0 (fun r M => r = .str (itoa n) ∧ M = M0)) : FnC Tryz.prog 15 [.sl 3 (ts.map tpv), .int (t : Int)] M0 (fun r M => r = .tup [d.av, .bool true] ∧ M = M0) :=  by
 refine FnC.mk Tryz.func15 (by kernel_rfl) rfl Tryz.ntmps15 rfl (fun w0 F => ?_)
 have hnl : (ts.map tpv).length = ts.length := List.length_map ..
 have hsl : fin.length = ts.length := by
  have := Sch.mso_len 10 _ _ hfin
  rwa [List.length_replicate] at this
 have htl := Sch.treeN_lt hd
 have hlen8 := hg.len
 have hgt := getD_mapG tpv Sch.dT ts t htl
 have hnm := treeN_name hd
 have hF := c_Fill ts as_ hg fin hfin hall f t d hd M0 hI
 rw [Nd.av_eq] at hF
 refine W.s ?_; refine W.r ?_; refine W.alloc ty35 rfl rfl ?_; intro b4; refine W.q (.assign .k) rfl ?_; refine W.n ?_; refine W.h ?_; refine W.s ?_; refine W.r ?_; refine W.q (.move (.t rfl)) rfl ?_
 refine W.app0 .k (.sl (.t rfl) (by intro e he; obtain ⟨t_, _, rfl⟩ := List.mem_map.1 he; rfl)) Tryz.underlying23 ni23 ty28 rfl rfl (by rw [List.length_map]; omega) rfl ?_; refine W.mv rfl rfl ?_; refine W.call (hF) ⟨(.t rfl), (.t rfl), trivial⟩ ((List.perm_append_comm (l₁ := [_]))) rfl ?_
 rintro _ M' ⟨rfl, hM'⟩
 rw [hM']
 refine W.perm (List.perm_append_comm (l₂ := [_])) ?_; refine W.q (.move (.t rfl)) rfl ?_; refine W.q (.extract (.t rfl) rfl) rfl ?_; refine W.q (.extract (.t rfl) rfl) rfl ?_; refine W.alloc ty35 rfl rfl ?_; intro b6
 refine W.stb 0 (.t rfl) (.t rfl) rfl ty35 rfl rfl rfl (.asg rfl rfl (.n (.h (.s ?_)))); refine W.drawnE (ι := Unit) (fun ee _ => .box b6 35 (Nd.avx d).cells :: .box b4 35 (bif ee 13 then (Nd.avx d).cells else [.lit (.string ⟨#[]⟩), .lit (.slice none 0 0), .lit (.string ⟨#[]⟩), .lit (.slice none 0 0)]) :: M0) 15 () (by kernel_rfl) (by kernel_rfl) rfl ?_; refine DE.q (fun e c hk => (.ldbn 0 (.t rfl) rfl ag35 ty35 rfl)) rfl (fun _ _ => rfl) (.inr fun _ _ => rfl) (.q (fun e c hk => (.move (.t rfl))) rfl (fun _ _ => rfl) (.inr fun _ _ => rfl) (.q (fun e c hk => (.eqi (.t rfl) .k)) rfl (fun _ _ => rfl) (.inr fun _ _ => rfl) (.q (fun e c hk => (.move (.t rfl))) rfl (fun _ _ => rfl) (.inr fun _ _ => rfl) (.qg rfl (fun _ => rfl) (fun e c hk => (.fab (.t rfl) fa35_0)) rfl (fun _ _ => rfl) (.inr fun _ _ => rfl) (.qg rfl (fun _ => rfl) (fun e c hk => (.ldb1 0 (.c rfl) rfl ag9 rfl)) rfl (fun _ _ => rfl) (.inr fun _ _ => rfl) (.qg rfl (fun _ => rfl) (fun e c hk => (.move (.t rfl))) rfl (fun _ _ => rfl) (.inr fun _ _ => rfl) (.qg rfl (fun _ => rfl) (fun e c hk => (.move (.t rfl))) rfl (fun _ _ => rfl) (.inr fun _ _ => rfl) ?_))))))); refine DE.qg rfl (fun _ => rfl) (fun e c hk => Ev.at (E := 28) (.c rfl) (.c rfl) Tryz.underlying23 ty28 (fun _ => ⟨by omega, hgt⟩) rfl rfl) rfl (fun _ _ => rfl) (.inr fun _ _ => rfl) ?_; refine DE.qg rfl (fun _ => rfl) (fun e c hk => (.fae (.c rfl) fa28_0 rfl)) rfl (fun _ _ => rfl) (.inr fun _ _ => rfl) (.qg rfl (fun _ => rfl) (fun e c hk => (.lde1 (.c rfl) ag9)) rfl (fun _ _ => rfl) (.inr fun _ _ => rfl) ?_)
 refine DE.qg rfl (fun _ => rfl) (fun e c hk => (.eqs (.c rfl) (.c rfl))) rfl (fun _ _ => rfl) (.inr fun _ _ => rfl) ?_; refine DE.q (fun e c hk => (.and (.t rfl) ⟨_, _, rfl, rfl, by ((simp; done))⟩)) rfl (fun _ _ => rfl) (.inr fun _ _ => rfl) ?_; refine DE.eff0 (fun e c hk L_ hs Q h => ?_) ?_
 ·have hk_13 := hk.not
  simp only [addE, hk_13, Nat.reduceAdd, Nat.reduceEqDiff, ↓reduceIte, cond_true, cond_false] at h ⊢
  ((refine W.stb 1 (.t (hs _ _ rfl)) (.t (hs _ _ rfl)) rfl ty35 rfl rfl rfl ?_; exact h))
 refine DE.q (fun e c hk => (.assign (.t rfl))) rfl (fun _ _ => rfl) (.inr fun _ _ => rfl) ?_; refine DE.nil (fun c_ e_ he_ => ?_)
 simp only [he_ 13 (by decide), cond_true, cond_false]
 refine W.h ?_; refine W.ret ?_; refine W.retn (M' := M0) (D := _) (rs := [.cell 4 35, .tmp 5]) (avs := [_, _]) Tryz.results15 ⟨⟨_, _, _, rfl, by repeat (first | exact List.mem_cons_self | apply List.mem_cons_of_mem), rfl, by funext w; exact ag35.run w, by funext w; exact ty35.size w⟩, rfl, trivial⟩ rfl (List.perm_append_comm (l₁ := [_, _])) ?_
 exact ⟨by rw [Nd.av_eq]; show AV.tup [Nd.avx d, AV.bool _] = _; rw [hnm]; simp, rfl⟩
end WFill
end Go.Proofs.YtphlkdbglpcikaaGreatDoor
end
section
namespace Go.Proofs.YtphlkdbglpcikaaGreatDoor
open Go.Vl
open Y
namespace WTypes
theorem pk_lt (l : List Int) (i n : Nat) (hn : 0 < n) : Sch.pk l i n < n := by
 unfold Sch.pk
 split
 ·exact hn
 ·have h1 := Int.emod_nonneg (l.getD i 0) (by omega : (n : Int) ≠ 0)
  have h2 := Int.emod_lt_of_pos (l.getD i 0) (by omega : (0 : Int) < n)
  omega
theorem pick_txt (ks : List Nat) (k : Nat) (hk : k < ks.length) : (ks.map Sch.txt).getD k [] = Sch.txt (ks.getD k 0) := by
 rw [List.getD_eq_getElem?_getD, List.getElem?_map, List.getD_eq_getElem?_getD, List.getElem?_eq_getElem hk]; rfl
theorem c_pick (b : Nat) (l : List Int) (i : Nat) (hi : i < 100) (hl : l.length ≤ 1099511627776) (ss : List (List UInt8)) (hs : 0 < ss.length) (hs2 : ss.length < 100) : FnC Tryz.prog 29 [.int (i : Int), .sl 1 (ss.map AV.str), .lit (.pointer (some ⟨b, 0, none⟩))] [.box b 22 [.sl 1 (l.map AV.int)]] (fun r M => r = .str (ss.getD (Sch.pk l i ss.length) []) ∧ M = [.box b 22 [.sl 1 (l.map AV.int)]]) :=  by
 refine FnC.mk Tryz.func29 (by kernel_rfl) rfl Tryz.ntmps29 rfl (fun w0 F => ?_)
 have hsl : (ss.map AV.str).length = ss.length := List.length_map ..
 have hll : (l.map AV.int).length = l.length := List.length_map ..
 have hg0 := getD_mapG AV.str [] ss 0 hs
 refine W.s (.r (.q (.assign .k) rfl (.n (.h (.s (.s (.r (.mv rfl rfl (.q (.ldb1 0 (.t rfl) rfl ag22 rfl) rfl (.q (.lensl (.t rfl) Tryz.underlying22) rfl ?_))))))))))
 refine W.q (.gei (.t rfl) (.t rfl)) rfl ?_; refine W.n ?_; refine W.h ?_; refine W.cond (.t rfl) (fun hc_t9 => ?_) (fun hc_t9 => ?_)
 ·have h9 := of_decide_eq_true hc_t9
  have hpk : Sch.pk l i ss.length = 0 := if_pos (by omega)
  refine W.s (.r (.mv rfl rfl ?_)); refine W.q (.at (E := 9) (.t rfl) .k Tryz.underlying26 ty9 (fun _ => ⟨by omega, hg0⟩) rfl rfl) rfl ?_; refine W.q (.lde1 (.t rfl) ag9) rfl (.asg rfl rfl (.n (.h ?_))); refine W.ret ?_; refine W.hr ?_; refine W.retn (M' := [.box b 22 [.sl 1 (l.map AV.int)]]) (D := []) (rs := [.tmp 5]) (avs := [_]) Tryz.results29 ⟨rfl, trivial⟩ rfl (.refl _) ?_
  exact ⟨congrArg AV.str (by rw [hpk]), rfl⟩
 ·have h9 := of_decide_eq_false hc_t9
  have hlt : i < l.length := by omega
  have hgl := getD_map l i hlt
  have hpk : Sch.pk l i ss.length = (l.getD i 0 % (ss.length : Int)).toNat := if_neg (by omega)
  obtain ⟨z, hz⟩ : ∃ z, l.getD i 0 = z := ⟨_, rfl⟩
  rw [hz] at hgl hpk
  have hz1 := Int.emod_nonneg z (by omega : (ss.length : Int) ≠ 0)
  have hz2 := Int.emod_lt_of_pos z (by omega : (0 : Int) < ss.length)
  have hgp := getD_mapG AV.str [] ss (z % (ss.length : Int)).toNat (by omega)
  refine W.k (.h (.s (.r (.mv rfl rfl (.q (.ldb1 0 (.t rfl) rfl ag22 rfl) rfl (.mv rfl rfl ?_)))))); refine W.q (.at (E := 3) (.t rfl) (.t rfl) Tryz.underlying22 ty3 (fun _ => ⟨by omega, hgl⟩) rfl rfl) rfl ?_; refine W.q (.lde1 (.t rfl) ag3) rfl (.mv rfl rfl (.q (.lensl (.t rfl) Tryz.underlying26) rfl ?_)); refine W.is (t := 19) (av' := .int (ss.length : Int)) rfl (congrArg AV.int (by rw [hsl])) ?_; refine W.callp (Base.c_Picked z (ss.length : Int) (by omega) (by omega)) ⟨(.t rfl), (.t rfl), trivial⟩ rfl ?_; refine W.q (.at (E := 9) (.t rfl) (.t rfl) Tryz.underlying26 ty9 (fun _ => ⟨by omega, hgp⟩) rfl rfl) rfl ?_; refine W.q (.lde1 (.t rfl) ag9) rfl (.asg rfl rfl (.n (.h ?_))); refine W.ret ?_; refine W.retn (M' := [.box b 22 [.sl 1 (l.map AV.int)]]) (D := []) (rs := [.tmp 5]) (avs := [_]) Tryz.results29 ⟨rfl, trivial⟩ rfl (.refl _) ?_
  exact ⟨congrArg AV.str (by rw [hpk]), rfl⟩
theorem c_Types (l : List Int) (hl : l.length ≤ 1099511627776) : FnP Tryz.prog 12 [.sl 1 (l.map AV.int)] (.sl 3 ((Sch.tys (Sch.pk l 0 4) (Sch.pk l 1 3) (Sch.pk l 2 2) (Sch.pk l 3 3) (Sch.pk l 4 3) (Sch.pk l 5 2)).map tpv)) :=  by
 refine FnC.mk Tryz.func12 (by kernel_rfl) rfl Tryz.ntmps12 rfl (fun w0 F => ?_)
 refine W.s ?_; refine W.r ?_; refine W.box (.t rfl) rfl rfl ?_; intro b1; refine W.q (.assign .k) rfl ?_; refine W.n ?_; refine W.h ?_; refine W.s ?_; refine W.r ?_; refine W.q (.mkfn (caps := [.tmp 1]) (vs := [_]) ⟨(.t rfl), trivial⟩) rfl ?_; refine W.q (.assign (.t rfl)) rfl ?_; refine W.n ?_; refine W.h ?_; refine W.s ?_; refine W.r ?_; refine W.q (.move (.t rfl)) rfl ?_; refine W.bs (es := [_, _, _, _]) Tryz.underlying26 ty9 ⟨rfl, .k, rfl, rfl, rfl, .k, rfl, rfl, rfl, .k, rfl, rfl, rfl, .k, rfl, rfl, trivial⟩ rfl (by decide) rfl rfl ?_; refine W.is (t := 6) (av' := .sl 1 (([0, 1, 2, 3].map Sch.txt).map AV.str)) rfl (congrArg (fun x => AV.sl 1 (x.map AV.str)) (by decide : ([[40, 98, 124, 99, 124, 100, 41, 43], [99, 63, 98, 42], [40, 98, 124, 100, 41, 42], [99, 98, 43, 100, 63]] : List (List UInt8)) = [0, 1, 2, 3].map Sch.txt)) ?_; refine W.callv (caps := [.pointer (some ⟨b1, 0, none⟩)]) (avs := [_, _]) (c_pick b1 l 0 (by decide) hl ([0, 1, 2, 3].map Sch.txt) (by decide) (by decide)) (.t rfl) ⟨.k, (.t rfl), trivial⟩ rfl (.refl _) rfl ?_
 rintro _ _ ⟨rfl, rfl⟩
 rw [show (List.map Sch.txt [0, 1, 2, 3]).length = 4 from rfl, pick_txt [0, 1, 2, 3] _ (pk_lt l 0 4 (by decide))]
 refine W.q (.build ty28 st28 rfl (fun hg => ⟨_, _, _, rfl, .k, rfl, rfl, rfl, _, _, _, rfl, (.t rfl), rfl, rfl, rfl, rfl⟩)) rfl ?_; refine W.nils (t := 8) (g := true) (cs' := [.str Sch.bDoc, .str (Sch.txt (([0, 1, 2, 3] : List Nat).getD (Sch.pk l 0 4) 0)), .sl 1 []]) rfl ⟨.inl rfl, .inl rfl, .inr ⟨rfl, 1, rfl⟩, trivial⟩ ?_; refine W.mv rfl rfl ?_; refine W.bs (es := [_, _, _]) Tryz.underlying26 ty9 ⟨rfl, .k, rfl, rfl, rfl, .k, rfl, rfl, rfl, .k, rfl, rfl, trivial⟩ rfl (by decide) rfl rfl ?_; refine W.is (t := 10) (av' := .sl 1 (([4, 5, 6].map Sch.txt).map AV.str)) rfl (congrArg (fun x => AV.sl 1 (x.map AV.str)) (by decide : ([[103, 63, 40, 102, 43, 103, 63, 41, 42], [40, 102, 124, 103, 102, 41, 42, 103, 63], [103, 63]] : List (List UInt8)) = [4, 5, 6].map Sch.txt)) ?_; refine W.callv (caps := [.pointer (some ⟨b1, 0, none⟩)]) (avs := [_, _]) (c_pick b1 l 1 (by decide) hl ([4, 5, 6].map Sch.txt) (by decide) (by decide)) (.t rfl) ⟨.k, (.t rfl), trivial⟩ rfl (.refl _) rfl ?_
 rintro _ _ ⟨rfl, rfl⟩
 rw [show (List.map Sch.txt [4, 5, 6]).length = 3 from rfl, pick_txt [4, 5, 6] _ (pk_lt l 1 3 (by decide))]
 refine W.bs (es := [_]) Tryz.underlying26 ty9 ⟨rfl, .k, rfl, rfl, trivial⟩ rfl (by decide) rfl rfl ?_; refine W.q (.build ty28 st28 rfl (fun hg => ⟨_, _, _, rfl, .k, rfl, rfl, rfl, _, _, _, rfl, (.t rfl), rfl, rfl, rfl, _, _, _, rfl, (.t rfl), rfl, rfl, rfl, rfl⟩)) rfl (.mv rfl rfl ?_); refine W.bs (es := [_, _]) Tryz.underlying26 ty9 ⟨rfl, .k, rfl, rfl, rfl, .k, rfl, rfl, trivial⟩ rfl (by decide) rfl rfl ?_; refine W.is (t := 15) (av' := .sl 1 (([7, 6].map Sch.txt).map AV.str)) rfl (congrArg (fun x => AV.sl 1 (x.map AV.str)) (by decide : ([[103], [103, 63]] : List (List UInt8)) = [7, 6].map Sch.txt)) ?_; refine W.callv (caps := [.pointer (some ⟨b1, 0, none⟩)]) (avs := [_, _]) (c_pick b1 l 2 (by decide) hl ([7, 6].map Sch.txt) (by decide) (by decide)) (.t rfl) ⟨.k, (.t rfl), trivial⟩ rfl (.refl _) rfl ?_
 rintro _ _ ⟨rfl, rfl⟩
 rw [show (List.map Sch.txt [7, 6]).length = 2 from rfl, pick_txt [7, 6] _ (pk_lt l 2 2 (by decide))]
 refine W.q (.build ty28 st28 rfl (fun hg => ⟨_, _, _, rfl, .k, rfl, rfl, rfl, _, _, _, rfl, (.t rfl), rfl, rfl, rfl, rfl⟩)) rfl ?_; refine W.nils (t := 17) (g := true) (cs' := [.str Sch.bH1, .str (Sch.txt (([7, 6] : List Nat).getD (Sch.pk l 2 2) 0)), .sl 1 []]) rfl ⟨.inl rfl, .inl rfl, .inr ⟨rfl, 1, rfl⟩, trivial⟩ ?_; refine W.mv rfl rfl ?_; refine W.bs (es := [_, _, _]) Tryz.underlying26 ty9 ⟨rfl, .k, rfl, rfl, rfl, .k, rfl, rfl, rfl, .k, rfl, rfl, trivial⟩ rfl (by decide) rfl rfl ?_; refine W.is (t := 19) (av' := .sl 1 (([8, 9, 10].map Sch.txt).map AV.str)) rfl (congrArg (fun x => AV.sl 1 (x.map AV.str)) (by decide : ([[101, 43], [101, 101, 42], [101, 42]] : List (List UInt8)) = [8, 9, 10].map Sch.txt)) ?_; refine W.callv (caps := [.pointer (some ⟨b1, 0, none⟩)]) (avs := [_, _]) (c_pick b1 l 3 (by decide) hl ([8, 9, 10].map Sch.txt) (by decide) (by decide)) (.t rfl) ⟨.k, (.t rfl), trivial⟩ rfl (.refl _) rfl ?_
 rintro _ _ ⟨rfl, rfl⟩
 rw [show (List.map Sch.txt [8, 9, 10]).length = 3 from rfl, pick_txt [8, 9, 10] _ (pk_lt l 3 3 (by decide))]
 refine W.q (.build ty28 st28 rfl (fun hg => ⟨_, _, _, rfl, .k, rfl, rfl, rfl, _, _, _, rfl, (.t rfl), rfl, rfl, rfl, rfl⟩)) rfl ?_; refine W.nils (t := 21) (g := true) (cs' := [.str Sch.bUl, .str (Sch.txt (([8, 9, 10] : List Nat).getD (Sch.pk l 3 3) 0)), .sl 1 []]) rfl ⟨.inl rfl, .inl rfl, .inr ⟨rfl, 1, rfl⟩, trivial⟩ ?_; refine W.mv rfl rfl ?_; refine W.bs (es := [_, _, _]) Tryz.underlying26 ty9 ⟨rfl, .k, rfl, rfl, rfl, .k, rfl, rfl, rfl, .k, rfl, rfl, trivial⟩ rfl (by decide) rfl rfl ?_; refine W.is (t := 23) (av' := .sl 1 (([11, 6, 2].map Sch.txt).map AV.str)) rfl (congrArg (fun x => AV.sl 1 (x.map AV.str)) (by decide : ([[98, 43], [103, 63], [40, 98, 124, 100, 41, 42]] : List (List UInt8)) = [11, 6, 2].map Sch.txt)) ?_; refine W.callv (caps := [.pointer (some ⟨b1, 0, none⟩)]) (avs := [_, _]) (c_pick b1 l 4 (by decide) hl ([11, 6, 2].map Sch.txt) (by decide) (by decide)) (.t rfl) ⟨.k, (.t rfl), trivial⟩ rfl (.refl _) rfl ?_
 rintro _ _ ⟨rfl, rfl⟩
 rw [show (List.map Sch.txt [11, 6, 2]).length = 3 from rfl, pick_txt [11, 6, 2] _ (pk_lt l 4 3 (by decide))]
 refine W.q (.build ty28 st28 rfl (fun hg => ⟨_, _, _, rfl, .k, rfl, rfl, rfl, _, _, _, rfl, (.t rfl), rfl, rfl, rfl, rfl⟩)) rfl ?_; refine W.nils (t := 25) (g := true) (cs' := [.str Sch.bLi, .str (Sch.txt (([11, 6, 2] : List Nat).getD (Sch.pk l 4 3) 0)), .sl 1 []]) rfl ⟨.inl rfl, .inl rfl, .inr ⟨rfl, 1, rfl⟩, trivial⟩ ?_; refine W.mv rfl rfl ?_; refine W.bs (es := [_, _]) Tryz.underlying26 ty9 ⟨rfl, .k, rfl, rfl, rfl, .k, rfl, rfl, trivial⟩ rfl (by decide) rfl rfl ?_; refine W.is (t := 27) (av' := .sl 1 (([7, 6].map Sch.txt).map AV.str)) rfl (congrArg (fun x => AV.sl 1 (x.map AV.str)) (by decide : ([[103], [103, 63]] : List (List UInt8)) = [7, 6].map Sch.txt)) ?_; refine W.callv (caps := [.pointer (some ⟨b1, 0, none⟩)]) (avs := [_, _]) (c_pick b1 l 5 (by decide) hl ([7, 6].map Sch.txt) (by decide) (by decide)) (.t rfl) ⟨.k, (.t rfl), trivial⟩ rfl (.refl _) rfl ?_
 rintro _ _ ⟨rfl, rfl⟩
 rw [show (List.map Sch.txt [7, 6]).length = 2 from rfl, pick_txt [7, 6] _ (pk_lt l 5 2 (by decide))]
 refine W.q (.build ty28 st28 rfl (fun hg => ⟨_, _, _, rfl, .k, rfl, rfl, rfl, _, _, _, rfl, (.t rfl), rfl, rfl, rfl, rfl⟩)) rfl ?_; refine W.nils (t := 29) (g := true) (cs' := [.str Sch.bEm, .str (Sch.txt (([7, 6] : List Nat).getD (Sch.pk l 5 2) 0)), .sl 1 []]) rfl ⟨.inl rfl, .inl rfl, .inr ⟨rfl, 1, rfl⟩, trivial⟩ ?_; refine W.q (.build ty28 st28 rfl (fun hg => rfl)) rfl ?_; refine W.nils (t := 30) (g := true) (cs' := [.str [], .str [], .sl 1 []]) rfl ⟨.inl rfl, .inl rfl, .inr ⟨rfl, 1, rfl⟩, trivial⟩ ?_; refine W.bs (es := [_, _, _, _, _, _, _]) Tryz.underlying23 ty28 ⟨rfl, (.t rfl), rfl, rfl, rfl, (.t rfl), rfl, rfl, rfl, (.t rfl), rfl, rfl, rfl, (.t rfl), rfl, rfl, rfl, (.t rfl), rfl, rfl, rfl, (.t rfl), rfl, rfl, rfl, (.t rfl), rfl, rfl, trivial⟩ rfl (by decide) rfl rfl ?_; refine W.asg rfl rfl (.n (.h ?_)); refine W.ret ?_; refine W.retn (M' := []) (D := _) (rs := [.tmp 2]) (avs := [_]) Tryz.results12 ⟨rfl, trivial⟩ rfl (.refl _) ?_
 exact ⟨rfl, rfl⟩
end WTypes
end Go.Proofs.YtphlkdbglpcikaaGreatDoor
end
section
namespace Go.Vl
namespace Sch
def accJ (ts : List Tp) (a : List Int) (nm : List UInt8) : Nat → Int → Int
 | 0, z => z
 | j + 1, z => if ((ts.getD j dT).name == nm) = true then wr (accJ ts a nm j z + a.getD j 0) else accJ ts a nm j z
def accP (ts : List Tp) (a : List Int) (ps : List Nd) : Nat → Int
 | 0 => 1
 | i + 1 => accJ ts a (ps.getD i Nd.dflt).name 7 (accP ts a ps i)
def isE (o : Option Int) (k : Int) : Bool := match o with
 | some e => decide (e = k)
 | none => false
theorem isE_eq {o : Option Int} {k : Int} (h : isE o k = true) : o = some k := by
 unfold isE at h
 split at h
 ·rw [of_decide_eq_true h]
 ·cases h
def bZzz : List UInt8 := [122, 122, 122]
def zzz : Nd := .mk bZzz [] [] []
def spoil0 (d : Nd) : Nd := .mk d.name d.attrs d.text (d.parts ++ [zzz])
def spoil1 (d : Nd) : Nd := .mk d.name [(bClass, [])] d.text d.parts
def spoil2 (d : Nd) : Nd := .mk d.name d.attrs [120] d.parts
def spoil3 (d : Nd) : Nd := .mk bP d.attrs d.text d.parts
def tyn : List Tp := tyk 0 0 0 0 0 0
def chkTree (as_ : List Au) : Bool := match sizesOf tyn as_ with
 | some a => (a.all fun n => decide (1 ≤ n) && decide (n ≤ 150)) && ((List.range 7).all fun t => match treeN tyn as_ a 6 t with
  | some d => decide ((Nd.cnts [d] : Int) = a.getD t 0) && isE (faultN tyn as_ 7 d t) 0 && decide (accP tyn a d.parts d.parts.length = a.getD t 0) && decide (d.parts.length ≤ 100)
  | none => false) && match treeN tyn as_ a 6 0 with
  | some d => isE (treeFault tyn as_ 7 d) 0 && isE (treeFault tyn as_ 7 (spoil0 d)) 5 && isE (treeFault tyn as_ 7 (spoil1 d)) 4 && isE (treeFault tyn as_ 7 (spoil2 d)) 4 && isE (treeFault tyn as_ 7 (spoil3 d)) 5
  | none => false
 | none => false
section
variable {ts ts' : List Tp}
theorem partsN_congr {g g' : Nd → Nat → Option Int} (hg : ∀ d t, g d t = g' d t) (hx : ∀ nm, idxT ts nm = idxT ts' nm) : ∀ l, partsN g ts l = partsN g' ts' l
 | [] => rfl
 | p :: l => by simp only [partsN, hx, hg, partsN_congr hg hx l]
theorem faultN_congr (ha : ∀ i, (ts.getD i dT).attrs = (ts'.getD i dT).attrs) (hl : ts.length = ts'.length) (hx : ∀ nm, idxT ts nm = idxT ts' nm) (as_ : List Au) : ∀ f d t, faultN ts as_ f d t = faultN ts' as_ f d t
 | 0, _, _ => rfl
 | f + 1, d, t => by
  have hk : kinds ts d.parts = kinds ts' d.parts := by unfold kinds; simp only [hx]
  obtain ⟨nm, at_, tx, ps⟩ := d
  rw [faultN_mk, faultN_mk]
  simp only [hl, ha, partsN_congr (faultN_congr ha hl hx as_ f) hx]
  rw [show kinds ts ps = kinds ts' ps from hk]
theorem accJ_congr (h : ∀ i, (ts.getD i dT).name = (ts'.getD i dT).name) (a : List Int) (nm : List UInt8) : ∀ j z, accJ ts a nm j z = accJ ts' a nm j z
 | 0, _ => rfl
 | j + 1, z => by simp only [accJ, h, accJ_congr h a nm j]
theorem accP_congr (h : ∀ i, (ts.getD i dT).name = (ts'.getD i dT).name) (a : List Int) (ps : List Nd) : ∀ i, accP ts a ps i = accP ts' a ps i
 | 0 => rfl
 | i + 1 => by simp only [accP, accP_congr h a ps i, accJ_congr h]
theorem treeFault_congr (h : ∀ i, (ts.getD i dT).name = (ts'.getD i dT).name) (ha : ∀ i, (ts.getD i dT).attrs = (ts'.getD i dT).attrs) (hl : ts.length = ts'.length) (hx : ∀ nm, idxT ts nm = idxT ts' nm) (as_ : List Au) (f : Nat) (d : Nd) : treeFault ts as_ f d = treeFault ts' as_ f d := by
 unfold treeFault; rw [h, faultN_congr ha hl hx]
end
theorem attrs7 (m0 m1 m2 m3 m4 m5 n0 n1 n2 n3 n4 n5 : Nat) : ∀ i, ((tyk m0 m1 m2 m3 m4 m5).getD i dT).attrs = ((tyk n0 n1 n2 n3 n4 n5).getD i dT).attrs
 | 0 => rfl | 1 => rfl | 2 => rfl | 3 => rfl | 4 => rfl | 5 => rfl | 6 => rfl | _ + 7 => rfl
theorem idx7 (m0 m1 m2 m3 m4 m5 n0 n1 n2 n3 n4 n5 : Nat) (nm : List UInt8) : idxT (tyk m0 m1 m2 m3 m4 m5) nm = idxT (tyk n0 n1 n2 n3 n4 n5) nm := rfl
structure TreeOk (ts : List Tp) (as_ : List Au) (a : List Int) : Prop where
 tree : ∀ t, t < 7 → ∃ d, treeN ts as_ a 6 t = some d ∧ (Nd.cnts [d] : Int) = a.getD t 0 ∧ faultN ts as_ 7 d t = some 0 ∧ accP ts a d.parts d.parts.length = a.getD t 0 ∧ d.parts.length ≤ 100
 top : ∃ d, treeN ts as_ a 6 0 = some d ∧ treeFault ts as_ 7 d = some 0 ∧ treeFault ts as_ 7 (spoil0 d) = some 5 ∧ treeFault ts as_ 7 (spoil1 d) = some 4 ∧ treeFault ts as_ 7 (spoil2 d) = some 4 ∧ treeFault ts as_ 7 (spoil3 d) = some 5
theorem chkTree_out {m0 m1 m2 m3 m4 m5 : Nat} (h : chkTree (ask m0 m1 m2 m3 m4 m5) = true) : ∃ a, sizesOf (tyk m0 m1 m2 m3 m4 m5) (ask m0 m1 m2 m3 m4 m5) = some a ∧ (∀ n ∈ a, 1 ≤ n ∧ n ≤ 150) ∧ TreeOk (tyk m0 m1 m2 m3 m4 m5) (ask m0 m1 m2 m3 m4 m5) a := by
 have hn := names7 m0 m1 m2 m3 m4 m5 0 0 0 0 0 0
 have hat := attrs7 m0 m1 m2 m3 m4 m5 0 0 0 0 0 0
 have hx := idx7 m0 m1 m2 m3 m4 m5 0 0 0 0 0 0
 have hl : (tyk m0 m1 m2 m3 m4 m5).length = (tyk 0 0 0 0 0 0).length := rfl
 rw [sizesOf_congr hn hl]
 unfold chkTree tyn at h
 obtain ⟨a, ha⟩ : ∃ a, sizesOf (tyk 0 0 0 0 0 0) (ask m0 m1 m2 m3 m4 m5) = some a := by
  cases h2 : sizesOf (tyk 0 0 0 0 0 0) (ask m0 m1 m2 m3 m4 m5) with
  | none => rw [h2] at h; cases h
  | some a => exact ⟨a, rfl⟩
 rw [ha] at h
 dsimp only at h
 rw [Bool.and_eq_true, Bool.and_eq_true] at h
 refine ⟨a, ha, fun n hn => by have := List.all_eq_true.1 h.1.1 n hn; simpa using this, ?_⟩
 replace h := And.intro h.1.2 h.2
 refine ⟨fun t ht => ?_, ?_⟩
 ·have h1 := List.all_eq_true.1 h.1 t (List.mem_range.2 ht)
  split at h1
  ·rename_i d hd
   simp only [Bool.and_eq_true, decide_eq_true_eq] at h1
   exact ⟨d, by rw [treeN_congr hn hl]; exact hd, h1.1.1.1, by rw [faultN_congr hat hl hx]; exact isE_eq h1.1.1.2, by rw [accP_congr hn]; exact h1.1.2, h1.2⟩
  ·cases h1
 ·have h1 := h.2
  split at h1
  ·rename_i d hd
   simp only [Bool.and_eq_true] at h1
   refine ⟨d, by rw [treeN_congr hn hl]; exact hd, ?_, ?_, ?_, ?_, ?_⟩ <;> rw [treeFault_congr hn hat hl hx]
   ·exact isE_eq h1.1.1.1.1
   ·exact isE_eq h1.1.1.1.2
   ·exact isE_eq h1.1.1.2
   ·exact isE_eq h1.1.2
   ·exact isE_eq h1.2
  ·cases h1
theorem tr_0_11 : (([4, 6] : List Nat).all fun m1 => ([7, 6] : List Nat).all fun m2 => ([8, 10] : List Nat).all fun m3 => ([7, 6] : List Nat).all fun m5 => chkTree (ask 0 m1 m2 m3 11 m5)) = true := by kernel_rfl
theorem tr_0_6 : (([4, 6] : List Nat).all fun m1 => ([7, 6] : List Nat).all fun m2 => ([8, 10] : List Nat).all fun m3 => ([7, 6] : List Nat).all fun m5 => chkTree (ask 0 m1 m2 m3 6 m5)) = true := by kernel_rfl
theorem tr_0_2 : (([4, 6] : List Nat).all fun m1 => ([7, 6] : List Nat).all fun m2 => ([8, 10] : List Nat).all fun m3 => ([7, 6] : List Nat).all fun m5 => chkTree (ask 0 m1 m2 m3 2 m5)) = true := by kernel_rfl
theorem tr_1_11 : (([4, 6] : List Nat).all fun m1 => ([7, 6] : List Nat).all fun m2 => ([8, 10] : List Nat).all fun m3 => ([7, 6] : List Nat).all fun m5 => chkTree (ask 1 m1 m2 m3 11 m5)) = true := by kernel_rfl
theorem tr_1_6 : (([4, 6] : List Nat).all fun m1 => ([7, 6] : List Nat).all fun m2 => ([8, 10] : List Nat).all fun m3 => ([7, 6] : List Nat).all fun m5 => chkTree (ask 1 m1 m2 m3 6 m5)) = true := by kernel_rfl
theorem tr_1_2 : (([4, 6] : List Nat).all fun m1 => ([7, 6] : List Nat).all fun m2 => ([8, 10] : List Nat).all fun m3 => ([7, 6] : List Nat).all fun m5 => chkTree (ask 1 m1 m2 m3 2 m5)) = true := by kernel_rfl
theorem tr_2_11 : (([4, 6] : List Nat).all fun m1 => ([7, 6] : List Nat).all fun m2 => ([8, 10] : List Nat).all fun m3 => ([7, 6] : List Nat).all fun m5 => chkTree (ask 2 m1 m2 m3 11 m5)) = true := by kernel_rfl
theorem tr_2_6 : (([4, 6] : List Nat).all fun m1 => ([7, 6] : List Nat).all fun m2 => ([8, 10] : List Nat).all fun m3 => ([7, 6] : List Nat).all fun m5 => chkTree (ask 2 m1 m2 m3 6 m5)) = true := by kernel_rfl
theorem tr_2_2 : (([4, 6] : List Nat).all fun m1 => ([7, 6] : List Nat).all fun m2 => ([8, 10] : List Nat).all fun m3 => ([7, 6] : List Nat).all fun m5 => chkTree (ask 2 m1 m2 m3 2 m5)) = true := by kernel_rfl
theorem tr_3_11 : (([4, 6] : List Nat).all fun m1 => ([7, 6] : List Nat).all fun m2 => ([8, 10] : List Nat).all fun m3 => ([7, 6] : List Nat).all fun m5 => chkTree (ask 3 m1 m2 m3 11 m5)) = true := by kernel_rfl
theorem tr_3_6 : (([4, 6] : List Nat).all fun m1 => ([7, 6] : List Nat).all fun m2 => ([8, 10] : List Nat).all fun m3 => ([7, 6] : List Nat).all fun m5 => chkTree (ask 3 m1 m2 m3 6 m5)) = true := by kernel_rfl
theorem tr_3_2 : (([4, 6] : List Nat).all fun m1 => ([7, 6] : List Nat).all fun m2 => ([8, 10] : List Nat).all fun m3 => ([7, 6] : List Nat).all fun m5 => chkTree (ask 3 m1 m2 m3 2 m5)) = true := by kernel_rfl
theorem tree_all {k0 k1 k2 k3 k4 k5 : Nat} (h0 : k0 < 4) (h1 : k1 < 3) (h2' : k2 < 2) (h3 : k3 < 3) (h4 : k4 < 3) (h5 : k5 < 2) : chkTree (ask (mk0 k0) (mk1 k1) (mk2 k2) (mk3 k3) (mk4 k4) (mk5 k5)) = true := by
 rw [← ask_fst]
 have a1 : fst_ (mk1 k1) ∈ ([4, 6] : List Nat) := by rcases (show k1 = 0 ∨ k1 = 1 ∨ k1 = 2 by omega) with rfl | rfl | rfl <;> decide
 have a2 : mk2 k2 ∈ ([7, 6] : List Nat) := by rcases (show k2 = 0 ∨ k2 = 1 by omega) with rfl | rfl <;> decide
 have a3 : fst_ (mk3 k3) ∈ ([8, 10] : List Nat) := by rcases (show k3 = 0 ∨ k3 = 1 ∨ k3 = 2 by omega) with rfl | rfl | rfl <;> decide
 have a5 : mk5 k5 ∈ ([7, 6] : List Nat) := by rcases (show k5 = 0 ∨ k5 = 1 by omega) with rfl | rfl <;> decide
 have h2 : ∀ {m0 m4 : Nat}, (([4, 6] : List Nat).all fun m1 => ([7, 6] : List Nat).all fun m2 => ([8, 10] : List Nat).all fun m3 => ([7, 6] : List Nat).all fun m5 => chkTree (ask m0 m1 m2 m3 m4 m5)) = true → chkTree (ask m0 (fst_ (mk1 k1)) (mk2 k2) (fst_ (mk3 k3)) m4 (mk5 k5)) = true := fun h => List.all_eq_true.1 (List.all_eq_true.1 (List.all_eq_true.1 (List.all_eq_true.1 h _ a1) _ a2) _ a3) _ a5
 rcases (show k0 = 0 ∨ k0 = 1 ∨ k0 = 2 ∨ k0 = 3 by omega) with rfl | rfl | rfl | rfl <;> rcases (show k4 = 0 ∨ k4 = 1 ∨ k4 = 2 by omega) with rfl | rfl | rfl
 ·exact h2 tr_0_11
 ·exact h2 tr_0_6
 ·exact h2 tr_0_2
 ·exact h2 tr_1_11
 ·exact h2 tr_1_6
 ·exact h2 tr_1_2
 ·exact h2 tr_2_11
 ·exact h2 tr_2_6
 ·exact h2 tr_2_2
 ·exact h2 tr_3_11
 ·exact h2 tr_3_6
 ·exact h2 tr_3_2
end Sch
end Go.Vl
end
section
namespace Go.Proofs.YtphlkdbglpcikaaGreatDoor
open Go.Vl
open Y
namespace WCount
end WCount
end Go.Proofs.YtphlkdbglpcikaaGreatDoor
end
section
namespace Go.Proofs.YtphlkdbglpcikaaGreatDoor
open Go.Vl
open Y
namespace WFSmall
theorem c_less (a b c d : Int) : FnP Tryz.prog 93 [.agg [.int a, .int b], .agg [.int c, .int d]] (.bool (Fit.less a b c d)) :=  by
 refine FnC.mk Tryz.func93 (by kernel_rfl) rfl Tryz.ntmps93 rfl (fun w0 F => ?_)
 refine W.s ?_; refine W.r ?_; refine W.box (.t rfl) rfl rfl ?_; intro b2; refine W.box (.t rfl) rfl rfl ?_; intro b3; refine W.q (.assign .k) rfl ?_; refine W.n ?_; refine W.h ?_; refine W.s ?_; refine W.r ?_
 refine W.q (.fab (.t rfl) fa81_0) rfl (.q (.ldb1 1 (.t rfl) rfl ag3 rfl) rfl (.q (.fab (.t rfl) fa81_0) rfl (.q (.ldb1 0 (.t rfl) rfl ag3 rfl) rfl (.q (.lti (.t rfl) (.t rfl)) rfl (.mv rfl rfl (.qgF rfl rfl (.fab (.t rfl) fa81_0) rfl (.qgF rfl rfl (.ldb1 1 (.c rfl) rfl ag3 rfl) rfl (.qgF rfl rfl (.fab (.t rfl) fa81_0) rfl (.qgF rfl rfl (.ldb1 0 (.c rfl) rfl ag3 rfl) rfl (.qgF rfl rfl (.eqi (.c rfl) (.c rfl)) rfl (.qgF rfl rfl (.move (.c rfl)) rfl (.qgT' rfl rfl (.fab (.t rfl) fa81_1) rfl (.qgT' rfl rfl (.ldb1 1 (.c rfl) rfl ag3 rfl) rfl (.qgT' rfl rfl (.fab (.t rfl) fa81_1) rfl (.qgT' rfl rfl (.ldb1 0 (.c rfl) rfl ag3 rfl) rfl ?_)))))))))))))))
 refine W.qgT' rfl rfl (.lti (.c rfl) (.c rfl)) rfl ?_; refine W.qgF rfl rfl (.and (.c rfl) ⟨_, _, rfl, rfl, by ((simp <;> omega; done))⟩) rfl ?_; refine W.q (.or (.t rfl) ⟨_, _, rfl, rfl, by ((simp; done))⟩) rfl ?_; refine W.q (.assign (.t rfl)) rfl ?_; refine W.n ?_; refine W.h ?_; refine W.ret ?_; refine W.retn (M' := []) (D := _) (rs := [.tmp 4]) (avs := [_]) Tryz.results93 ⟨rfl, trivial⟩ rfl (.refl _) ?_
 exact ⟨rfl, rfl⟩
theorem c_plus (a b c d : Int) (h : (-1099511627776 ≤ a ∧ a ≤ 1099511627776) ∧ (-1099511627776 ≤ b ∧ b ≤ 1099511627776) ∧ (-1099511627776 ≤ c ∧ c ≤ 1099511627776) ∧ (-1099511627776 ≤ d ∧ d ≤ 1099511627776)) : FnP Tryz.prog 60 [.agg [.int a, .int b], .agg [.int c, .int d]] (.agg [.int (a + c), .int (b + d)]) :=  by
 refine FnC.mk Tryz.func60 (by kernel_rfl) rfl Tryz.ntmps60 rfl (fun w0 F => ?_)
 refine W.s ?_; refine W.r ?_; refine W.box (.t rfl) rfl rfl ?_; intro b2; refine W.box (.t rfl) rfl rfl ?_; intro b3; refine W.alloc ty81 rfl rfl ?_; intro b4; refine W.n ?_; refine W.h ?_; refine W.s ?_; refine W.r ?_
 refine W.q (.fab (.t rfl) fa81_0) rfl (.q (.ldb1 2 (.t rfl) rfl ag3 rfl) rfl (.q (.fab (.t rfl) fa81_0) rfl (.q (.ldb1 1 (.t rfl) rfl ag3 rfl) rfl (.q (.add (.t rfl) (.t rfl) (fun _ => by omega)) rfl (.q (.fab (.t rfl) fa81_1) rfl (.q (.ldb1 2 (.t rfl) rfl ag3 rfl) rfl (.q (.fab (.t rfl) fa81_1) rfl (.q (.ldb1 1 (.t rfl) rfl ag3 rfl) rfl (.q (.add (.t rfl) (.t rfl) (fun _ => by omega)) rfl (.q (.build ty81 st81 rfl (fun hg => ⟨_, _, _, rfl, (.t rfl), rfl, rfl, rfl, _, _, _, rfl, (.t rfl), rfl, rfl, rfl, rfl⟩)) rfl (.stb 0 (.t rfl) (.t rfl) rfl ty81 rfl rfl rfl (.n (.h ?_))))))))))))); refine W.ret ?_; refine W.retn (M' := []) (D := _) (rs := [.cell 4 81]) (avs := [_]) Tryz.results60 ⟨⟨_, _, _, rfl, by repeat ((exact List.mem_cons_self)), rfl, by funext w; exact ag81.run w, by funext w; exact ty81.size w⟩, trivial⟩ rfl (.refl _) ?_
 exact ⟨rfl, rfl⟩
theorem c_Size (b : Nat) (ts : List Tp) (as_ : List Au) (sz : List Int) (k : Nat) (hk : k < sz.length) : FnC Tryz.prog 94 [.lit (.pointer (some ⟨b, 0, none⟩)), .int (k : Int)] [.box b 76 [.sl 3 (ts.map tpv), .sl 2 (as_.map Au.avx), .sl 1 (sz.map AV.int)]] (fun r M => r = .int (sz.getD k 0) ∧ M = [.box b 76 [.sl 3 (ts.map tpv), .sl 2 (as_.map Au.avx), .sl 1 (sz.map AV.int)]]) :=  by
 refine FnC.mk Tryz.func94 (by kernel_rfl) rfl Tryz.ntmps94 rfl (fun w0 F => ?_)
 have hgs := getD_map sz k hk
 have hzl : (sz.map AV.int).length = sz.length := List.length_map ..
 refine W.s (.r (.q (.assign .k) rfl (.n (.h (.s (.r (.mv rfl rfl (.q (.nilc (.t rfl)) rfl (.q (.fab (.t rfl) fa76_2) rfl (.q (.ldb1 0 (.t rfl) rfl ag22 rfl) rfl (.mv rfl rfl ?_))))))))))); refine W.q (.at (E := 3) (.t rfl) (.t rfl) Tryz.underlying22 ty3 (fun _ => ⟨by omega, hgs⟩) rfl rfl) rfl ?_; refine W.q (.lde1 (.t rfl) ag3) rfl (.asg rfl rfl (.n (.h ?_))); refine W.ret ?_; refine W.retn (M' := [.box b 76 [.sl 3 (ts.map tpv), .sl 2 (as_.map Au.avx), .sl 1 (sz.map AV.int)]]) (D := []) (rs := [.tmp 4]) (avs := [_]) Tryz.results94 ⟨rfl, trivial⟩ rfl (.refl _) ?_
 exact ⟨rfl, rfl⟩
theorem c_better (p : Nat) (q0 q1 q2 q3 : AV) (a : Option Addr) (n c : Nat) (vr : Value) (es : List AV) (row : List Fit.Ct) (i k : Nat) (d f : Int) (hi : i < row.length) (hk : es[k]? = some (.lit (.slice a n c))) : FnC Tryz.prog 58 [.lit (.pointer (some ⟨p, 0, none⟩)), .int (i : Int), .int (k : Int), .agg [.int d, .int f]] [.arr (.slice a n c) 82 3 (row.map Fit.ctv), .arr vr 83 1 es, .box p 86 [q0, q1, q2, q3, .lit vr]] (fun r M => r = .bool (Fit.betB row i d f) ∧ M = [.arr (.slice a n c) 82 3 ((Fit.betR row i d f).map Fit.ctv), .arr vr 83 1 es, .box p 86 [q0, q1, q2, q3, .lit vr]]) :=  by
 refine FnC.mk Tryz.func58 (by kernel_rfl) rfl Tryz.ntmps58 rfl (fun w0 F => ?_)
 have hkl : k < es.length := by
  rcases Nat.lt_or_ge k es.length with h | h
  ·exact h
  ·rw [List.getElem?_eq_none h] at hk; cases hk
 have hgr := Fit.getD_ctv row i hi
 have hrl : (row.map Fit.ctv).length = row.length := List.length_map ..
 have hbb : Fit.betB row i d f = !((row.getD i Fit.cz).ok && !(Fit.less d f (row.getD i Fit.cz).d (row.getD i Fit.cz).f)) := rfl
 have hset := Fit.set_ctv row i hi
 have hbm := Fit.betR_map row i d f
 have hbn := Fit.betR_map_no row i d f
 obtain ⟨cc, hcc⟩ : ∃ c, row.getD i Fit.cz = c := ⟨_, rfl⟩
 rw [hcc] at hgr hbb
 refine W.s ?_; refine W.r ?_; refine W.box (.t rfl) rfl rfl ?_; intro b7; refine W.q (.assign .k) rfl ?_; refine W.n ?_; refine W.h ?_; refine W.s ?_; refine W.r ?_; refine W.q (.move (.t rfl)) rfl ?_; refine W.q (.nilc (.t rfl)) rfl ?_
 refine W.q (.fab (.t rfl) fa86_3) rfl (.q (.ldb1 3 (.t rfl) rfl ag84 rfl) rfl (.mv rfl rfl (.q (.ata 2 (.t rfl) rfl (.t rfl) Tryz.underlying84 ty83 (fun _ => by omega)) rfl (.q (.lda1 2 k 0 (.t rfl) rfl hk (by omega) rfl rfl rfl ag83) rfl (.mv rfl rfl (.q (.ata 1 (.t rfl) rfl (.t rfl) Tryz.underlying83 ty82 (fun _ => by omega)) rfl (.asg rfl rfl (.n (.h (.s (.s ?_))))))))))); refine W.drawnE (ι := Unit) (fun _ _ => _) 13 () (by kernel_rfl) (by kernel_rfl) rfl ?_; refine DE.q (fun e c hk => (.move (.t rfl))) rfl (fun _ _ => rfl) (.inr fun _ _ => rfl) (.q (fun e c hk => (.nilca (.t rfl))) rfl (fun _ _ => rfl) (.inr fun _ _ => rfl) (.q (fun e c hk => (.faa (.t rfl) fa82_1)) rfl (fun _ _ => rfl) (.inr fun _ _ => rfl) (.q (fun e c hk_ => Ev.lda1 1 i 2 (.t rfl) rfl hgr (by omega) rfl rfl rfl ag4) rfl (fun _ _ => rfl) (.inr fun _ _ => rfl) (.q (fun e c hk => (.move (.t rfl))) rfl (fun _ _ => rfl) (.inr fun _ _ => rfl) (.qg rfl (fun _ => rfl) (fun e c hk => (.ldbn 0 (.t rfl) rfl ag81 ty81 rfl)) rfl (fun _ _ => rfl) (.inr fun _ _ => rfl) (.qg rfl (fun _ => rfl) (fun e c hk => (.move (.t rfl))) rfl (fun _ _ => rfl) (.inr fun _ _ => rfl) (.qg rfl (fun _ => rfl) (fun e c hk => (.nilca (.c rfl))) rfl (fun _ _ => rfl) (.inr fun _ _ => rfl) (.qg rfl (fun _ => rfl) (fun e c hk => (.faa (.c rfl) fa82_0)) rfl (fun _ _ => rfl) (.inr fun _ _ => rfl) ?_))))))))
 refine DE.qg rfl (fun _ => rfl) (fun e c hk_ => Ev.ldap (n := 2) 1 i 0 (.c rfl) rfl hgr (by omega) rfl rfl rfl ag81 ty81) rfl (fun _ _ => rfl) (.inr fun _ _ => rfl) ?_; refine DE.callg rfl (fun _ => rfl) (fun c hg => c_less d f cc.d cc.f) (fun c hg => ⟨(.i rfl (fun _ => hg)), (.i rfl (fun _ => hg)), trivial⟩) rfl (fun _ _ => rfl) (.inr fun _ _ => rfl) ?_; refine DE.qg rfl (fun _ => rfl) (fun e c hk => (.not (.c rfl))) rfl (fun _ _ => rfl) (.inr fun _ _ => rfl) ?_; refine DE.q (fun e c hk => (.and (.t rfl) ⟨_, _, rfl, rfl, by ((simp; done))⟩)) rfl (fun _ _ => rfl) (.inr fun _ _ => rfl) ?_; refine DE.nil (fun c_ e_ he_ => ?_)
 dsimp only
 refine W.h ?_; refine W.cond (.t rfl) (fun hc_t31 => ?_) (fun hc_t31 => ?_)
 ·have h31 : Fit.betB row i d f = false := by rw [hbb]; exact congrArg (!·) hc_t31
  refine W.s ?_; refine W.r ?_; refine W.q (.assign .k) rfl ?_; refine W.n ?_; refine W.h ?_; refine W.ret ?_; refine W.hr ?_; refine W.retn (M' := [.arr (.slice a n c) 82 3 (row.map Fit.ctv), .arr vr 83 1 es, .box p 86 [q0, q1, q2, q3, .lit vr]]) (D := [_]) (rs := [.tmp 8]) (avs := [_]) Tryz.results58 ⟨rfl, trivial⟩ rfl ((List.perm_middle (l₁ := [_])).trans <| List.Perm.cons _ <| (List.perm_middle (l₁ := [_])).trans <| List.Perm.cons _ <| (List.perm_middle (l₁ := [_])).trans <| List.Perm.cons _ <| List.Perm.cons _ <| .refl _) ?_
  rw [h31]
  exact ⟨rfl, by rw [← hbn h31]⟩
 ·have h31 : Fit.betB row i d f = true := by rw [hbb]; exact congrArg (!·) hc_t31
  refine W.k (.h (.s (.r (.mv rfl rfl (.mv rfl rfl (.q (.ldbn 0 (.t rfl) rfl ag81 ty81 rfl) rfl (.q (.nilca (.t rfl)) rfl (.q (.faa (.t rfl) fa82_0) rfl ?_)))))))); refine W.sta 1 i 0 (e := Fit.ctv cc) (e' := Fit.ctv ⟨d, f, cc.ok⟩) (.t rfl) (.t rfl) rfl hgr (by omega) ty81 rfl rfl rfl rfl rfl rfl rfl ?_; refine W.q (.nilca (.t rfl)) rfl (.q (.faa (.t rfl) fa82_1) rfl ?_)
  refine W.sta 1 i 2 (e := Fit.ctv ⟨d, f, cc.ok⟩) (e' := Fit.ctv ⟨d, f, true⟩) (.t rfl) .k rfl (hset _) (by omega) ty4 rfl rfl rfl rfl rfl rfl rfl ?_; refine W.n ?_; refine W.h ?_; refine W.s ?_; refine W.r ?_; refine W.q (.assign .k) rfl ?_; refine W.n ?_; refine W.h ?_; refine W.ret ?_; refine W.retn (M' := [.arr (.slice a n c) 82 3 (((row.map Fit.ctv).set i (Fit.ctv ⟨d, f, cc.ok⟩)).set i (Fit.ctv ⟨d, f, true⟩)), .arr vr 83 1 es, .box p 86 [q0, q1, q2, q3, .lit vr]]) (D := [_]) (rs := [.tmp 8]) (avs := [_]) Tryz.results58 ⟨rfl, trivial⟩ rfl ((List.perm_middle (l₁ := [_])).trans <| List.Perm.cons _ <| (List.perm_middle (l₁ := [_])).trans <| List.Perm.cons _ <| (List.perm_middle (l₁ := [_])).trans <| List.Perm.cons _ <| List.Perm.cons _ <| .refl _) ?_
  rw [h31]
  exact ⟨rfl, by rw [← hbm ⟨d, f, cc.ok⟩ h31]⟩
end WFSmall
end Go.Proofs.YtphlkdbglpcikaaGreatDoor
end
section
namespace Go.Proofs.YtphlkdbglpcikaaGreatDoor
open Go.Vl
open Y
namespace WFGoes
theorem int2 : Int2 Tryz.prog 81 := Int2.of Tryz.underlying81 (by kernel_rfl) (by kernel_rfl) (by decide) (by decide) rfl rfl Tryz.underlying3 Tryz.underlying3
theorem c_goes (p : Nat) (q0 q1 q2 q3 : AV) (rows : List (List Fit.Ct)) (st kid : Nat) (d f to : Int) (nk : Nat) (hnk : nk < rows.length) (hto : 0 ≤ to → to.toNat < (rows.getD nk []).length) (hkd : kid < rows.length) (hst : st < (rows.getD kid []).length) (hbd : 0 ≤ to → (Fit.cel rows nk to.toNat).ok = true → (-1099511627776 ≤ (Fit.cel rows nk to.toNat).d ∧ (Fit.cel rows nk to.toNat).d ≤ 1099511627776) ∧ (-1099511627776 ≤ (Fit.cel rows nk to.toNat).f ∧ (Fit.cel rows nk to.toNat).f ≤ 1099511627776)) (hdf : (-1099511627776 ≤ d ∧ d ≤ 1099511627776) ∧ (-1099511627776 ≤ f ∧ f ≤ 1099511627776)) : FnC Tryz.prog 62 [.lit (.pointer (some ⟨p, 0, none⟩)), .int (st : Int), .int (kid : Int), .agg [.int d, .int f], .int to, .int (nk : Int)] [.box p 86 [q0, q1, q2, q3, .sl 1 (rows.map Fit.rowv)]] (fun r M => r = .bool (Fit.goesB rows st kid d f to nk) ∧ M = [.box p 86 [q0, q1, q2, q3, .sl 1 (rows.map Fit.rowv)]]) :=  by
 refine FnC.mk Tryz.func62 (by kernel_rfl) rfl Tryz.ntmps62 rfl (fun w0 F => ?_)
 have hrl : (rows.map Fit.rowv).length = rows.length := List.length_map ..
 have hgn := getD_mapG Fit.rowv [] rows nk hnk
 have hgk := getD_mapG Fit.rowv [] rows kid hkd
 have hgs := Fit.getD_ctv (rows.getD kid []) st hst
 have hgt := fun h => Fit.getD_ctv (rows.getD nk []) to.toNat (hto h)
 have hl1 : ((rows.getD nk []).map Fit.ctv).length = (rows.getD nk []).length := List.length_map ..
 have hl2 : ((rows.getD kid []).map Fit.ctv).length = (rows.getD kid []).length := List.length_map ..
 change 0 ≤ to → _ = some (Fit.ctv (Fit.cel rows nk to.toNat)) at hgt
 change _ = some (Fit.ctv (Fit.cel rows kid st)) at hgs
 obtain ⟨ct, hct⟩ : ∃ c, Fit.cel rows nk to.toNat = c := ⟨_, rfl⟩
 obtain ⟨cs, hcs⟩ : ∃ c, Fit.cel rows kid st = c := ⟨_, rfl⟩
 rw [hct] at hgt hbd
 rw [hcs] at hgs
 refine W.s ?_; refine W.r ?_; refine W.box (.t rfl) rfl rfl ?_; intro b9; refine W.q (.assign .k) rfl ?_; refine W.n ?_; refine W.h ?_; refine W.s ?_; refine W.s ?_; refine W.r ?_; refine W.q (.move (.t rfl)) rfl ?_; refine W.q (.lti (.t rfl) .k) rfl ?_; refine W.q (.move (.t rfl)) rfl ?_; refine W.qgF rfl rfl (.move (.t rfl)) rfl ?_; refine W.qgF rfl rfl (.nilc (.c rfl)) rfl ?_
 refine W.qgF rfl rfl (.fab (.c rfl) fa86_3) rfl (.qgF rfl rfl (.ldb1 1 (.c rfl) rfl ag84 rfl) rfl (.qgF rfl rfl (.move (.t rfl)) rfl ?_)); refine W.qgF rfl rfl (.at (E := 83) (.c rfl) (.c rfl) Tryz.underlying84 ty83 (fun hg => ⟨by omega, hgn⟩) rfl rfl) rfl ?_; refine W.qgF rfl rfl (.lde1 (.c rfl) ag83) rfl (.qgF rfl rfl (.move (.t rfl)) rfl ?_); refine W.qgF rfl rfl (.at (E := 82) (.c rfl) (.c rfl) Tryz.underlying83 ty82 (fun hg => ⟨by simp at hg; have := hto (by omega); omega, hgt (by simp at hg; omega)⟩) rfl rfl) rfl ?_; refine W.qgF rfl rfl (.fae (.c rfl) fa82_1 rfl) rfl (.qgF rfl rfl (.lde1 (.c rfl) ag4) rfl ?_)
 refine W.qgF rfl rfl (.not (.c rfl)) rfl ?_; refine W.q (.or (.t rfl) ⟨_, _, rfl, rfl, by ((simp; done))⟩) rfl ?_; refine W.n ?_; refine W.h ?_; refine W.cond (.t rfl) (fun hc_t28 => ?_) (fun hc_t28 => ?_)
 ·have hgo : Fit.goesB rows st kid d f to nk = false := by unfold Fit.goesB; refine if_pos ?_; rw [hct]; simpa using hc_t28
  refine W.s (.r (.q (.assign .k) rfl (.n (.h ?_)))); refine W.ret ?_; refine W.hr ?_; refine W.retn (M' := [.box p 86 [q0, q1, q2, q3, .sl 1 (rows.map Fit.rowv)]]) (D := [_]) (rs := [.tmp 12]) (avs := [_]) Tryz.results62 ⟨rfl, trivial⟩ rfl (List.Perm.swap _ _ []) ?_
  rw [hgo]
  exact ⟨rfl, rfl⟩
 ·have hno : ¬ (to < 0 ∨ ct.ok = false) := by simpa using hc_t28
  have h0 : 0 ≤ to := by omega
  have hok : ct.ok = true := by cases h : ct.ok; exact absurd (.inr h) hno; rfl
  have hgo : Fit.goesB rows st kid d f to nk = (ct.d + d == cs.d && ct.f + f == cs.f) := by unfold Fit.goesB; rw [hct, hcs]; exact if_neg hno
  refine W.k (.h (.s ?_)); refine W.drawn (by kernel_rfl) (by kernel_rfl) ?_; refine DP.q (.move (.t rfl)) rfl (.q (.nilc (.t rfl)) rfl (.q (.fab (.t rfl) fa86_3) rfl (.q (.ldb1 1 (.t rfl) rfl ag84 rfl) rfl (.q (.move (.t rfl)) rfl ?_)))); refine DP.q (.at (E := 83) (.t rfl) (.t rfl) Tryz.underlying84 ty83 (fun hg => ⟨by omega, hgn⟩) rfl rfl) rfl ?_; refine DP.q (.lde1 (.t rfl) ag83) rfl (.q (.move (.t rfl)) rfl ?_); refine DP.q (.at (E := 82) (.t rfl) (.t rfl) Tryz.underlying83 ty82 (fun hg => ⟨by have := hto h0; omega, hgt h0⟩) rfl rfl) rfl ?_; refine DP.q (.fae (.t rfl) fa82_0 rfl) rfl (.q (.lden (.t rfl) ag81 ty81 rfl rfl) rfl (.q (.ldbn 0 (.t rfl) rfl ag81 ty81 rfl) rfl (.callp (WFSmall.c_plus ct.d ct.f d f ⟨(hbd h0 hok).1, (hbd h0 hok).2, hdf.1, hdf.2⟩) ⟨(.t rfl), (.t rfl), trivial⟩ rfl (.q (.move (.t rfl)) rfl (.q (.nilc (.t rfl)) rfl (.q (.fab (.t rfl) fa86_3) rfl (.q (.ldb1 1 (.t rfl) rfl ag84 rfl) rfl (.q (.move (.t rfl)) rfl ?_)))))))); refine DP.q (.at (E := 83) (.t rfl) (.t rfl) Tryz.underlying84 ty83 (fun hg => ⟨by omega, hgk⟩) rfl rfl) rfl ?_; refine DP.q (.lde1 (.t rfl) ag83) rfl (.q (.move (.t rfl)) rfl ?_); refine DP.q (.at (E := 82) (.t rfl) (.t rfl) Tryz.underlying83 ty82 (fun hg => ⟨by omega, hgs⟩) rfl rfl) rfl ?_; refine DP.q (.fae (.t rfl) fa82_0 rfl) rfl (.q (.lden (.t rfl) ag81 ty81 rfl rfl) rfl (.q (.eqi2 int2 (.t rfl) (.t rfl)) rfl (.q (.assign (.t rfl)) rfl (.nil (.h ?_))))); refine W.ret ?_; refine W.retn (M' := [.box p 86 [q0, q1, q2, q3, .sl 1 (rows.map Fit.rowv)]]) (D := [_]) (rs := [.tmp 12]) (avs := [_]) Tryz.results62 ⟨rfl, trivial⟩ rfl (List.Perm.swap _ _ []) ?_
  rw [hgo]
  exact ⟨rfl, rfl⟩
theorem c_filled (b : Nat) (ts : List Tp) (as_ : List Au) (sz : List Int) (A : Au) (hsh : A.Shape) (hn : A.next.length ≤ 32) (hz : Fit.Sz A sz) (hcol : ∀ i m, 0 ≤ Fit.tr A i m → m < sz.length) (p : Nat) (ks : List Nat) (hks : ks.length ≤ 64) (rows : List (List Fit.Ct)) (ho : Fit.Opt A sz ks rows) (st kid : Nat) (hst : st < A.next.length) (hkid : kid ≤ ks.length) : FnC Tryz.prog 63 [.lit (.pointer (some ⟨p, 0, none⟩)), .int (st : Int), .int (kid : Int)] [.box p 86 [.lit (.pointer (some ⟨b, 0, none⟩)), .sl 1 (A.next.map pav), .sl 1 (A.final.map AV.bool), .sl 1 (ks.map fun k : Nat => AV.int (k : Int)), .sl 1 (rows.map Fit.rowv)], .box b 76 [.sl 3 (ts.map tpv), .sl 2 (as_.map Au.avx), .sl 1 (sz.map AV.int)]] (fun r M => r = .int (Fit.fillI A sz rows st kid) ∧ M = [.box p 86 [.lit (.pointer (some ⟨b, 0, none⟩)), .sl 1 (A.next.map pav), .sl 1 (A.final.map AV.bool), .sl 1 (ks.map fun k : Nat => AV.int (k : Int)), .sl 1 (rows.map Fit.rowv)], .box b 76 [.sl 3 (ts.map tpv), .sl 2 (as_.map Au.avx), .sl 1 (sz.map AV.int)]]) :=  by
 refine FnC.mk Tryz.func63 (by kernel_rfl) rfl Tryz.ntmps63 rfl (fun w0 F => ?_)
 have hnl : (A.next.map pav).length = A.next.length := List.length_map ..
 have hgr := getD_mapG pav [] A.next st hst
 have hr8 := hsh.row st hst
 have htr : ∀ m, Fit.tr A st m = (A.next.getD st []).getD m (-1) := fun m => rfl
 generalize A.next.getD st [] = rw_ at hgr hr8 htr
 have hrl : (rw_.map AV.int).length = 8 := by rw [List.length_map]; exact hr8
 have hrowl := ho.row kid hkid
 have hrlen := ho.len
 refine W.s (.r (.q (.assign .k) rfl (.n (.h (.s (.s (.r (.mv rfl rfl (.q (.nilc (.t rfl)) rfl (.q (.fab (.t rfl) fa86_1) rfl (.q (.fab (.t rfl) fa62_0) rfl (.q (.ldb1 0 (.t rfl) rfl ag59 rfl) rfl (.mv rfl rfl ?_))))))))))))); refine W.q (.at (E := 22) (.t rfl) (.t rfl) Tryz.underlying59 ty22 (fun hg => ⟨by omega, hgr⟩) rfl rfl) rfl ?_; refine W.q (.lde1 (.t rfl) ag22) rfl (.q (.lensl (.t rfl) Tryz.underlying22) rfl (.q (.move .k) rfl (.n (.h (.b ?_))))); refine W.loop (D := []) (ι := Nat) (fun n => [(18, true, .int (n : Int)), (17, true, .int ((rw_.map AV.int).length : Int)), (16, true, .sl 1 (rw_.map AV.int)), (0, true, .lit (.pointer (some ⟨p, 0, none⟩))), (1, true, .int (st : Int)), (2, true, .int (kid : Int))]) (fun _ => [.box p 86 [.lit (.pointer (some ⟨b, 0, none⟩)), .sl 1 (A.next.map pav), .sl 1 (A.final.map AV.bool), .sl 1 (ks.map fun k : Nat => AV.int (k : Int)), .sl 1 (rows.map Fit.rowv)], .box b 76 [.sl 3 (ts.map tpv), .sl 2 (as_.map Au.avx), .sl 1 (sz.map AV.int)]]) (fun n => n ≤ 8 ∧ Sch.firstN (Fit.fillP A sz rows st kid) (8 - n) n = Sch.firstN (Fit.fillP A sz rows st kid) 8 0) (fun n => 8 - n) 0 ⟨rfl, rfl, rfl, rfl, rfl, rfl, trivial⟩ (.refl _) ⟨Nat.zero_le _, rfl⟩ ?_
 rintro n ⟨hn8, hfs⟩
 dsimp only at hn8 hfs ⊢
 obtain ⟨to, hto⟩ : ∃ z, Fit.tr A st n = z := ⟨_, rfl⟩
 have hgm0 : n < 8 → (rw_.map AV.int)[n]? = some (AV.int to) := fun h => by rw [List.getElem?_map, ← hto, htr, List.getD_eq_getElem?_getD, List.getElem?_eq_getElem (show n < rw_.length by omega)]; rfl
 have hstep : n < 8 → Sch.firstN (Fit.fillP A sz rows st kid) (8 - n) n = if Fit.fillP A sz rows st kid n = true then some n else Sch.firstN (Fit.fillP A sz rows st kid) (8 - (n + 1)) (n + 1) := fun h => by rw [show 8 - n = (8 - (n + 1)) + 1 from by omega]; rfl
 rcases (show (n < 8 ∧ to < 0) ∨ (n < 8 ∧ 0 ≤ to) ∨ n = 8 from by omega) with ⟨hlt, hneg⟩ | ⟨hlt, hpos⟩ | hend
 ·have hgm := hgm0 hlt
  have hP : ¬ Fit.fillP A sz rows st kid n = true := by intro h; have := (Fit.fillP_iff.1 h).1; rw [hto] at this; omega
  rw [hstep hlt, if_neg hP] at hfs
  refine W.s (.r (.q (.lti (.t rfl) (.t rfl)) rfl (.n (.h (.s ?_))))); refine W.isb 19 true rfl (by exact decide_eq_true (by omega)) ?_; refine W.condT (.t rfl) (.k (.h (.s (.b (.s (.r (.mv rfl rfl ?_))))))); refine W.q (.at (E := 3) (.t rfl) (.t rfl) Tryz.underlying22 ty3 (fun hg => ⟨by omega, hgm⟩) rfl rfl) rfl ?_; refine W.q (.lde1 (.t rfl) ag3) rfl (.asg rfl rfl (.asg rfl rfl (.n (.h (.s (.r (.mv rfl rfl (.q (.gei (.t rfl) .k) rfl (.mv rfl rfl ?_))))))))); refine W.is (t := 25) (av' := .bool false) rfl (congrArg AV.bool (decide_eq_false (by omega))) ?_; refine W.gnob rfl rfl (by simp) rfl ?_; refine W.gnob rfl rfl (by simp) rfl ?_; refine W.gnob rfl rfl (by simp) rfl ?_; refine W.gnob rfl rfl (by simp) rfl ?_; refine W.gnob rfl rfl (by simp) rfl ?_; refine W.gnob rfl rfl (by simp) rfl ?_; refine W.gnob rfl rfl (by simp) rfl ?_; refine W.gnob rfl rfl (by simp) rfl ?_; refine W.gnob rfl rfl (by simp) rfl ?_; refine W.gnob rfl rfl (by simp) rfl ?_; refine W.gnob rfl rfl (by simp) rfl ?_; refine W.gnob rfl rfl (by simp) rfl ?_; refine W.gnob rfl rfl (by simp) rfl ?_; refine W.q (.andF (.t rfl)) rfl (.n (.h (.condF (.t rfl) (.k (.bn (.h (.r (.q (.add (.t rfl) .k (fun _ => by omega)) rfl ?_))))))))
  refine W.q (.move (.t rfl)) rfl ?_; refine W.n ?_; refine W.h ?_; refine W.reach (D := []) (n + 1) ⟨rfl, rfl, rfl, rfl, rfl, rfl, trivial⟩ (.refl _) ⟨⟨hlt, hfs⟩, by show 8 - (n + 1) < 8 - n; omega⟩
 ·have hgm := hgm0 hlt
  have hml := hcol st n (by rw [hto]; exact hpos)
  have htl : to.toNat < A.next.length := by have := Fit.tr_lt hsh hst (n := n) (by rw [hto]; exact hpos); rw [hto] at this; exact this.1
  have hzh := hz.hi st n (by rw [hto]; exact hpos)
  have hzl := hz.lo st n (by rw [hto]; exact hpos)
  have hbo := ho.b kid hkid to.toNat htl
  rw [hstep hlt] at hfs
  have hPe : Fit.fillP A sz rows st kid n = Fit.goesB rows st kid 0 (sz.getD n 0) to kid := by unfold Fit.fillP; rw [hto, decide_eq_true hpos, Bool.true_and]
  have hG := c_goes p (.lit (.pointer (some ⟨b, 0, none⟩))) (.sl 1 (A.next.map pav)) (.sl 1 (A.final.map AV.bool)) (.sl 1 (ks.map fun k : Nat => AV.int (k : Int))) rows st kid 0 (sz.getD n 0) to kid (by omega) (fun _ => by omega) (by omega) (by omega) (fun _ h => by have := hbo h; have e : Fit.cel rows kid to.toNat = (rows.getD kid []).getD to.toNat Fit.cz := rfl; rw [e]; omega) (by omega)
  rw [← hPe] at hG
  refine W.s (.r (.q (.lti (.t rfl) (.t rfl)) rfl (.n (.h (.s ?_))))); refine W.isb 19 true rfl (by exact decide_eq_true (by omega)) ?_; refine W.condT (.t rfl) (.k (.h (.s (.b (.s (.r (.mv rfl rfl ?_))))))); refine W.q (.at (E := 3) (.t rfl) (.t rfl) Tryz.underlying22 ty3 (fun hg => ⟨by omega, hgm⟩) rfl rfl) rfl ?_; refine W.q (.lde1 (.t rfl) ag3) rfl (.asg rfl rfl (.asg rfl rfl (.n (.h (.s (.r (.mv rfl rfl (.q (.gei (.t rfl) .k) rfl (.mv rfl rfl ?_))))))))); refine W.is (t := 25) (av' := .bool true) rfl (congrArg AV.bool (decide_eq_true (by omega))) ?_; refine W.gyes rfl rfl (.mv rfl rfl (.gyes rfl rfl (.mv rfl rfl (.gyes rfl rfl (.mv rfl rfl (.gyes rfl rfl (.mv rfl rfl (.gyes rfl rfl (.q (.nilc (.t rfl)) rfl (.gyes rfl rfl (.q (.fab (.t rfl) fa86_0) rfl (.gyes rfl rfl (.q (.ldb1 0 (.t rfl) rfl ag71 rfl) rfl (.gyes rfl rfl (.mv rfl rfl (.gyes rfl rfl ?_)))))))))))))))); refine W.call (WFSmall.c_Size b ts as_ sz n hml) ⟨(.t rfl), (.t rfl), trivial⟩ ((List.Perm.swap _ _ [])) rfl ?_
  rintro _ _ ⟨rfl, rfl⟩
  refine W.perm (List.Perm.swap _ _ []) ?_; refine W.gyes rfl rfl (.q (.build ty81 st81 rfl (fun hg => ⟨_, _, _, rfl, .k, rfl, rfl, rfl, _, _, _, rfl, (.t rfl), rfl, rfl, rfl, rfl⟩)) rfl (.gyes rfl rfl (.mv rfl rfl (.gyes rfl rfl (.mv rfl rfl (.gyes rfl rfl ?_)))))); refine W.call (hG) ⟨(.t rfl), (.t rfl), (.t rfl), (.t rfl), (.t rfl), (.t rfl), trivial⟩ (.refl _) rfl ?_
  rintro _ _ ⟨rfl, rfl⟩
  refine W.q (.as_ (.and (.t rfl) ⟨_, _, rfl, rfl, fun _ _ => rfl⟩) (Eq.refl (AV.bool (Fit.fillP A sz rows st kid n)))) rfl ?_; refine W.n ?_; refine W.h ?_; refine W.cond (.t rfl) (fun hc_t39 => ?_) (fun hc_t39 => ?_)
  ·have hP : Fit.fillP A sz rows st kid n = true := hc_t39
   rw [if_pos hP] at hfs
   have hI : Fit.fillI A sz rows st kid = (n : Int) := by unfold Fit.fillI; rw [← hfs]
   refine W.s (.r (.mv rfl rfl (.asg rfl rfl (.n (.h ?_))))); refine W.ret ?_; refine W.br (.hr (.hr (.br (.hr ?_)))); refine W.retn (M' := [.box p 86 [.lit (.pointer (some ⟨b, 0, none⟩)), .sl 1 (A.next.map pav), .sl 1 (A.final.map AV.bool), .sl 1 (ks.map fun k : Nat => AV.int (k : Int)), .sl 1 (rows.map Fit.rowv)], .box b 76 [.sl 3 (ts.map tpv), .sl 2 (as_.map Au.avx), .sl 1 (sz.map AV.int)]]) (D := []) (rs := [.tmp 6]) (avs := [_]) Tryz.results63 ⟨rfl, trivial⟩ rfl (.refl _) ?_
   rw [hI]
   exact ⟨rfl, rfl⟩
  ·have hP : ¬ Fit.fillP A sz rows st kid n = true := by rw [show Fit.fillP A sz rows st kid n = false from hc_t39]; simp
   rw [if_neg hP] at hfs
   refine W.k (.bn (.h (.r (.q (.add (.t rfl) .k (fun _ => by omega)) rfl ?_))))
   refine W.q (.move (.t rfl)) rfl ?_; refine W.n ?_; refine W.h ?_; refine W.reach (D := []) (n + 1) ⟨rfl, rfl, rfl, rfl, rfl, rfl, trivial⟩ (.refl _) ⟨⟨hlt, hfs⟩, by show 8 - (n + 1) < 8 - n; omega⟩
 ·subst hend
  have hI : Fit.fillI A sz rows st kid = -1 := by unfold Fit.fillI; rw [← hfs]; rfl
  refine W.s (.r (.q (.lti (.t rfl) (.t rfl)) rfl (.n (.h (.s ?_))))); refine W.isb 19 false rfl (by exact decide_eq_false (by omega)) ?_; refine W.condF (.t rfl) (.ex (.he (.he (.bh (.h (.s (.r (.q (.assign .k) rfl (.n (.h ?_)))))))))); refine W.ret ?_; refine W.retn (M' := [.box p 86 [.lit (.pointer (some ⟨b, 0, none⟩)), .sl 1 (A.next.map pav), .sl 1 (A.final.map AV.bool), .sl 1 (ks.map fun k : Nat => AV.int (k : Int)), .sl 1 (rows.map Fit.rowv)], .box b 76 [.sl 3 (ts.map tpv), .sl 2 (as_.map Au.avx), .sl 1 (sz.map AV.int)]]) (D := []) (rs := [.tmp 6]) (avs := [_]) Tryz.results63 ⟨rfl, trivial⟩ rfl (.refl _) ?_
  rw [hI]
  exact ⟨rfl, rfl⟩
end WFGoes
end Go.Proofs.YtphlkdbglpcikaaGreatDoor
end
section
namespace Go.Proofs.YtphlkdbglpcikaaGreatDoor
open Go.Vl
open Y
namespace WFFill
set_option maxHeartbeats 4000000 in
theorem c_fill (b : Nat) (ts : List Tp) (as_ : List Au) (sz : List Int) (A : Au) (hsh : A.Shape) (hn : A.next.length ≤ 32) (hz : Fit.Sz A sz) (hcol : ∀ i m, 0 ≤ Fit.tr A i m → m < sz.length) (p : Nat) (q3 : AV) (sa : Option Addr) (sn sc : Nat) (vr : Value) (es : List AV) (k : Nat) (hk : es[k]? = some (.lit (.slice sa sn sc))) (ks : List Nat) (hks : ks.length ≤ 64) (FB : Int) (hF0 : 0 ≤ FB) (hF : FB ≤ 400000) (row : List Fit.Ct) (hri : Fit.RI A sz ks FB row) : FnC Tryz.prog 59 [.lit (.pointer (some ⟨p, 0, none⟩)), .int (k : Int)] [.arr (.slice sa sn sc) 82 3 (row.map Fit.ctv), .arr vr 83 1 es, .box p 86 [.lit (.pointer (some ⟨b, 0, none⟩)), .sl 1 (A.next.map pav), .sl 1 (A.final.map AV.bool), q3, .lit vr], .box b 76 [.sl 3 (ts.map tpv), .sl 2 (as_.map Au.avx), .sl 1 (sz.map AV.int)]] (fun r M => r = .tup [] ∧ ∃ row2, Fit.RI A sz ks FB row2 ∧ Fit.Fx A sz row2 ∧ (∀ j d f, (row.getD j Fit.cz).Le d f → (row2.getD j Fit.cz).Le d f) ∧ M = [.arr (.slice sa sn sc) 82 3 (row2.map Fit.ctv), .arr vr 83 1 es, .box p 86 [.lit (.pointer (some ⟨b, 0, none⟩)), .sl 1 (A.next.map pav), .sl 1 (A.final.map AV.bool), q3, .lit vr], .box b 76 [.sl 3 (ts.map tpv), .sl 2 (as_.map Au.avx), .sl 1 (sz.map AV.int)]]) :=  by
 refine FnC.mk Tryz.func59 (by kernel_rfl) rfl Tryz.ntmps59 rfl (fun w0 F => ?_)
 have hkr := hk
 have hkl : k < es.length := by
  rcases Nat.lt_or_ge k es.length with h | h
  ·exact h
  ·rw [List.getElem?_eq_none h] at hk; cases hk
 have hnl : (A.next.map pav).length = A.next.length := List.length_map ..
 refine W.s (.r (.q (.assign .k) rfl (.n (.h (.b ?_))))); refine W.loop (D := []) (ι := List Fit.Ct × Bool) (fun z => [(4, true, .bool z.2), (0, true, .lit (.pointer (some ⟨p, 0, none⟩))), (1, true, .int (k : Int))]) (fun z => [.arr (.slice sa sn sc) 82 3 (z.1.map Fit.ctv), .arr vr 83 1 es, .box p 86 [.lit (.pointer (some ⟨b, 0, none⟩)), .sl 1 (A.next.map pav), .sl 1 (A.final.map AV.bool), q3, .lit vr], .box b 76 [.sl 3 (ts.map tpv), .sl 2 (as_.map Au.avx), .sl 1 (sz.map AV.int)]]) (fun z => Fit.RI A sz ks FB z.1 ∧ (∀ j d f, (row.getD j Fit.cz).Le d f → (z.1.getD j Fit.cz).Le d f) ∧ (z.2 = false → Fit.Fx A sz z.1)) (fun z => if z.2 = true then Fit.meas ks.length z.1 + 1 else 0) (row, true) ⟨rfl, rfl, rfl, trivial⟩ (.refl _) ⟨hri, fun _ _ _ h => h, fun h => by cases h⟩ ?_
 rintro ⟨r0, mo0⟩ ⟨hr0, hmono0, hfx0⟩
 dsimp only at hr0 hmono0 hfx0 ⊢
 cases mo0
 ·have hFx := hfx0 rfl
  refine W.s (.s (.r (.mv rfl rfl (.n (.h (.condF (.t rfl) (.ex (.he (.he (.bh ?_)))))))))); refine W.endn (M' := [.arr (.slice sa sn sc) 82 3 (r0.map Fit.ctv), .arr vr 83 1 es, .box p 86 [.lit (.pointer (some ⟨b, 0, none⟩)), .sl 1 (A.next.map pav), .sl 1 (A.final.map AV.bool), q3, .lit vr], .box b 76 [.sl 3 (ts.map tpv), .sl 2 (as_.map Au.avx), .sl 1 (sz.map AV.int)]]) (D := []) (rs := []) (avs := []) Tryz.results59 trivial rfl (.refl _) ?_
  exact ⟨rfl, r0, hr0, hFx, hmono0, rfl⟩
 ·skip
  refine W.s (.s (.r (.mv rfl rfl (.n (.h (.condT (.t rfl) (.k (.h (.b (.s (.r (.q (.assign .k) rfl (.n (.h (.s (.r (.mv rfl rfl (.q (.nilc (.t rfl)) rfl (.q (.fab (.t rfl) fa86_1) rfl (.q (.fab (.t rfl) fa62_0) rfl (.q (.ldb1 2 (.t rfl) rfl ag59 rfl) rfl (.q (.lensl (.t rfl) Tryz.underlying59) rfl (.q (.move .k) rfl ?_))))))))))))))))))))))); refine W.n (.h (.b ?_)); refine W.loop (D := []) (ι := Nat × List Fit.Ct × Bool) (fun z => [(16, true, .int (z.1 : Int)), (15, true, .int ((A.next.map pav).length : Int)), (14, true, .sl 1 (A.next.map pav)), (4, true, .bool z.2.2), (0, true, .lit (.pointer (some ⟨p, 0, none⟩))), (1, true, .int (k : Int))]) (fun z => [.arr (.slice sa sn sc) 82 3 (z.2.1.map Fit.ctv), .arr vr 83 1 es, .box p 86 [.lit (.pointer (some ⟨b, 0, none⟩)), .sl 1 (A.next.map pav), .sl 1 (A.final.map AV.bool), q3, .lit vr], .box b 76 [.sl 3 (ts.map tpv), .sl 2 (as_.map Au.avx), .sl 1 (sz.map AV.int)]]) (fun z => z.1 ≤ A.next.length ∧ Fit.FI A sz ks FB r0 z.1 0 z.2.1 z.2.2) (fun z => A.next.length - z.1) (0, r0, false) ⟨rfl, rfl, rfl, rfl, rfl, rfl, trivial⟩ (.refl _) ⟨Nat.zero_le _, .start hr0⟩ ?_
  rintro ⟨i, r1, mo1⟩ ⟨hi, hFI1⟩
  dsimp only at hi hFI1 ⊢
  rcases (show i < A.next.length ∨ i = A.next.length from by omega) with hlt | hend
  ·have hgr := getD_mapG pav [] A.next i hlt
   have hr8 := hsh.row i hlt
   have htr : ∀ m, Fit.tr A i m = (A.next.getD i []).getD m (-1) := fun m => rfl
   generalize A.next.getD i [] = rw_ at hgr hr8 htr
   have hrl : (rw_.map AV.int).length = 8 := by rw [List.length_map]; exact hr8
   refine W.s (.r (.q (.lti (.t rfl) (.t rfl)) rfl (.n (.h (.s ?_))))); refine W.isb 17 true rfl (by exact decide_eq_true (by omega)) ?_; refine W.condT (.t rfl) (.k (.h (.s (.b (.s (.r (.mv rfl rfl ?_))))))); refine W.q (.at (E := 22) (.t rfl) (.t rfl) Tryz.underlying59 ty22 (fun hg => ⟨by omega, hgr⟩) rfl rfl) rfl ?_; refine W.q (.lde1 (.t rfl) ag22) rfl (.asg rfl rfl (.asg rfl rfl (.n (.h (.s (.r (.mv rfl rfl (.q (.lensl (.t rfl) Tryz.underlying22) rfl (.q (.move .k) rfl (.n (.h (.b ?_)))))))))))); refine W.loop (D := []) (ι := Nat × List Fit.Ct × Bool) (fun z => [(23, true, .int (z.1 : Int)), (22, true, .int ((rw_.map AV.int).length : Int)), (21, true, .sl 1 (rw_.map AV.int)), (5, true, .int (i : Int)), (16, true, .int (i : Int)), (15, true, .int ((A.next.map pav).length : Int)), (14, true, .sl 1 (A.next.map pav)), (4, true, .bool z.2.2), (0, true, .lit (.pointer (some ⟨p, 0, none⟩))), (1, true, .int (k : Int))]) (fun z => [.arr (.slice sa sn sc) 82 3 (z.2.1.map Fit.ctv), .arr vr 83 1 es, .box p 86 [.lit (.pointer (some ⟨b, 0, none⟩)), .sl 1 (A.next.map pav), .sl 1 (A.final.map AV.bool), q3, .lit vr], .box b 76 [.sl 3 (ts.map tpv), .sl 2 (as_.map Au.avx), .sl 1 (sz.map AV.int)]]) (fun z => z.1 ≤ 8 ∧ Fit.FI A sz ks FB r0 i z.1 z.2.1 z.2.2) (fun z => 8 - z.1) (0, r1, mo1) ⟨rfl, rfl, rfl, rfl, rfl, rfl, rfl, rfl, rfl, rfl, trivial⟩ (.refl _) ⟨Nat.zero_le _, hFI1⟩ ?_
   rintro ⟨m, r, mo⟩ ⟨hm, hFI⟩
   dsimp only at hm hFI ⊢
   have hrlen : r.length = A.next.length := hFI.ri.len
   have hcl : (r.map Fit.ctv).length = A.next.length := by rw [List.length_map, hrlen]
   obtain ⟨to, hto⟩ : ∃ z, Fit.tr A i m = z := ⟨_, rfl⟩
   have hgm : m < 8 → (rw_.map AV.int)[m]? = some (AV.int to) := fun h => by rw [List.getElem?_map, ← hto, htr, List.getD_eq_getElem?_getD, List.getElem?_eq_getElem (show m < rw_.length by omega)]; rfl
   have htl : 0 ≤ to → to.toNat < A.next.length := fun h => by have := Fit.tr_lt hsh hlt (n := m) (by rw [hto]; exact h); rw [hto] at this; exact this.1
   obtain ⟨cc, hcc⟩ : ∃ c, r.getD to.toNat Fit.cz = c := ⟨_, rfl⟩
   have hgt0 : 0 ≤ to → (r.map Fit.ctv)[to.toNat]? = some (Fit.ctv cc) := fun h => by rw [← hcc]; exact Fit.getD_ctv r _ (by rw [hrlen]; exact htl h)
   rcases (show (m < 8 ∧ to < 0) ∨ (m < 8 ∧ 0 ≤ to ∧ cc.ok = false) ∨ (m < 8 ∧ 0 ≤ to ∧ cc.ok = true) ∨ m = 8 from by cases cc.ok <;> simp <;> omega) with ⟨hlm, hneg⟩ | ⟨hlm, hpos, hok⟩ | ⟨hlm, hpos, hok⟩ | hend
   ·have hgm := hgm hlm
    refine W.s (.r (.q (.lti (.t rfl) (.t rfl)) rfl (.n (.h (.s ?_))))); refine W.isb 24 true rfl (by exact decide_eq_true (by omega)) ?_; refine W.condT (.t rfl) (.k (.h (.s (.b (.s (.r (.mv rfl rfl ?_))))))); refine W.q (.at (E := 3) (.t rfl) (.t rfl) Tryz.underlying22 ty3 (fun hg => ⟨by omega, hgm⟩) rfl rfl) rfl ?_; refine W.q (.lde1 (.t rfl) ag3) rfl (.asg rfl rfl (.asg rfl rfl (.n (.h (.s ?_))))); refine W.drawnE (ι := Unit) (fun _ _ => [.arr (.slice sa sn sc) 82 3 (r.map Fit.ctv), .arr vr 83 1 es, .box p 86 [.lit (.pointer (some ⟨b, 0, none⟩)), .sl 1 (A.next.map pav), .sl 1 (A.final.map AV.bool), q3, .lit vr], .box b 76 [.sl 3 (ts.map tpv), .sl 2 (as_.map Au.avx), .sl 1 (sz.map AV.int)]]) 40 () (by kernel_rfl) (by kernel_rfl) rfl ?_; refine DE.q (fun e c hk => (.move (.t rfl))) rfl (fun _ _ => rfl) (.inr fun _ _ => rfl) ?_; refine DE.q (av := fun _ => .bool false) (fun e c_ hk_ => Ev.as_ (.gei (.t rfl) .k) (congrArg AV.bool (by exact decide_eq_false (by omega)))) rfl (fun _ _ => rfl) (.inr fun _ _ => rfl) ?_; refine DE.q (fun e c hk => (.move (.t rfl))) rfl (fun _ _ => rfl) (.inr fun _ _ => rfl) (.skipg rfl (fun _ => rfl) rfl rfl (fun _ _ => rfl) (.skipg rfl (fun _ => rfl) rfl rfl (fun _ _ => rfl) (.skipg rfl (fun _ => rfl) rfl rfl (fun _ _ => rfl) (.skipg rfl (fun _ => rfl) rfl rfl (fun _ _ => rfl) (.skipg rfl (fun _ => rfl) rfl rfl (fun _ _ => rfl) (.skipg rfl (fun _ => rfl) rfl rfl (fun _ _ => rfl) (.skipg rfl (fun _ => rfl) rfl rfl (fun _ _ => rfl) (.skipg rfl (fun _ => rfl) rfl rfl (fun _ _ => rfl) (.skipg rfl (fun _ => rfl) rfl rfl (fun _ _ => rfl) (.skipg rfl (fun _ => rfl) rfl rfl (fun _ _ => rfl) (.skipg rfl (fun _ => rfl) rfl rfl (fun _ _ => rfl) (.q (fun e c_ hk_ => Ev.andF (.t rfl)) rfl (fun _ _ => rfl) (.inr fun _ _ => rfl) (.q (fun e c hk => (.move (.t rfl))) rfl (fun _ _ => rfl) (.inr fun _ _ => rfl) (.skipg rfl (fun _ => rfl) rfl rfl (fun _ _ => rfl) (.skipg rfl (fun _ => rfl) rfl rfl (fun _ _ => rfl) (.skipg rfl (fun _ => rfl) rfl rfl (fun _ _ => rfl) (.skipg rfl (fun _ => rfl) rfl rfl (fun _ _ => rfl) (.skipg rfl (fun _ => rfl) rfl rfl (fun _ _ => rfl) (.skipg rfl (fun _ => rfl) rfl rfl (fun _ _ => rfl) (.skipg rfl (fun _ => rfl) rfl rfl (fun _ _ => rfl) (.skipg rfl (fun _ => rfl) rfl rfl (fun _ _ => rfl) (.skipg rfl (fun _ => rfl) rfl rfl (fun _ _ => rfl) (.skipg rfl (fun _ => rfl) rfl rfl (fun _ _ => rfl) ?_))))))))))))))))))))))); refine DE.skipg rfl (fun _ => rfl) rfl rfl (fun _ _ => rfl) (.skipg rfl (fun _ => rfl) rfl rfl (fun _ _ => rfl) (.skipg rfl (fun _ => rfl) rfl rfl (fun _ _ => rfl) (.skipg rfl (fun _ => rfl) rfl rfl (fun _ _ => rfl) (.skipg rfl (fun _ => rfl) rfl rfl (fun _ _ => rfl) (.skipg rfl (fun _ => rfl) rfl rfl (fun _ _ => rfl) (.skipg rfl (fun _ => rfl) rfl rfl (fun _ _ => rfl) (.skipg rfl (fun _ => rfl) rfl rfl (fun _ _ => rfl) (.skipg rfl (fun _ => rfl) rfl rfl (fun _ _ => rfl) ?_))))))))
    refine DE.skipg rfl (fun _ => rfl) rfl rfl (fun _ _ => rfl) ?_; refine DE.skipg rfl (fun _ => rfl) rfl rfl (fun _ _ => rfl) ?_; refine DE.skipg rfl (fun _ => rfl) rfl rfl (fun _ _ => rfl) ?_; refine DE.skipg rfl (fun _ => rfl) rfl rfl (fun _ _ => rfl) ?_; refine DE.q (fun e c_ hk_ => Ev.andF (.t rfl)) rfl (fun _ _ => rfl) (.inr fun _ _ => rfl) ?_; refine DE.nil (fun c_ e_ he_ => ?_)
    dsimp only
    refine W.h (.condF (.t rfl) (.k (.bn (.h (.r (.q (.add (.t rfl) .k (fun _ => by omega)) rfl ?_))))))
    refine W.q (.move (.t rfl)) rfl ?_; refine W.n ?_; refine W.h ?_; refine W.reach (D := []) (m + 1, r, mo) ⟨rfl, rfl, rfl, rfl, rfl, rfl, rfl, rfl, rfl, rfl, trivial⟩ (.refl _) ⟨⟨by omega, hFI.skip (fun h0 => by rw [hto] at h0; omega)⟩, by show 8 - (m + 1) < 8 - m; omega⟩
   ·have hgm := hgm hlm
    have htl := htl hpos
    have hgt := hgt0 hpos
    refine W.s (.r (.q (.lti (.t rfl) (.t rfl)) rfl (.n (.h (.s ?_))))); refine W.isb 24 true rfl (by exact decide_eq_true (by omega)) ?_; refine W.condT (.t rfl) (.k (.h (.s (.b (.s (.r (.mv rfl rfl ?_))))))); refine W.q (.at (E := 3) (.t rfl) (.t rfl) Tryz.underlying22 ty3 (fun hg => ⟨by omega, hgm⟩) rfl rfl) rfl ?_; refine W.q (.lde1 (.t rfl) ag3) rfl (.asg rfl rfl (.asg rfl rfl (.n (.h (.s ?_))))); refine W.drawnE (ι := Unit) (fun _ _ => [.arr (.slice sa sn sc) 82 3 (r.map Fit.ctv), .arr vr 83 1 es, .box p 86 [.lit (.pointer (some ⟨b, 0, none⟩)), .sl 1 (A.next.map pav), .sl 1 (A.final.map AV.bool), q3, .lit vr], .box b 76 [.sl 3 (ts.map tpv), .sl 2 (as_.map Au.avx), .sl 1 (sz.map AV.int)]]) 40 () (by kernel_rfl) (by kernel_rfl) rfl ?_; refine DE.q (fun e c hk => (.move (.t rfl))) rfl (fun _ _ => rfl) (.inr fun _ _ => rfl) ?_; refine DE.q (av := fun _ => .bool true) (fun e c_ hk_ => Ev.as_ (.gei (.t rfl) .k) (congrArg AV.bool (by exact decide_eq_true (by omega)))) rfl (fun _ _ => rfl) (.inr fun _ _ => rfl) ?_; refine DE.q (fun e c hk => (.move (.t rfl))) rfl (fun _ _ => rfl) (.inr fun _ _ => rfl) (.qy rfl (fun _ => rfl) (fun e c hk => (.move (.t rfl))) rfl (fun _ _ => rfl) (.inr fun _ _ => rfl) (.qy rfl (fun _ => rfl) (fun e c hk => (.nilc (.t rfl))) rfl (fun _ _ => rfl) (.inr fun _ _ => rfl) (.qy rfl (fun _ => rfl) (fun e c hk => (.fab (.t rfl) fa86_3)) rfl (fun _ _ => rfl) (.inr fun _ _ => rfl) (.qy rfl (fun _ => rfl) (fun e c hk => (.ldb1 2 (.t rfl) rfl ag84 rfl)) rfl (fun _ _ => rfl) (.inr fun _ _ => rfl) (.qy rfl (fun _ => rfl) (fun e c hk => (.move (.t rfl))) rfl (fun _ _ => rfl) (.inr fun _ _ => rfl) (.qy rfl (fun _ => rfl) (fun e c_ hk_ => Ev.ata 1 (.t rfl) rfl (.t rfl) Tryz.underlying84 ty83 (fun _ => by omega)) rfl (fun _ _ => rfl) (.inr fun _ _ => rfl) (.qy rfl (fun _ => rfl) (fun e c_ hk_ => Ev.lda1 1 k 0 (.t rfl) rfl hk (by omega) rfl rfl rfl ag83) rfl (fun _ _ => rfl) (.inr fun _ _ => rfl) (.qy rfl (fun _ => rfl) (fun e c hk => (.move (.t rfl))) rfl (fun _ _ => rfl) (.inr fun _ _ => rfl) (.qy rfl (fun _ => rfl) (fun e c_ hk_ => Ev.ata 0 (.t rfl) rfl (.t rfl) Tryz.underlying83 ty82 (fun _ => by omega)) rfl (fun _ _ => rfl) (.inr fun _ _ => rfl) (.qy rfl (fun _ => rfl) (fun e c hk => (.faa (.t rfl) fa82_1)) rfl (fun _ _ => rfl) (.inr fun _ _ => rfl) ?_))))))))))
    refine DE.qy (av := fun _ => .bool false) rfl (fun _ => rfl) (fun e c_ hk_ => Ev.as_ (.lda1 0 to.toNat 2 (.t rfl) rfl hgt (by omega) rfl rfl rfl ag4) (congrArg AV.bool (by exact hok))) rfl (fun _ _ => rfl) (.inr fun _ _ => rfl) ?_; refine DE.q (av := fun _ => .bool false) (fun e c_ hk_ => Ev.as_ (.and (.t rfl) ⟨_, _, rfl, rfl, fun _ _ => rfl⟩) (congrArg AV.bool (by rfl))) rfl (fun _ _ => rfl) (.inr fun _ _ => rfl) ?_; refine DE.q (fun e c hk => (.move (.t rfl))) rfl (fun _ _ => rfl) (.inr fun _ _ => rfl) ?_; refine DE.skipg rfl (fun _ => rfl) rfl rfl (fun _ _ => rfl) ?_; refine DE.skipg rfl (fun _ => rfl) rfl rfl (fun _ _ => rfl) ?_; refine DE.skipg rfl (fun _ => rfl) rfl rfl (fun _ _ => rfl) ?_; refine DE.skipg rfl (fun _ => rfl) rfl rfl (fun _ _ => rfl) ?_; refine DE.skipg rfl (fun _ => rfl) rfl rfl (fun _ _ => rfl) ?_; refine DE.skipg rfl (fun _ => rfl) rfl rfl (fun _ _ => rfl) ?_; refine DE.skipg rfl (fun _ => rfl) rfl rfl (fun _ _ => rfl) ?_; refine DE.skipg rfl (fun _ => rfl) rfl rfl (fun _ _ => rfl) ?_; refine DE.skipg rfl (fun _ => rfl) rfl rfl (fun _ _ => rfl) ?_; refine DE.skipg rfl (fun _ => rfl) rfl rfl (fun _ _ => rfl) ?_; refine DE.skipg rfl (fun _ => rfl) rfl rfl (fun _ _ => rfl) ?_; refine DE.skipg rfl (fun _ => rfl) rfl rfl (fun _ _ => rfl) ?_; refine DE.skipg rfl (fun _ => rfl) rfl rfl (fun _ _ => rfl) ?_; refine DE.skipg rfl (fun _ => rfl) rfl rfl (fun _ _ => rfl) ?_; refine DE.skipg rfl (fun _ => rfl) rfl rfl (fun _ _ => rfl) ?_; refine DE.skipg rfl (fun _ => rfl) rfl rfl (fun _ _ => rfl) ?_; refine DE.skipg rfl (fun _ => rfl) rfl rfl (fun _ _ => rfl) ?_; refine DE.skipg rfl (fun _ => rfl) rfl rfl (fun _ _ => rfl) ?_; refine DE.skipg rfl (fun _ => rfl) rfl rfl (fun _ _ => rfl) ?_; refine DE.skipg rfl (fun _ => rfl) rfl rfl (fun _ _ => rfl) ?_; refine DE.skipg rfl (fun _ => rfl) rfl rfl (fun _ _ => rfl) ?_; refine DE.skipg rfl (fun _ => rfl) rfl rfl (fun _ _ => rfl) ?_; refine DE.skipg rfl (fun _ => rfl) rfl rfl (fun _ _ => rfl) ?_; refine DE.q (fun e c_ hk_ => Ev.andF (.t rfl)) rfl (fun _ _ => rfl) (.inr fun _ _ => rfl) ?_; refine DE.nil (fun c_ e_ he_ => ?_)
    dsimp only
    refine W.h (.condF (.t rfl) (.k (.bn (.h (.r (.q (.add (.t rfl) .k (fun _ => by omega)) rfl ?_))))))
    refine W.q (.move (.t rfl)) rfl ?_; refine W.n ?_; refine W.h ?_; refine W.reach (D := []) (m + 1, r, mo) ⟨rfl, rfl, rfl, rfl, rfl, rfl, rfl, rfl, rfl, rfl, trivial⟩ (.refl _) ⟨⟨by omega, hFI.skip (fun _ => by rw [hto, hcc]; exact hok)⟩, by show 8 - (m + 1) < 8 - m; omega⟩
   ·have hgm := hgm hlm
    have htl := htl hpos
    have hgt := hgt0 hpos
    have hbd := hFI.ri.bnd hz (by omega) to.toNat htl (by rw [hcc]; exact hok)
    rw [hcc] at hbd
    have hzh := hz.hi i m (by rw [hto]; exact hpos)
    have hzl := hz.lo i m (by rw [hto]; exact hpos)
    have hml := hcol i m (by rw [hto]; exact hpos)
    have hFB := hFI.bet hz hsh (by omega) hlt (by rw [hto]; exact hpos) (by rw [hto, hcc]; exact hok)
    rw [hto, hcc] at hFB
    have hplus : FnP Tryz.prog 60 [.agg [.int cc.d, .int cc.f], .agg [.int 0, .int (sz.getD m 0)]] (.agg [.int cc.d, .int (cc.f + sz.getD m 0)]) := by have := WFSmall.c_plus cc.d cc.f 0 (sz.getD m 0) ⟨⟨by omega, by omega⟩, ⟨by omega, by omega⟩, ⟨by omega, by omega⟩, by omega, by omega⟩; rwa [Int.add_zero] at this
    refine W.s (.r (.q (.lti (.t rfl) (.t rfl)) rfl (.n (.h (.s ?_))))); refine W.isb 24 true rfl (by exact decide_eq_true (by omega)) ?_; refine W.condT (.t rfl) (.k (.h (.s (.b (.s (.r (.mv rfl rfl ?_))))))); refine W.q (.at (E := 3) (.t rfl) (.t rfl) Tryz.underlying22 ty3 (fun hg => ⟨by omega, hgm⟩) rfl rfl) rfl ?_; refine W.q (.lde1 (.t rfl) ag3) rfl (.asg rfl rfl (.asg rfl rfl (.n (.h (.s ?_))))); refine W.drawnE (ι := Unit) (fun ee _ => [.arr (.slice sa sn sc) 82 3 (bif ee 38 then ((Fit.betR r i cc.d (cc.f + sz.getD m 0)).map Fit.ctv) else (r.map Fit.ctv)), .arr vr 83 1 es, .box p 86 [.lit (.pointer (some ⟨b, 0, none⟩)), .sl 1 (A.next.map pav), .sl 1 (A.final.map AV.bool), q3, .lit vr], .box b 76 [.sl 3 (ts.map tpv), .sl 2 (as_.map Au.avx), .sl 1 (sz.map AV.int)]]) 38 () (by kernel_rfl) (by kernel_rfl) rfl ?_; refine DE.q (fun e c hk => (.move (.t rfl))) rfl (fun _ _ => rfl) (.inr fun _ _ => rfl) ?_; refine DE.q (av := fun _ => .bool true) (fun e c_ hk_ => Ev.as_ (.gei (.t rfl) .k) (congrArg AV.bool (by exact decide_eq_true (by omega)))) rfl (fun _ _ => rfl) (.inr fun _ _ => rfl) ?_; refine DE.q (fun e c hk => (.move (.t rfl))) rfl (fun _ _ => rfl) (.inr fun _ _ => rfl) (.qy rfl (fun _ => rfl) (fun e c hk => (.move (.t rfl))) rfl (fun _ _ => rfl) (.inr fun _ _ => rfl) (.qy rfl (fun _ => rfl) (fun e c hk => (.nilc (.t rfl))) rfl (fun _ _ => rfl) (.inr fun _ _ => rfl) (.qy rfl (fun _ => rfl) (fun e c hk => (.fab (.t rfl) fa86_3)) rfl (fun _ _ => rfl) (.inr fun _ _ => rfl) (.qy rfl (fun _ => rfl) (fun e c hk => (.ldb1 2 (.t rfl) rfl ag84 rfl)) rfl (fun _ _ => rfl) (.inr fun _ _ => rfl) (.qy rfl (fun _ => rfl) (fun e c hk => (.move (.t rfl))) rfl (fun _ _ => rfl) (.inr fun _ _ => rfl) (.qy rfl (fun _ => rfl) (fun e c_ hk_ => Ev.ata 1 (.t rfl) rfl (.t rfl) Tryz.underlying84 ty83 (fun _ => by omega)) rfl (fun _ _ => rfl) (.inr fun _ _ => rfl) (.qy rfl (fun _ => rfl) (fun e c_ hk_ => Ev.lda1 1 k 0 (.t rfl) rfl hk (by omega) rfl rfl rfl ag83) rfl (fun _ _ => rfl) (.inr fun _ _ => rfl) (.qy rfl (fun _ => rfl) (fun e c hk => (.move (.t rfl))) rfl (fun _ _ => rfl) (.inr fun _ _ => rfl) ?_)))))))); refine DE.qy rfl (fun _ => rfl) (fun e c_ hk_ => by have h_ := hk_.down 38 (by kernel_rfl); simp only [h_, cond_false]; exact Ev.ata 0 (.t rfl) rfl (.t rfl) Tryz.underlying83 ty82 (fun _ => by omega)) rfl (fun _ _ => rfl) (.inr fun _ _ => rfl) ?_; refine DE.qy rfl (fun _ => rfl) (fun e c hk => (.faa (.t rfl) fa82_1)) rfl (fun _ _ => rfl) (.inr fun _ _ => rfl) ?_; refine DE.qy (av := fun _ => .bool true) rfl (fun _ => rfl) (fun e c_ hk_ => by have h_ := hk_.down 38 (by kernel_rfl); simp only [h_, cond_false]; exact Ev.as_ (.lda1 0 to.toNat 2 (.t rfl) rfl hgt (by omega) rfl rfl rfl ag4) (congrArg AV.bool hok)) rfl (fun _ _ => rfl) (.inr fun _ _ => rfl) ?_; refine DE.q (av := fun _ => .bool true) (fun e c_ hk_ => Ev.as_ (.and (.t rfl) ⟨_, _, rfl, rfl, fun _ _ => rfl⟩) (congrArg AV.bool (by rfl))) rfl (fun _ _ => rfl) (.inr fun _ _ => rfl) ?_; refine DE.q (fun e c hk => (.move (.t rfl))) rfl (fun _ _ => rfl) (.inr fun _ _ => rfl) (.qy rfl (fun _ => rfl) (fun e c hk => (.move (.t rfl))) rfl (fun _ _ => rfl) (.inr fun _ _ => rfl) (.qy rfl (fun _ => rfl) (fun e c hk => (.move (.t rfl))) rfl (fun _ _ => rfl) (.inr fun _ _ => rfl) (.qy rfl (fun _ => rfl) (fun e c hk => (.move (.t rfl))) rfl (fun _ _ => rfl) (.inr fun _ _ => rfl) (.qy rfl (fun _ => rfl) (fun e c hk => (.move (.t rfl))) rfl (fun _ _ => rfl) (.inr fun _ _ => rfl) (.qy rfl (fun _ => rfl) (fun e c hk => (.nilc (.t rfl))) rfl (fun _ _ => rfl) (.inr fun _ _ => rfl) (.qy rfl (fun _ => rfl) (fun e c hk => (.fab (.t rfl) fa86_3)) rfl (fun _ _ => rfl) (.inr fun _ _ => rfl) (.qy rfl (fun _ => rfl) (fun e c hk => (.ldb1 2 (.t rfl) rfl ag84 rfl)) rfl (fun _ _ => rfl) (.inr fun _ _ => rfl) (.qy rfl (fun _ => rfl) (fun e c hk => (.move (.t rfl))) rfl (fun _ _ => rfl) (.inr fun _ _ => rfl) (.qy rfl (fun _ => rfl) (fun e c_ hk_ => Ev.ata 1 (.t rfl) rfl (.t rfl) Tryz.underlying84 ty83 (fun _ => by omega)) rfl (fun _ _ => rfl) (.inr fun _ _ => rfl) (.qy rfl (fun _ => rfl) (fun e c_ hk_ => Ev.lda1 1 k 0 (.t rfl) rfl hk (by omega) rfl rfl rfl ag83) rfl (fun _ _ => rfl) (.inr fun _ _ => rfl) (.qy rfl (fun _ => rfl) (fun e c hk => (.move (.t rfl))) rfl (fun _ _ => rfl) (.inr fun _ _ => rfl) ?_))))))))))); refine DE.qy rfl (fun _ => rfl) (fun e c_ hk_ => by have h_ := hk_.down 38 (by kernel_rfl); simp only [h_, cond_false]; exact Ev.ata 0 (.t rfl) rfl (.t rfl) Tryz.underlying83 ty82 (fun _ => by omega)) rfl (fun _ _ => rfl) (.inr fun _ _ => rfl) ?_; refine DE.qy rfl (fun _ => rfl) (fun e c hk => (.faa (.t rfl) fa82_0)) rfl (fun _ _ => rfl) (.inr fun _ _ => rfl) ?_; refine DE.qy rfl (fun _ => rfl) (fun e c_ hk_ => by have h_ := hk_.down 38 (by kernel_rfl); simp only [h_, cond_false]; exact Ev.ldap (n := 2) 0 to.toNat 0 (.t rfl) rfl hgt (by omega) rfl rfl rfl ag81 ty81) rfl (fun _ _ => rfl) (.inr fun _ _ => rfl) ?_; refine DE.qy rfl (fun _ => rfl) (fun e c hk => (.move (.t rfl))) rfl (fun _ _ => rfl) (.inr fun _ _ => rfl) (.qy rfl (fun _ => rfl) (fun e c hk => (.nilc (.t rfl))) rfl (fun _ _ => rfl) (.inr fun _ _ => rfl) (.qy rfl (fun _ => rfl) (fun e c hk => (.fab (.t rfl) fa86_0)) rfl (fun _ _ => rfl) (.inr fun _ _ => rfl) ?_))
    refine DE.qy rfl (fun _ => rfl) (fun e c_ hk_ => Ev.ldb1 2 (.t rfl) rfl ag71 rfl) rfl (fun _ _ => rfl) (.inr fun _ _ => rfl) ?_; refine DE.qy rfl (fun _ => rfl) (fun e c hk => (.move (.t rfl))) rfl (fun _ _ => rfl) (.inr fun _ _ => rfl) ?_; refine DE.callmy rfl (fun _ => rfl) (fun c => WFSmall.c_Size b ts as_ sz m hml) (fun e c => ⟨_, (List.perm_append_comm (l₁ := [_, _, _]) (l₂ := [_]))⟩) (fun c => ⟨(.t rfl), (.t rfl), trivial⟩) rfl (fun _ _ => rfl) (.inr fun _ _ => rfl) ?_; refine DE.qy rfl (fun _ => rfl) (fun e c hk => (.build ty81 st81 rfl (fun hg => ⟨_, _, _, rfl, .k, rfl, rfl, rfl, _, _, _, rfl, (.t rfl), rfl, rfl, rfl, rfl⟩))) rfl (fun _ _ => rfl) (.inr fun _ _ => rfl) ?_; refine DE.cally rfl (fun _ => rfl) (fun c => hplus) (fun c => ⟨(.t rfl), (.t rfl), trivial⟩) rfl (fun _ _ => rfl) (.inr fun _ _ => rfl) ?_; refine DE.effcg (av := fun _ => .bool (Fit.betB r i cc.d (cc.f + sz.getD m 0))) rfl (fun _ => rfl) rfl (.inr fun _ _ => rfl) (fun e c hk L_ hs Q h => ?_) ?_
    ·have hk_38 := hk.not
     simp only [addE, hk_38, Nat.reduceAdd, Nat.reduceEqDiff, ↓reduceIte, cond_true, cond_false] at h ⊢
     refine W.call (WFSmall.c_better p (.lit (.pointer (some ⟨b, 0, none⟩))) (.sl 1 (A.next.map pav)) (.sl 1 (A.final.map AV.bool)) q3 sa sn sc vr es r i k cc.d (cc.f + sz.getD m 0) (by omega) hkr) ⟨(.t (hs _ _ rfl)), (.t (hs _ _ rfl)), (.t (hs _ _ rfl)), (.t (hs _ _ rfl)), trivial⟩ (.refl _) rfl ?_
     rintro _ _ ⟨rfl, rfl⟩
     exact h
    refine DE.q (av := fun _ => .bool (Fit.betB r i cc.d (cc.f + sz.getD m 0))) (fun e c_ hk_ => Ev.as_ (.and (.t rfl) ⟨_, _, rfl, rfl, fun _ _ => rfl⟩) (congrArg AV.bool (by rfl))) rfl (fun _ _ => rfl) (.inr fun _ _ => rfl) ?_; refine DE.nil (fun c_ e_ he_ => ?_)
    simp only [he_ 38 (by decide), cond_true, cond_false]
    refine W.h ?_; refine W.cond (.t rfl) (fun hc_t67 => ?_) (fun hc_t67 => ?_)
    ·have hb1 : Fit.betB r i cc.d (cc.f + sz.getD m 0) = true := hc_t67
     rw [hb1] at hFB
     refine W.r (.q (.assign .k) rfl (.n (.bn (.h (.r (.q (.add (.t rfl) .k (fun _ => by omega)) rfl ?_))))))
     refine W.q (.move (.t rfl)) rfl ?_; refine W.n ?_; refine W.h ?_; refine W.reach (D := []) (m + 1, Fit.betR r i cc.d (cc.f + sz.getD m 0), true) ⟨rfl, rfl, rfl, rfl, rfl, rfl, rfl, rfl, rfl, rfl, trivial⟩ (.refl _) ⟨⟨by omega, hFB⟩, by show 8 - (m + 1) < 8 - m; omega⟩
    ·have hb1 : Fit.betB r i cc.d (cc.f + sz.getD m 0) = false := hc_t67
     rw [hb1] at hFB
     refine W.k (.bn (.h (.r (.q (.add (.t rfl) .k (fun _ => by omega)) rfl ?_))))
     refine W.q (.move (.t rfl)) rfl ?_; refine W.n ?_; refine W.h ?_; refine W.reach (D := []) (m + 1, Fit.betR r i cc.d (cc.f + sz.getD m 0), mo) ⟨rfl, rfl, rfl, rfl, rfl, rfl, rfl, rfl, rfl, rfl, trivial⟩ (.refl _) ⟨⟨by omega, hFB⟩, by show 8 - (m + 1) < 8 - m; omega⟩
   ·subst hend
    refine W.s (.r (.q (.lti (.t rfl) (.t rfl)) rfl (.n (.h (.s ?_))))); refine W.isb 24 false rfl (by exact decide_eq_false (by omega)) ?_; refine W.condF (.t rfl) (.ex (.he (.he (.bh (.bn (.h (.r (.q (.add (.t rfl) .k (fun _ => by omega)) rfl ?_))))))))
    refine W.q (.move (.t rfl)) rfl ?_; refine W.n ?_; refine W.h ?_; refine W.reach (D := []) (i + 1, r, mo) ⟨rfl, rfl, rfl, rfl, rfl, rfl, trivial⟩ (.refl _) ⟨⟨hlt, hFI.row hsh⟩, by show A.next.length - (i + 1) < A.next.length - i; omega⟩
  ·subst hend
   refine W.s (.r (.q (.lti (.t rfl) (.t rfl)) rfl (.n (.h (.s ?_))))); refine W.isb 17 false rfl (by exact decide_eq_false (by omega)) ?_; refine W.condF (.t rfl) (.ex (.he (.he (.bh (.bn (.h ?_))))))
   have hm2 : ∀ j d f, (row.getD j Fit.cz).Le d f → (r1.getD j Fit.cz).Le d f := fun j d f h => hFI1.mono j d f (hmono0 j d f h)
   refine W.reach (D := []) (r1, mo1) ⟨rfl, rfl, rfl, trivial⟩ (.refl _) ⟨⟨hFI1.ri, hm2, fun e => by subst e; exact hFI1.fin.2⟩, ?_⟩
   show (if mo1 = true then Fit.meas ks.length r1 + 1 else 0) < (if true = true then Fit.meas ks.length r0 + 1 else 0)
   rw [if_pos rfl]
   split
   ·rename_i h; have := hFI1.yes h; omega
   ·omega
end WFFill
end Go.Proofs.YtphlkdbglpcikaaGreatDoor
end
