/-
  Merged: WSTree WFill WTypes SchT WCount LawT.
-/
import Derived.Test.YtphlkdbglpcikaaGreatDoorG11
import Derived.Lib.LaidTab
set_option linter.unusedVariables false
set_option linter.unusedSimpArgs false
set_option maxRecDepth 100000

section
namespace Go.Proofs.YtphlkdbglpcikaaGreatDoor
open Go.Vl
open Y
namespace WSTree
theorem c_TreeX (b : Nat) (ts : List Tp) (as_ : List Au) (sz : List Int) (hal : as_.length = ts.length) (hts : ts.length ≤ 100) (hsl : sz.length = ts.length) (hsh : ∀ A ∈ as_, A.Shape ∧ A.next.length ≤ 100 ∧ ∀ r ∈ A.next, ∀ k, k < 8 → 0 ≤ r.getD k (-1) → k < ts.length) (f : Nat) (t : Nat) (d0 : Nd) (hd : Sch.treeN ts as_ sz (f + 1) t = some d0) (IH : ∀ (k : Nat) (d : Nd), Sch.treeN ts as_ sz f k = some d → FnC Tryz.prog 56 [.lit (.pointer (some ⟨b, 0, none⟩)), .int ((k : Nat) : Int)] [.box b 76 [.sl 3 (ts.map tpv), .sl 2 (as_.map Au.avx), .sl 1 (sz.map AV.int)]] (fun r M => r = (d).av ∧ M = [.box b 76 [.sl 3 (ts.map tpv), .sl 2 (as_.map Au.avx), .sl 1 (sz.map AV.int)]])) : FnC Tryz.prog 56 [.lit (.pointer (some ⟨b, 0, none⟩)), .int ((t : Nat) : Int)] [.box b 76 [.sl 3 (ts.map tpv), .sl 2 (as_.map Au.avx), .sl 1 (sz.map AV.int)]] (fun r M => r = (d0).av ∧ M = [.box b 76 [.sl 3 (ts.map tpv), .sl 2 (as_.map Au.avx), .sl 1 (sz.map AV.int)]]) :=  by
 refine FnC.mk Tryz.func56 (by kernel_rfl) rfl Tryz.ntmps56 rfl (fun w0 F => ?_)
 have hnl : (ts.map tpv).length = ts.length := List.length_map ..
 have hasl : (as_.map Au.avx).length = as_.length := List.length_map ..
 have htl := Sch.treeN_lt hd
 have hgt := getD_mapG tpv Sch.dT ts t htl
 have hgA := getD_mapG Au.avx Sch.dA as_ t (by omega)
 have hAm := hsh _ (getD_memG Sch.dA as_ t (by omega))
 simp only [Sch.treeN] at hd
 rw [if_neg (by omega)] at hd
 obtain ⟨nm, hnm⟩ : ∃ n, (ts.getD t Sch.dT).name = n := ⟨_, rfl⟩
 rw [hnm] at hd
 generalize as_.getD t Sch.dA = A at hgA hAm hd
 generalize ts.getD t Sch.dT = tt at hgt hnm
 subst hnm
 refine W.s ?_; refine W.r ?_; refine W.alloc ty35 rfl rfl ?_; intro b4; refine W.n ?_; refine W.h ?_; refine W.s ?_; refine W.s ?_; refine W.r ?_; refine W.q (.move (.t rfl)) rfl ?_; refine W.q (.nilc (.t rfl)) rfl ?_
 refine W.q (.fab (.t rfl) fa76_0) rfl (.q (.ldb1 1 (.t rfl) rfl ag23 rfl) rfl (.mv rfl rfl ?_)); refine W.q (.at (E := 28) (.t rfl) (.t rfl) Tryz.underlying23 ty28 (fun hg => ⟨by omega, hgt⟩) rfl rfl) rfl ?_; refine W.q (.fae (.t rfl) fa28_0 rfl) rfl (.q (.lde1 (.t rfl) ag9) rfl ?_)
 refine W.q (.eqs (.t rfl) .k) rfl ?_; refine W.n ?_; refine W.h ?_; refine W.cond (.t rfl) (fun hc_t16 => ?_) (fun hc_t16 => ?_)
 ·have h0 : tt.name = [] := eq_of_beq hc_t16
  rw [if_pos h0] at hd
  obtain rfl := Option.some.inj hd
  refine W.s (.r (.q (.build ty35 st35 rfl (fun hg => ⟨_, _, _, rfl, .k, rfl, rfl, rfl, rfl⟩)) rfl ?_)); refine W.nils (t := 17) (g := true) (cs' := [.str [], .sl 2 [], .str [120], .sl 4 []]) rfl ⟨.inl rfl, .inr ⟨rfl, 2, rfl⟩, .inl rfl, .inr ⟨rfl, 4, rfl⟩, trivial⟩ ?_; refine W.stb 0 (.t rfl) (.t rfl) rfl ty35 rfl rfl rfl (.n (.h ?_)); refine W.ret ?_; refine W.hr ?_; refine W.retn (M' := [.box b 76 [.sl 3 (ts.map tpv), .sl 2 (as_.map Au.avx), .sl 1 (sz.map AV.int)]]) (D := _) (rs := [.cell 4 35]) (avs := [_]) Tryz.results56 ⟨⟨_, _, _, rfl, by repeat ((exact List.mem_cons_self)), rfl, by funext w; exact ag35.run w, by funext w; exact ty35.size w⟩, trivial⟩ rfl (by (exact List.Perm.swap _ _ [])) ?_
  (exact ⟨rfl, rfl⟩)
 ·have h0 : ¬ tt.name = [] := beq_eq_false_iff_ne.1 hc_t16
  rw [if_neg h0] at hd
  obtain ⟨w, hw⟩ : ∃ w, Sch.cheap sz A = some w := by
   cases h : Sch.cheap sz A with
   | none => rw [h] at hd; cases hd
   | some w => exact ⟨w, rfl⟩
  rw [hw] at hd
  dsimp only at hd
  obtain ⟨ps, hps⟩ : ∃ p, Sch.omap (fun (k : Int) => if k < 0 then none else Sch.treeN ts as_ sz f k.toNat) w = some p := by
   cases h : Sch.omap (fun (k : Int) => if k < 0 then none else Sch.treeN ts as_ sz f k.toNat) w with
   | none => rw [h] at hd; cases hd
   | some p => exact ⟨p, rfl⟩
  rw [hps] at hd
  obtain rfl := Option.some.inj hd
  have hpl := Sch.omap_len hps
  have hwl := Sch.cheap_len hw
  have hwm : (w.map AV.int).length = w.length := List.length_map ..
  obtain ⟨nm, hnm⟩ : ∃ n, tt.name = n := ⟨_, rfl⟩
  refine W.k (.h (.s (.r (.mv rfl rfl (.q (.nilc (.t rfl)) rfl (.q (.fab (.t rfl) fa76_0) rfl (.q (.ldb1 1 (.t rfl) rfl ag23 rfl) rfl (.mv rfl rfl ?_)))))))); refine W.q (.at (E := 28) (.t rfl) (.t rfl) Tryz.underlying23 ty28 (fun hg => ⟨by omega, hgt⟩) rfl rfl) rfl ?_; refine W.q (.fae (.t rfl) fa28_0 rfl) rfl (.q (.lde1 (.t rfl) ag9) rfl ?_)
  refine W.q (.build ty35 st35 rfl (fun hg => ⟨_, _, _, rfl, (.t rfl), rfl, rfl, rfl, rfl⟩)) rfl ?_; refine W.nils (t := 26) (g := true) (cs' := [.str tt.name, .sl 2 [], .lit (.string ⟨#[]⟩), .lit (.slice none 0 0)]) rfl ⟨.inl rfl, .inr ⟨rfl, 2, rfl⟩, .inl rfl, .inl rfl, trivial⟩ ?_; refine W.alloc ty35 rfl rfl ?_; intro b5
  refine W.stb 0 (.t rfl) (.t rfl) rfl ty35 rfl rfl rfl (.n (.h (.s (.s (.r (.mv rfl rfl (.mv rfl rfl (.q (.nilc (.t rfl)) rfl (.q (.fab (.t rfl) fa76_1) rfl (.q (.ldb1 2 (.t rfl) rfl ag74 rfl) rfl (.mv rfl rfl ?_))))))))))); refine W.q (.at (E := 62) (.t rfl) (.t rfl) Tryz.underlying74 ty62 (fun hg => ⟨by omega, hgA⟩) rfl rfl) rfl ?_; refine W.q (.lden (.t rfl) ag62 ty62 rfl rfl) rfl ?_
  refine W.call (WCheap.c_cheapest b ts as_ sz A hAm.1 hAm.2.1 (fun r hr k hk h => by rw [hsl]; exact hAm.2.2 r hr k hk h) w hw) ⟨(.t rfl), (.t rfl), trivial⟩ (((List.perm_middle (l₁ := [_, _])).trans <| List.Perm.cons _ <| List.Perm.cons _ <| List.Perm.cons _ <| .refl _)) rfl ?_
  rintro _ _ ⟨rfl, rfl⟩
  refine W.perm ((List.perm_middle (l₁ := [_])).trans <| List.Perm.cons _ <| (List.perm_middle (l₁ := [_])).trans <| List.Perm.cons _ <| List.Perm.cons _ <| .refl _) ?_
  refine W.q (.lensl (.t rfl) Tryz.underlying22) rfl (.q (.move .k) rfl (.n (.h (.b ?_))))
  rw [hnm]
  refine W.own_nil 35 4 ?_; refine W.loop (D := []) (ι := Nat × Value) (fun z => [(37, true, .int (z.1 : Int)), (36, true, .int ((w.map AV.int).length : Int)), (35, true, .sl 1 (w.map AV.int)), (0, true, .lit (.pointer (some ⟨b, 0, none⟩))), (5, true, .lit (.pointer (some ⟨b5, 0, none⟩))), (4, true, .lit (.pointer (some ⟨b4, 0, none⟩)))]) (fun z => .arr z.2 35 4 ((ps.take z.1).map Nd.av) :: .box b5 35 [.str nm, .sl 2 [], .lit (.string ⟨#[]⟩), .lit z.2] :: .box b4 35 [.lit (.string ⟨#[]⟩), .lit (.slice none 0 0), .lit (.string ⟨#[]⟩), .lit (.slice none 0 0)] :: [.box b 76 [.sl 3 (ts.map tpv), .sl 2 (as_.map Au.avx), .sl 1 (sz.map AV.int)]]) (fun z => z.1 ≤ w.length) (fun z => w.length - z.1) (0, .slice none 0 0) ⟨rfl, rfl, rfl, rfl, rfl, rfl, trivial⟩ (.refl _) (Nat.zero_le _) ?_
  rintro ⟨i, vp⟩ hi
  dsimp only at hi ⊢
  rcases (show i < w.length ∨ i = w.length from by omega) with hlt | hend
  ·have hgw := getD_map w i hlt
   have hoa := Sch.omap_at 0 Nd.dflt hps i hlt
   have htk := take_getDG Nd.dflt ps i (by omega)
   obtain ⟨d, hdd⟩ : ∃ d, ps.getD i Nd.dflt = d := ⟨_, rfl⟩
   rw [hdd] at hoa htk
   obtain ⟨kz, hkz⟩ : ∃ k, w.getD i 0 = k := ⟨_, rfl⟩
   rw [hkz] at hgw hoa
   have hk0 : ¬ kz < 0 := by intro h; rw [if_pos h] at hoa; cases hoa
   rw [if_neg hk0] at hoa
   have hIH := IH _ _ hoa
   rw [Nd.av_eq] at hIH
   rw [show ((kz.toNat : Nat) : Int) = kz from by omega] at hIH
   refine W.s (.r (.q (.lti (.t rfl) (.t rfl)) rfl (.n (.h (.s ?_))))); refine W.isb 38 true rfl (by exact decide_eq_true (by omega)) ?_; refine W.condT (.t rfl) (.k (.h (.s (.b (.s (.r ?_)))))); refine W.q (.at (E := 3) (.t rfl) (.t rfl) Tryz.underlying22 ty3 (fun hg => ⟨by omega, hgw⟩) rfl rfl) rfl ?_; refine W.q (.lde1 (.t rfl) ag3) rfl (.asg rfl rfl (.n (.h ?_))); refine W.drawnE (ι := Value) (fun ee c => (bif ee 6 then ME.arr c 35 4 (((ps.take i).map Nd.av) ++ [Nd.avx d]) else ME.arr vp 35 4 ((ps.take i).map Nd.av)) :: ME.box b5 35 [.str nm, .sl 2 [], .lit (.string ⟨#[]⟩), bif ee 8 then .lit c else .lit vp] :: .box b4 35 [.lit (.string ⟨#[]⟩), .lit (.slice none 0 0), .lit (.string ⟨#[]⟩), .lit (.slice none 0 0)] :: [.box b 76 [.sl 3 (ts.map tpv), .sl 2 (as_.map Au.avx), .sl 1 (sz.map AV.int)]]) 6 vp (by kernel_rfl) (by kernel_rfl) rfl ?_; refine DE.q (fun e c hk => (.fab (.t rfl) fa35_3)) rfl (fun _ _ => rfl) (.inr fun _ _ => rfl) ?_
   refine DE.q (av := fun _ => .lit vp) (fun e c hk => by have h := hk.down 8 (by kernel_rfl); simp only [h, cond_false]; exact Ev.ldb1 1 (.t rfl) rfl ag33 rfl) rfl (fun _ _ => rfl) (.inr fun _ _ => rfl) ?_; refine DE.q (fun e c hk => (.move (.t rfl))) rfl (fun _ _ => rfl) (.inr fun _ _ => rfl) ?_; refine DE.q (fun e c hk => (.move (.t rfl))) rfl (fun _ _ => rfl) (.inr fun _ _ => rfl) ?_; refine DE.callm (fun c => hIH) (fun e c => ⟨_, by exact (List.perm_append_comm (l₁ := [_, _, _]) (l₂ := [_]))⟩) (fun c => ⟨(.t rfl), (.t rfl), trivial⟩) rfl (fun _ _ => rfl) (.inr fun _ _ => rfl) ?_; refine DE.bs (es := fun _ => [_]) Tryz.underlying33 ty35 (fun c => ⟨rfl, (.t rfl), rfl, rfl, trivial⟩) (fun _ => rfl) (by decide) rfl rfl (fun _ _ => rfl) (.inr fun _ _ => rfl) ?_; refine DE.eff1 (av := fun v => .lit v) rfl rfl (fun e c hk L_ hs Q h => ?_) ?_
   ·have hk_6 := hk.not
    have hk_8 := hk.down 8 (by kernel_rfl)
    simp only [addE, hk_6, hk_8, Nat.reduceAdd, Nat.reduceEqDiff, ↓reduceIte, cond_true, cond_false] at h ⊢
    ((refine W.app 0 (.t (hs _ _ rfl)) rfl (.sl (.t (hs _ _ rfl)) (by intro e he; rw [List.mem_singleton.1 he]; rfl)) Tryz.underlying33 ni33 ty35 rfl rfl (by rw [List.length_map, List.length_take]; simp only [List.length_cons, List.length_nil]; omega) rfl ?_; exact h))
   refine DE.q (fun e c hk => (.fab (.t rfl) fa35_3)) rfl (fun _ _ => rfl) (.inr fun _ _ => rfl) ?_
   refine DE.eff0 (fun e c hk L_ hs Q h => ?_) ?_
   ·have hk_8 := hk.not
    have hk_6 := hk.up 6 (by kernel_rfl)
    simp only [addE, hk_8, hk_6, Nat.reduceAdd, Nat.reduceEqDiff, ↓reduceIte, cond_true, cond_false] at h ⊢
    refine W.arr_inv 0 rfl (fun a9 n9 c9 h9 => ?_)
    subst h9
    refine W.stb 1 (.t (hs _ _ rfl)) (.t (hs _ _ rfl)) rfl ty33 rfl rfl rfl ?_
    exact h
   refine DE.nil (fun v47 e_ he_ => ?_)
   simp only [he_ 6 (by decide), he_ 8 (by decide), cond_true, cond_false]
   refine W.bn (.h (.r (.q (.add (.t rfl) .k (fun _ => by omega)) rfl ?_)))
   refine W.q (.move (.t rfl)) rfl ?_; refine W.n ?_; refine W.h ?_; refine W.reach (D := []) (i + 1, v47) ⟨rfl, rfl, rfl, rfl, rfl, rfl, trivial⟩ ?_ ⟨hlt, by show w.length - (i + 1) < w.length - i; omega⟩
   dsimp only
   rw [htk, Nd.map_snoc]
   exact .refl _
  ·subst hend
   rw [List.take_of_length_le (by omega)]
   refine W.s (.r (.q (.lti (.t rfl) (.t rfl)) rfl (.n (.h (.s ?_))))); refine W.isb 38 false rfl (by exact decide_eq_false (by omega)) ?_; refine W.condF (.t rfl) (.ex (.he (.he (.bh (.h (.s (.r ?_))))))); refine W.freezeA (M1 := .box b5 35 [.str nm, .sl 2 [], .lit (.string ⟨#[]⟩), .lit vp] :: .box b4 35 [.lit (.string ⟨#[]⟩), .lit (.slice none 0 0), .lit (.string ⟨#[]⟩), .lit (.slice none 0 0)] :: [.box b 76 [.sl 3 (ts.map tpv), .sl 2 (as_.map Au.avx), .sl 1 (sz.map AV.int)]]) (M2 := .box b5 35 [.str nm, .sl 2 [], .lit (.string ⟨#[]⟩), .sl 4 (ps.map Nd.av)] :: .box b4 35 [.lit (.string ⟨#[]⟩), .lit (.slice none 0 0), .lit (.string ⟨#[]⟩), .lit (.slice none 0 0)] :: [.box b 76 [.sl 3 (ts.map tpv), .sl 2 (as_.map Au.avx), .sl 1 (sz.map AV.int)]]) (D := []) (v := vp) (L' := []) (.refl _) trivial ⟨.box ⟨.refl _, .refl _, .refl _, .hit, trivial⟩, FrzMs.refl _⟩ ?_; refine W.q (.ldbn 0 (.t rfl) rfl ag35 ty35 rfl) rfl (.stb 1 (.t rfl) (.t rfl) rfl ty35 rfl rfl rfl (.n (.h ?_))); refine W.ret ?_; refine W.retn (M' := [.box b 76 [.sl 3 (ts.map tpv), .sl 2 (as_.map Au.avx), .sl 1 (sz.map AV.int)]]) (D := _) (rs := [.cell 4 35]) (avs := [_]) Tryz.results56 ⟨⟨_, _, _, rfl, by repeat (first | exact List.mem_cons_self | apply List.mem_cons_of_mem), rfl, by funext w; exact ag35.run w, by funext w; exact ty35.size w⟩, trivial⟩ rfl (by (exact (List.perm_append_comm (l₁ := [_, _]) (l₂ := [_])))) ?_
   (exact ⟨by rw [Nd.av, Nd.avs_map]; rfl, rfl⟩)
theorem c_Tree (b : Nat) (ts : List Tp) (as_ : List Au) (sz : List Int) (hal : as_.length = ts.length) (hts : ts.length ≤ 100) (hsl : sz.length = ts.length) (hsh : ∀ A ∈ as_, A.Shape ∧ A.next.length ≤ 100 ∧ ∀ r ∈ A.next, ∀ k, k < 8 → 0 ≤ r.getD k (-1) → k < ts.length) : ∀ (f t : Nat) (d : Nd), Sch.treeN ts as_ sz f t = some d → FnC Tryz.prog 56 [.lit (.pointer (some ⟨b, 0, none⟩)), .int ((t : Nat) : Int)] [.box b 76 [.sl 3 (ts.map tpv), .sl 2 (as_.map Au.avx), .sl 1 (sz.map AV.int)]] (fun r M => r = (d).av ∧ M = [.box b 76 [.sl 3 (ts.map tpv), .sl 2 (as_.map Au.avx), .sl 1 (sz.map AV.int)]])
 | 0, _, _, h => by cases h
 | f + 1, t, d, h => c_TreeX b ts as_ sz hal hts hsl hsh f t d h (c_Tree b ts as_ sz hal hts hsl hsh f)
end WSTree
end Go.Proofs.YtphlkdbglpcikaaGreatDoor
end
section
namespace Go.Proofs.YtphlkdbglpcikaaGreatDoor
open Go.Vl
open Y
namespace WFill
theorem c_Sizes (ts : List Tp) (as_ : List Au) (hg : Sch.Good ts as_) (fin : List Int) (hfin : Sch.sizesOf ts as_ = some fin) (hall : (fin.any fun n => n == 0 || decide (150 < n)) = false) (M0 : List ME) (hI : ∀ n : Int, -1 ≤ n → n < 100 → FnC Tryz.prog 107 [.int n] M0 (fun r M => r = .str (itoa n) ∧ M = M0)) : FnC Tryz.prog 14 [.sl 3 (ts.map tpv)] M0 (fun r M => r = .tup [.sl 1 (fin.map AV.int), .int 0] ∧ M = M0) :=  by
 refine FnC.mk Tryz.func14 (by kernel_rfl) rfl Tryz.ntmps14 rfl (fun w0 F => ?_)
 refine W.s (.r (.q (.assign .k) rfl (.q (.assign .k) rfl (.n (.h (.s (.r (.mv rfl rfl ?_)))))))); refine W.call (WNew.c_New ts as_ hg fin hfin hall M0 hI) ⟨(.t rfl), trivial⟩ ((List.Perm.of_eq (List.append_nil M0).symm)) rfl ?_
 rintro _ M' ⟨b9, rfl, hM'⟩
 rw [hM']
 refine W.mv rfl rfl (.q (.extract (.t rfl) rfl) rfl (.q (.extract (.t rfl) rfl) rfl (.asg rfl rfl (.asg rfl rfl (.n (.h (.s (.s (.r (.mv rfl rfl (.q (.nei (.t rfl) .k) rfl (.n (.h (.isb 12 false rfl (by rfl) (.condF (.t rfl) (.k (.h (.s (.r (.mv rfl rfl (.q (.nilc (.t rfl)) rfl (.q (.fab (.t rfl) fa76_2) rfl (.q (.ldb1 0 (.t rfl) rfl ag22 rfl) rfl ?_))))))))))))))))))))))); refine W.asg rfl rfl (.q (.assign .k) rfl (.n (.h ?_))); refine W.ret ?_; refine W.retn (M' := M0) (D := [.box b9 76 [.sl 3 (ts.map tpv), .sl 2 (as_.map Au.avx), .sl 1 (fin.map AV.int)]]) (rs := [.tmp 2, .tmp 3]) (avs := [_, _]) Tryz.results14 ⟨rfl, rfl, trivial⟩ rfl (by rw [List.append_nil]; exact List.perm_append_comm (l₁ := [_])) ?_
 exact ⟨rfl, rfl⟩
theorem c_Fill (ts : List Tp) (as_ : List Au) (hg : Sch.Good ts as_) (fin : List Int) (hfin : Sch.sizesOf ts as_ = some fin) (hall : (fin.any fun n => n == 0 || decide (150 < n)) = false) (f t : Nat) (d : Nd) (hd : Sch.treeN ts as_ fin f t = some d) (M0 : List ME) (hI : ∀ n : Int, -1 ≤ n → n < 100 → FnC Tryz.prog 107 [.int n] M0 (fun r M => r = .str (itoa n) ∧ M = M0)) : FnC Tryz.prog 31 [.sl 3 (ts.map tpv), .int (t : Int)] M0 (fun r M => r = .tup [d.av, .int 0] ∧ M = M0) :=  by
 refine FnC.mk Tryz.func31 (by kernel_rfl) rfl Tryz.ntmps31 rfl (fun w0 F => ?_)
 have hnl : (ts.map tpv).length = ts.length := List.length_map ..
 have hsl : fin.length = ts.length := by
  have := Sch.mso_len 10 _ _ hfin
  rwa [List.length_replicate] at this
 have htl := Sch.treeN_lt hd
 have hte : ∀ b, FnC Tryz.prog 56 [.lit (.pointer (some ⟨b, 0, none⟩)), .int (t : Int)] [.box b 76 [.sl 3 (ts.map tpv), .sl 2 (as_.map Au.avx), .sl 1 (fin.map AV.int)]] (fun r M => r = Nd.avx d ∧ M = [.box b 76 [.sl 3 (ts.map tpv), .sl 2 (as_.map Au.avx), .sl 1 (fin.map AV.int)]]) := fun b => by
  have h := WSTree.c_Tree b ts as_ fin hg.has (by have := hg.len; omega) hsl hg.sh f t d hd
  rwa [Nd.av_eq] at h
 refine W.s ?_; refine W.r ?_; refine W.alloc ty35 rfl rfl ?_; intro b4; refine W.q (.assign .k) rfl ?_; refine W.n ?_; refine W.h ?_; refine W.s ?_; refine W.r ?_; refine W.q (.move (.t rfl)) rfl ?_; refine W.call (WNew.c_New ts as_ hg fin hfin hall M0 hI) ⟨(.t rfl), trivial⟩ ((List.perm_append_comm (l₁ := [_]))) rfl ?_
 rintro _ M' ⟨b9, rfl, hM'⟩
 rw [hM']
 refine W.perm (M' := .box b9 76 [.sl 3 (ts.map tpv), .sl 2 (as_.map Au.avx), .sl 1 (fin.map AV.int)] :: .box b4 35 [.lit (.string ⟨#[]⟩), .lit (.slice none 0 0), .lit (.string ⟨#[]⟩), .lit (.slice none 0 0)] :: M0) (List.Perm.cons _ (List.perm_append_comm (l₂ := [_]))) ?_; refine W.mv rfl rfl (.q (.extract (.t rfl) rfl) rfl (.q (.extract (.t rfl) rfl) rfl (.asg rfl rfl (.asg rfl rfl (.n (.h (.s (.b (.s (.r (.mv rfl rfl (.q (.nei (.t rfl) .k) rfl (.asg rfl rfl (.n (.h (.isb 13 false rfl (by rfl) (.condF (.t rfl) (.s (.r (.mv rfl rfl (.q (.lti (.t rfl) .k) rfl (.mv rfl rfl (.qgF rfl rfl (.move (.t rfl)) rfl ?_))))))))))))))))))))))); refine W.qgF rfl rfl (.move (.t rfl)) rfl (.qgF rfl rfl (.lensl (.c rfl) Tryz.underlying23) rfl (.qgF rfl rfl (.gei (.c rfl) (.c rfl)) rfl ?_)); refine W.q (.or (.t rfl) ⟨_, _, rfl, rfl, by ((simp; done))⟩) rfl ?_; refine W.asg rfl rfl (.n (.h ?_)); refine W.isb 18 false rfl (by simp; omega) ?_; refine W.condF (.t rfl) (.k (.bn (.h (.s (.r (.mv rfl rfl (.mv rfl rfl ?_))))))); refine W.call (hte b9) ⟨(.t rfl), (.t rfl), trivial⟩ ((List.Perm.refl _)) rfl ?_
 rintro _ _ ⟨rfl, rfl⟩
 refine W.stb 1 (.t rfl) (.t rfl) rfl ty35 rfl rfl rfl (.q (.assign .k) rfl (.n (.h ?_))); refine W.ret ?_; refine W.retn (M' := M0) (D := _) (rs := [.cell 4 35, .tmp 5]) (avs := [_, _]) Tryz.results31 ⟨⟨_, _, _, rfl, by repeat (first | exact List.mem_cons_self | apply List.mem_cons_of_mem), rfl, by funext w; exact ag35.run w, by funext w; exact ty35.size w⟩, rfl, trivial⟩ rfl (List.perm_append_comm (l₁ := [_, _])) ?_
 exact ⟨by rw [Nd.av_eq]; rfl, rfl⟩
theorem treeN_name {ts : List Tp} {as_ : List Au} {sz : List Int} : ∀ {f t : Nat} {d : Nd}, Sch.treeN ts as_ sz f t = some d → d.name = (ts.getD t Sch.dT).name
 | 0, t, d, h => by cases h
 | f + 1, t, d, h => by
  simp only [Sch.treeN] at h
  split at h
  ·cases h
  ·split at h
   ·rename_i h1; rw [← Option.some.inj h]; exact h1.symm
   ·split at h
    ·cases h
    ·split at h
     ·cases h
     ·rw [← Option.some.inj h]; rfl
theorem c_filled (ts : List Tp) (as_ : List Au) (hg : Sch.Good ts as_) (fin : List Int) (hfin : Sch.sizesOf ts as_ = some fin) (hall : (fin.any fun n => n == 0 || decide (150 < n)) = false) (f t : Nat) (d : Nd) (hd : Sch.treeN ts as_ fin f t = some d) (M0 : List ME) (hI : ∀ n : Int, -1 ≤ n → n < 100 → FnC Tryz.prog 107 [.int n] M0 (fun r M => r = .str (itoa n) ∧ M = M0)) : FnC Tryz.prog 15 [.sl 3 (ts.map tpv), .int (t : Int)] M0 (fun r M => r = .tup [d.av, .bool true] ∧ M = M0) :=  by
 refine FnC.mk Tryz.func15 (by kernel_rfl) rfl Tryz.ntmps15 rfl (fun w0 F => ?_)
 have hnl : (ts.map tpv).length = ts.length := List.length_map ..
 have hsl : fin.length = ts.length := by
  have := Sch.mso_len 10 _ _ hfin
  rwa [List.length_replicate] at this
 have htl := Sch.treeN_lt hd
 have hlen8 := hg.len
 have hgt := getD_mapG tpv Sch.dT ts t htl
 have hnm := treeN_name hd
 have hF := c_Fill ts as_ hg fin hfin hall f t d hd M0 hI
 rw [Nd.av_eq] at hF
 refine W.s ?_; refine W.r ?_; refine W.alloc ty35 rfl rfl ?_; intro b4; refine W.q (.assign .k) rfl ?_; refine W.n ?_; refine W.h ?_; refine W.s ?_; refine W.r ?_; refine W.q (.move (.t rfl)) rfl ?_
 refine W.app0 .k (.sl (.t rfl) (by intro e he; obtain ⟨t_, _, rfl⟩ := List.mem_map.1 he; rfl)) Tryz.underlying23 ni23 ty28 rfl rfl (by rw [List.length_map]; omega) rfl ?_; refine W.mv rfl rfl ?_; refine W.call (hF) ⟨(.t rfl), (.t rfl), trivial⟩ ((List.perm_append_comm (l₁ := [_]))) rfl ?_
 rintro _ M' ⟨rfl, hM'⟩
 rw [hM']
 refine W.perm (List.perm_append_comm (l₂ := [_])) ?_; refine W.q (.move (.t rfl)) rfl ?_; refine W.q (.extract (.t rfl) rfl) rfl ?_; refine W.q (.extract (.t rfl) rfl) rfl ?_; refine W.alloc ty35 rfl rfl ?_; intro b6
 refine W.stb 0 (.t rfl) (.t rfl) rfl ty35 rfl rfl rfl (.asg rfl rfl (.n (.h (.s ?_)))); refine W.drawnE (ι := Unit) (fun ee _ => .box b6 35 (Nd.avx d).cells :: .box b4 35 (bif ee 13 then (Nd.avx d).cells else [.lit (.string ⟨#[]⟩), .lit (.slice none 0 0), .lit (.string ⟨#[]⟩), .lit (.slice none 0 0)]) :: M0) 15 () (by kernel_rfl) (by kernel_rfl) rfl ?_; refine DE.q (fun e c hk => (.ldbn 0 (.t rfl) rfl ag35 ty35 rfl)) rfl (fun _ _ => rfl) (.inr fun _ _ => rfl) (.q (fun e c hk => (.move (.t rfl))) rfl (fun _ _ => rfl) (.inr fun _ _ => rfl) (.q (fun e c hk => (.eqi (.t rfl) .k)) rfl (fun _ _ => rfl) (.inr fun _ _ => rfl) (.q (fun e c hk => (.move (.t rfl))) rfl (fun _ _ => rfl) (.inr fun _ _ => rfl) (.qg rfl (fun _ => rfl) (fun e c hk => (.fab (.t rfl) fa35_0)) rfl (fun _ _ => rfl) (.inr fun _ _ => rfl) (.qg rfl (fun _ => rfl) (fun e c hk => (.ldb1 0 (.c rfl) rfl ag9 rfl)) rfl (fun _ _ => rfl) (.inr fun _ _ => rfl) (.qg rfl (fun _ => rfl) (fun e c hk => (.move (.t rfl))) rfl (fun _ _ => rfl) (.inr fun _ _ => rfl) (.qg rfl (fun _ => rfl) (fun e c hk => (.move (.t rfl))) rfl (fun _ _ => rfl) (.inr fun _ _ => rfl) ?_))))))); refine DE.qg rfl (fun _ => rfl) (fun e c hk => Ev.at (E := 28) (.c rfl) (.c rfl) Tryz.underlying23 ty28 (fun _ => ⟨by omega, hgt⟩) rfl rfl) rfl (fun _ _ => rfl) (.inr fun _ _ => rfl) ?_; refine DE.qg rfl (fun _ => rfl) (fun e c hk => (.fae (.c rfl) fa28_0 rfl)) rfl (fun _ _ => rfl) (.inr fun _ _ => rfl) (.qg rfl (fun _ => rfl) (fun e c hk => (.lde1 (.c rfl) ag9)) rfl (fun _ _ => rfl) (.inr fun _ _ => rfl) ?_)
 refine DE.qg rfl (fun _ => rfl) (fun e c hk => (.eqs (.c rfl) (.c rfl))) rfl (fun _ _ => rfl) (.inr fun _ _ => rfl) ?_; refine DE.q (fun e c hk => (.and (.t rfl) ⟨_, _, rfl, rfl, by ((simp; done))⟩)) rfl (fun _ _ => rfl) (.inr fun _ _ => rfl) ?_; refine DE.eff0 (fun e c hk L_ hs Q h => ?_) ?_
 ·have hk_13 := hk.not
  simp only [addE, hk_13, Nat.reduceAdd, Nat.reduceEqDiff, ↓reduceIte, cond_true, cond_false] at h ⊢
  ((refine W.stb 1 (.t (hs _ _ rfl)) (.t (hs _ _ rfl)) rfl ty35 rfl rfl rfl ?_; exact h))
 refine DE.q (fun e c hk => (.assign (.t rfl))) rfl (fun _ _ => rfl) (.inr fun _ _ => rfl) ?_; refine DE.nil (fun c_ e_ he_ => ?_)
 simp only [he_ 13 (by decide), cond_true, cond_false]
 refine W.h ?_; refine W.ret ?_; refine W.retn (M' := M0) (D := _) (rs := [.cell 4 35, .tmp 5]) (avs := [_, _]) Tryz.results15 ⟨⟨_, _, _, rfl, by repeat (first | exact List.mem_cons_self | apply List.mem_cons_of_mem), rfl, by funext w; exact ag35.run w, by funext w; exact ty35.size w⟩, rfl, trivial⟩ rfl (List.perm_append_comm (l₁ := [_, _])) ?_
 exact ⟨by rw [Nd.av_eq]; show AV.tup [Nd.avx d, AV.bool _] = _; rw [hnm]; simp, rfl⟩
end WFill
end Go.Proofs.YtphlkdbglpcikaaGreatDoor
end
section
namespace Go.Proofs.YtphlkdbglpcikaaGreatDoor
open Go.Vl
open Y
namespace WTypes
theorem pk_lt (l : List Int) (i n : Nat) (hn : 0 < n) : Sch.pk l i n < n := by
 unfold Sch.pk
 split
 ·exact hn
 ·have h1 := Int.emod_nonneg (l.getD i 0) (by omega : (n : Int) ≠ 0)
  have h2 := Int.emod_lt_of_pos (l.getD i 0) (by omega : (0 : Int) < n)
  omega
theorem pick_txt (ks : List Nat) (k : Nat) (hk : k < ks.length) : (ks.map Sch.txt).getD k [] = Sch.txt (ks.getD k 0) := by
 rw [List.getD_eq_getElem?_getD, List.getElem?_map, List.getD_eq_getElem?_getD, List.getElem?_eq_getElem hk]; rfl
theorem c_pick (b : Nat) (l : List Int) (i : Nat) (hi : i < 100) (hl : l.length ≤ 1099511627776) (ss : List (List UInt8)) (hs : 0 < ss.length) (hs2 : ss.length < 100) : FnC Tryz.prog 29 [.int (i : Int), .sl 1 (ss.map AV.str), .lit (.pointer (some ⟨b, 0, none⟩))] [.box b 22 [.sl 1 (l.map AV.int)]] (fun r M => r = .str (ss.getD (Sch.pk l i ss.length) []) ∧ M = [.box b 22 [.sl 1 (l.map AV.int)]]) :=  by
 refine FnC.mk Tryz.func29 (by kernel_rfl) rfl Tryz.ntmps29 rfl (fun w0 F => ?_)
 have hsl : (ss.map AV.str).length = ss.length := List.length_map ..
 have hll : (l.map AV.int).length = l.length := List.length_map ..
 have hg0 := getD_mapG AV.str [] ss 0 hs
 refine W.s (.r (.q (.assign .k) rfl (.n (.h (.s (.s (.r (.mv rfl rfl (.q (.ldb1 0 (.t rfl) rfl ag22 rfl) rfl (.q (.lensl (.t rfl) Tryz.underlying22) rfl ?_))))))))))
 refine W.q (.gei (.t rfl) (.t rfl)) rfl ?_; refine W.n ?_; refine W.h ?_; refine W.cond (.t rfl) (fun hc_t9 => ?_) (fun hc_t9 => ?_)
 ·have h9 := of_decide_eq_true hc_t9
  have hpk : Sch.pk l i ss.length = 0 := if_pos (by omega)
  refine W.s (.r (.mv rfl rfl ?_)); refine W.q (.at (E := 9) (.t rfl) .k Tryz.underlying26 ty9 (fun _ => ⟨by omega, hg0⟩) rfl rfl) rfl ?_; refine W.q (.lde1 (.t rfl) ag9) rfl (.asg rfl rfl (.n (.h ?_))); refine W.ret ?_; refine W.hr ?_; refine W.retn (M' := [.box b 22 [.sl 1 (l.map AV.int)]]) (D := []) (rs := [.tmp 5]) (avs := [_]) Tryz.results29 ⟨rfl, trivial⟩ rfl (.refl _) ?_
  exact ⟨congrArg AV.str (by rw [hpk]), rfl⟩
 ·have h9 := of_decide_eq_false hc_t9
  have hlt : i < l.length := by omega
  have hgl := getD_map l i hlt
  have hpk : Sch.pk l i ss.length = (l.getD i 0 % (ss.length : Int)).toNat := if_neg (by omega)
  obtain ⟨z, hz⟩ : ∃ z, l.getD i 0 = z := ⟨_, rfl⟩
  rw [hz] at hgl hpk
  have hz1 := Int.emod_nonneg z (by omega : (ss.length : Int) ≠ 0)
  have hz2 := Int.emod_lt_of_pos z (by omega : (0 : Int) < ss.length)
  have hgp := getD_mapG AV.str [] ss (z % (ss.length : Int)).toNat (by omega)
  refine W.k (.h (.s (.r (.mv rfl rfl (.q (.ldb1 0 (.t rfl) rfl ag22 rfl) rfl (.mv rfl rfl ?_)))))); refine W.q (.at (E := 3) (.t rfl) (.t rfl) Tryz.underlying22 ty3 (fun _ => ⟨by omega, hgl⟩) rfl rfl) rfl ?_; refine W.q (.lde1 (.t rfl) ag3) rfl (.mv rfl rfl (.q (.lensl (.t rfl) Tryz.underlying26) rfl ?_)); refine W.is (t := 19) (av' := .int (ss.length : Int)) rfl (congrArg AV.int (by rw [hsl])) ?_; refine W.callp (Base.c_Picked z (ss.length : Int) (by omega) (by omega)) ⟨(.t rfl), (.t rfl), trivial⟩ rfl ?_; refine W.q (.at (E := 9) (.t rfl) (.t rfl) Tryz.underlying26 ty9 (fun _ => ⟨by omega, hgp⟩) rfl rfl) rfl ?_; refine W.q (.lde1 (.t rfl) ag9) rfl (.asg rfl rfl (.n (.h ?_))); refine W.ret ?_; refine W.retn (M' := [.box b 22 [.sl 1 (l.map AV.int)]]) (D := []) (rs := [.tmp 5]) (avs := [_]) Tryz.results29 ⟨rfl, trivial⟩ rfl (.refl _) ?_
  exact ⟨congrArg AV.str (by rw [hpk]), rfl⟩
theorem c_Types (l : List Int) (hl : l.length ≤ 1099511627776) : FnP Tryz.prog 12 [.sl 1 (l.map AV.int)] (.sl 3 ((Sch.tys (Sch.pk l 0 4) (Sch.pk l 1 3) (Sch.pk l 2 2) (Sch.pk l 3 3) (Sch.pk l 4 3) (Sch.pk l 5 2)).map tpv)) :=  by
 refine FnC.mk Tryz.func12 (by kernel_rfl) rfl Tryz.ntmps12 rfl (fun w0 F => ?_)
 refine W.s ?_; refine W.r ?_; refine W.box (.t rfl) rfl rfl ?_; intro b1; refine W.q (.assign .k) rfl ?_; refine W.n ?_; refine W.h ?_; refine W.s ?_; refine W.r ?_; refine W.q (.mkfn (caps := [.tmp 1]) (vs := [_]) ⟨(.t rfl), trivial⟩) rfl ?_; refine W.q (.assign (.t rfl)) rfl ?_; refine W.n ?_; refine W.h ?_; refine W.s ?_; refine W.r ?_; refine W.q (.move (.t rfl)) rfl ?_; refine W.bs (es := [_, _, _, _]) Tryz.underlying26 ty9 ⟨rfl, .k, rfl, rfl, rfl, .k, rfl, rfl, rfl, .k, rfl, rfl, rfl, .k, rfl, rfl, trivial⟩ rfl (by decide) rfl rfl ?_; refine W.is (t := 6) (av' := .sl 1 (([0, 1, 2, 3].map Sch.txt).map AV.str)) rfl (congrArg (fun x => AV.sl 1 (x.map AV.str)) (by decide : ([[40, 98, 124, 99, 124, 100, 41, 43], [99, 63, 98, 42], [40, 98, 124, 100, 41, 42], [99, 98, 43, 100, 63]] : List (List UInt8)) = [0, 1, 2, 3].map Sch.txt)) ?_; refine W.callv (caps := [.pointer (some ⟨b1, 0, none⟩)]) (avs := [_, _]) (c_pick b1 l 0 (by decide) hl ([0, 1, 2, 3].map Sch.txt) (by decide) (by decide)) (.t rfl) ⟨.k, (.t rfl), trivial⟩ rfl (.refl _) rfl ?_
 rintro _ _ ⟨rfl, rfl⟩
 rw [show (List.map Sch.txt [0, 1, 2, 3]).length = 4 from rfl, pick_txt [0, 1, 2, 3] _ (pk_lt l 0 4 (by decide))]
 refine W.q (.build ty28 st28 rfl (fun hg => ⟨_, _, _, rfl, .k, rfl, rfl, rfl, _, _, _, rfl, (.t rfl), rfl, rfl, rfl, rfl⟩)) rfl ?_; refine W.nils (t := 8) (g := true) (cs' := [.str Sch.bDoc, .str (Sch.txt (([0, 1, 2, 3] : List Nat).getD (Sch.pk l 0 4) 0)), .sl 1 []]) rfl ⟨.inl rfl, .inl rfl, .inr ⟨rfl, 1, rfl⟩, trivial⟩ ?_; refine W.mv rfl rfl ?_; refine W.bs (es := [_, _, _]) Tryz.underlying26 ty9 ⟨rfl, .k, rfl, rfl, rfl, .k, rfl, rfl, rfl, .k, rfl, rfl, trivial⟩ rfl (by decide) rfl rfl ?_; refine W.is (t := 10) (av' := .sl 1 (([4, 5, 6].map Sch.txt).map AV.str)) rfl (congrArg (fun x => AV.sl 1 (x.map AV.str)) (by decide : ([[103, 63, 40, 102, 43, 103, 63, 41, 42], [40, 102, 124, 103, 102, 41, 42, 103, 63], [103, 63]] : List (List UInt8)) = [4, 5, 6].map Sch.txt)) ?_; refine W.callv (caps := [.pointer (some ⟨b1, 0, none⟩)]) (avs := [_, _]) (c_pick b1 l 1 (by decide) hl ([4, 5, 6].map Sch.txt) (by decide) (by decide)) (.t rfl) ⟨.k, (.t rfl), trivial⟩ rfl (.refl _) rfl ?_
 rintro _ _ ⟨rfl, rfl⟩
 rw [show (List.map Sch.txt [4, 5, 6]).length = 3 from rfl, pick_txt [4, 5, 6] _ (pk_lt l 1 3 (by decide))]
 refine W.bs (es := [_]) Tryz.underlying26 ty9 ⟨rfl, .k, rfl, rfl, trivial⟩ rfl (by decide) rfl rfl ?_; refine W.q (.build ty28 st28 rfl (fun hg => ⟨_, _, _, rfl, .k, rfl, rfl, rfl, _, _, _, rfl, (.t rfl), rfl, rfl, rfl, _, _, _, rfl, (.t rfl), rfl, rfl, rfl, rfl⟩)) rfl (.mv rfl rfl ?_); refine W.bs (es := [_, _]) Tryz.underlying26 ty9 ⟨rfl, .k, rfl, rfl, rfl, .k, rfl, rfl, trivial⟩ rfl (by decide) rfl rfl ?_; refine W.is (t := 15) (av' := .sl 1 (([7, 6].map Sch.txt).map AV.str)) rfl (congrArg (fun x => AV.sl 1 (x.map AV.str)) (by decide : ([[103], [103, 63]] : List (List UInt8)) = [7, 6].map Sch.txt)) ?_; refine W.callv (caps := [.pointer (some ⟨b1, 0, none⟩)]) (avs := [_, _]) (c_pick b1 l 2 (by decide) hl ([7, 6].map Sch.txt) (by decide) (by decide)) (.t rfl) ⟨.k, (.t rfl), trivial⟩ rfl (.refl _) rfl ?_
 rintro _ _ ⟨rfl, rfl⟩
 rw [show (List.map Sch.txt [7, 6]).length = 2 from rfl, pick_txt [7, 6] _ (pk_lt l 2 2 (by decide))]
 refine W.q (.build ty28 st28 rfl (fun hg => ⟨_, _, _, rfl, .k, rfl, rfl, rfl, _, _, _, rfl, (.t rfl), rfl, rfl, rfl, rfl⟩)) rfl ?_; refine W.nils (t := 17) (g := true) (cs' := [.str Sch.bH1, .str (Sch.txt (([7, 6] : List Nat).getD (Sch.pk l 2 2) 0)), .sl 1 []]) rfl ⟨.inl rfl, .inl rfl, .inr ⟨rfl, 1, rfl⟩, trivial⟩ ?_; refine W.mv rfl rfl ?_; refine W.bs (es := [_, _, _]) Tryz.underlying26 ty9 ⟨rfl, .k, rfl, rfl, rfl, .k, rfl, rfl, rfl, .k, rfl, rfl, trivial⟩ rfl (by decide) rfl rfl ?_; refine W.is (t := 19) (av' := .sl 1 (([8, 9, 10].map Sch.txt).map AV.str)) rfl (congrArg (fun x => AV.sl 1 (x.map AV.str)) (by decide : ([[101, 43], [101, 101, 42], [101, 42]] : List (List UInt8)) = [8, 9, 10].map Sch.txt)) ?_; refine W.callv (caps := [.pointer (some ⟨b1, 0, none⟩)]) (avs := [_, _]) (c_pick b1 l 3 (by decide) hl ([8, 9, 10].map Sch.txt) (by decide) (by decide)) (.t rfl) ⟨.k, (.t rfl), trivial⟩ rfl (.refl _) rfl ?_
 rintro _ _ ⟨rfl, rfl⟩
 rw [show (List.map Sch.txt [8, 9, 10]).length = 3 from rfl, pick_txt [8, 9, 10] _ (pk_lt l 3 3 (by decide))]
 refine W.q (.build ty28 st28 rfl (fun hg => ⟨_, _, _, rfl, .k, rfl, rfl, rfl, _, _, _, rfl, (.t rfl), rfl, rfl, rfl, rfl⟩)) rfl ?_; refine W.nils (t := 21) (g := true) (cs' := [.str Sch.bUl, .str (Sch.txt (([8, 9, 10] : List Nat).getD (Sch.pk l 3 3) 0)), .sl 1 []]) rfl ⟨.inl rfl, .inl rfl, .inr ⟨rfl, 1, rfl⟩, trivial⟩ ?_; refine W.mv rfl rfl ?_; refine W.bs (es := [_, _, _]) Tryz.underlying26 ty9 ⟨rfl, .k, rfl, rfl, rfl, .k, rfl, rfl, rfl, .k, rfl, rfl, trivial⟩ rfl (by decide) rfl rfl ?_; refine W.is (t := 23) (av' := .sl 1 (([11, 6, 2].map Sch.txt).map AV.str)) rfl (congrArg (fun x => AV.sl 1 (x.map AV.str)) (by decide : ([[98, 43], [103, 63], [40, 98, 124, 100, 41, 42]] : List (List UInt8)) = [11, 6, 2].map Sch.txt)) ?_; refine W.callv (caps := [.pointer (some ⟨b1, 0, none⟩)]) (avs := [_, _]) (c_pick b1 l 4 (by decide) hl ([11, 6, 2].map Sch.txt) (by decide) (by decide)) (.t rfl) ⟨.k, (.t rfl), trivial⟩ rfl (.refl _) rfl ?_
 rintro _ _ ⟨rfl, rfl⟩
 rw [show (List.map Sch.txt [11, 6, 2]).length = 3 from rfl, pick_txt [11, 6, 2] _ (pk_lt l 4 3 (by decide))]
 refine W.q (.build ty28 st28 rfl (fun hg => ⟨_, _, _, rfl, .k, rfl, rfl, rfl, _, _, _, rfl, (.t rfl), rfl, rfl, rfl, rfl⟩)) rfl ?_; refine W.nils (t := 25) (g := true) (cs' := [.str Sch.bLi, .str (Sch.txt (([11, 6, 2] : List Nat).getD (Sch.pk l 4 3) 0)), .sl 1 []]) rfl ⟨.inl rfl, .inl rfl, .inr ⟨rfl, 1, rfl⟩, trivial⟩ ?_; refine W.mv rfl rfl ?_; refine W.bs (es := [_, _]) Tryz.underlying26 ty9 ⟨rfl, .k, rfl, rfl, rfl, .k, rfl, rfl, trivial⟩ rfl (by decide) rfl rfl ?_; refine W.is (t := 27) (av' := .sl 1 (([7, 6].map Sch.txt).map AV.str)) rfl (congrArg (fun x => AV.sl 1 (x.map AV.str)) (by decide : ([[103], [103, 63]] : List (List UInt8)) = [7, 6].map Sch.txt)) ?_; refine W.callv (caps := [.pointer (some ⟨b1, 0, none⟩)]) (avs := [_, _]) (c_pick b1 l 5 (by decide) hl ([7, 6].map Sch.txt) (by decide) (by decide)) (.t rfl) ⟨.k, (.t rfl), trivial⟩ rfl (.refl _) rfl ?_
 rintro _ _ ⟨rfl, rfl⟩
 rw [show (List.map Sch.txt [7, 6]).length = 2 from rfl, pick_txt [7, 6] _ (pk_lt l 5 2 (by decide))]
 refine W.q (.build ty28 st28 rfl (fun hg => ⟨_, _, _, rfl, .k, rfl, rfl, rfl, _, _, _, rfl, (.t rfl), rfl, rfl, rfl, rfl⟩)) rfl ?_; refine W.nils (t := 29) (g := true) (cs' := [.str Sch.bEm, .str (Sch.txt (([7, 6] : List Nat).getD (Sch.pk l 5 2) 0)), .sl 1 []]) rfl ⟨.inl rfl, .inl rfl, .inr ⟨rfl, 1, rfl⟩, trivial⟩ ?_; refine W.q (.build ty28 st28 rfl (fun hg => rfl)) rfl ?_; refine W.nils (t := 30) (g := true) (cs' := [.str [], .str [], .sl 1 []]) rfl ⟨.inl rfl, .inl rfl, .inr ⟨rfl, 1, rfl⟩, trivial⟩ ?_; refine W.bs (es := [_, _, _, _, _, _, _]) Tryz.underlying23 ty28 ⟨rfl, (.t rfl), rfl, rfl, rfl, (.t rfl), rfl, rfl, rfl, (.t rfl), rfl, rfl, rfl, (.t rfl), rfl, rfl, rfl, (.t rfl), rfl, rfl, rfl, (.t rfl), rfl, rfl, rfl, (.t rfl), rfl, rfl, trivial⟩ rfl (by decide) rfl rfl ?_; refine W.asg rfl rfl (.n (.h ?_)); refine W.ret ?_; refine W.retn (M' := []) (D := _) (rs := [.tmp 2]) (avs := [_]) Tryz.results12 ⟨rfl, trivial⟩ rfl (.refl _) ?_
 exact ⟨rfl, rfl⟩
end WTypes
end Go.Proofs.YtphlkdbglpcikaaGreatDoor
end
section
namespace Go.Vl
namespace Sch
def accJ (ts : List Tp) (a : List Int) (nm : List UInt8) : Nat → Int → Int
 | 0, z => z
 | j + 1, z => if ((ts.getD j dT).name == nm) = true then wr (accJ ts a nm j z + a.getD j 0) else accJ ts a nm j z
def accP (ts : List Tp) (a : List Int) (ps : List Nd) : Nat → Int
 | 0 => 1
 | i + 1 => accJ ts a (ps.getD i Nd.dflt).name 7 (accP ts a ps i)
def isE (o : Option Int) (k : Int) : Bool := match o with
 | some e => decide (e = k)
 | none => false
theorem isE_eq {o : Option Int} {k : Int} (h : isE o k = true) : o = some k := by
 unfold isE at h
 split at h
 ·rw [of_decide_eq_true h]
 ·cases h
def bZzz : List UInt8 := [122, 122, 122]
def zzz : Nd := .mk bZzz [] [] []
def spoil0 (d : Nd) : Nd := .mk d.name d.attrs d.text (d.parts ++ [zzz])
def spoil1 (d : Nd) : Nd := .mk d.name [(bClass, [])] d.text d.parts
def spoil2 (d : Nd) : Nd := .mk d.name d.attrs [120] d.parts
def spoil3 (d : Nd) : Nd := .mk bP d.attrs d.text d.parts
theorem zzz_frz (d : Nd) {v : Value} : Frz v 4 (d.parts.map Nd.av ++ [Nd.avx zzz]) (.lit v) (.sl 4 ((spoil0 d).parts.map Nd.av)) := by
 have : (spoil0 d).parts.map Nd.av = d.parts.map Nd.av ++ [Nd.avx zzz] := Nd.map_snoc _ _
 rw [this]; exact .hit
def tyn : List Tp := tyk 0 0 0 0 0 0
def chkTree (as_ : List Au) : Bool := match sizesOf tyn as_ with
 | some a => (a.all fun n => decide (1 ≤ n) && decide (n ≤ 150)) && ((List.range 7).all fun t => match treeN tyn as_ a 6 t with
  | some d => decide ((Nd.cnts [d] : Int) = a.getD t 0) && isE (faultN tyn as_ 7 d t) 0 && decide (accP tyn a d.parts d.parts.length = a.getD t 0) && decide (d.parts.length ≤ 100)
  | none => false) && match treeN tyn as_ a 6 0 with
  | some d => isE (treeFault tyn as_ 7 d) 0 && isE (treeFault tyn as_ 7 (spoil0 d)) 5 && isE (treeFault tyn as_ 7 (spoil1 d)) 4 && isE (treeFault tyn as_ 7 (spoil2 d)) 4 && isE (treeFault tyn as_ 7 (spoil3 d)) 5
  | none => false
 | none => false
section
variable {ts ts' : List Tp}
theorem partsN_congr {g g' : Nd → Nat → Option Int} (hg : ∀ d t, g d t = g' d t) (hx : ∀ nm, idxT ts nm = idxT ts' nm) : ∀ l, partsN g ts l = partsN g' ts' l
 | [] => rfl
 | p :: l => by simp only [partsN, hx, hg, partsN_congr hg hx l]
theorem faultN_congr (ha : ∀ i, (ts.getD i dT).attrs = (ts'.getD i dT).attrs) (hl : ts.length = ts'.length) (hx : ∀ nm, idxT ts nm = idxT ts' nm) (as_ : List Au) : ∀ f d t, faultN ts as_ f d t = faultN ts' as_ f d t
 | 0, _, _ => rfl
 | f + 1, d, t => by
  have hk : kinds ts d.parts = kinds ts' d.parts := by unfold kinds; simp only [hx]
  obtain ⟨nm, at_, tx, ps⟩ := d
  rw [faultN_mk, faultN_mk]
  simp only [hl, ha, partsN_congr (faultN_congr ha hl hx as_ f) hx]
  rw [show kinds ts ps = kinds ts' ps from hk]
theorem accJ_congr (h : ∀ i, (ts.getD i dT).name = (ts'.getD i dT).name) (a : List Int) (nm : List UInt8) : ∀ j z, accJ ts a nm j z = accJ ts' a nm j z
 | 0, _ => rfl
 | j + 1, z => by simp only [accJ, h, accJ_congr h a nm j]
theorem accP_congr (h : ∀ i, (ts.getD i dT).name = (ts'.getD i dT).name) (a : List Int) (ps : List Nd) : ∀ i, accP ts a ps i = accP ts' a ps i
 | 0 => rfl
 | i + 1 => by simp only [accP, accP_congr h a ps i, accJ_congr h]
theorem treeFault_congr (h : ∀ i, (ts.getD i dT).name = (ts'.getD i dT).name) (ha : ∀ i, (ts.getD i dT).attrs = (ts'.getD i dT).attrs) (hl : ts.length = ts'.length) (hx : ∀ nm, idxT ts nm = idxT ts' nm) (as_ : List Au) (f : Nat) (d : Nd) : treeFault ts as_ f d = treeFault ts' as_ f d := by
 unfold treeFault; rw [h, faultN_congr ha hl hx]
end
theorem attrs7 (m0 m1 m2 m3 m4 m5 n0 n1 n2 n3 n4 n5 : Nat) : ∀ i, ((tyk m0 m1 m2 m3 m4 m5).getD i dT).attrs = ((tyk n0 n1 n2 n3 n4 n5).getD i dT).attrs
 | 0 => rfl | 1 => rfl | 2 => rfl | 3 => rfl | 4 => rfl | 5 => rfl | 6 => rfl | _ + 7 => rfl
theorem idx7 (m0 m1 m2 m3 m4 m5 n0 n1 n2 n3 n4 n5 : Nat) (nm : List UInt8) : idxT (tyk m0 m1 m2 m3 m4 m5) nm = idxT (tyk n0 n1 n2 n3 n4 n5) nm := rfl
structure TreeOk (ts : List Tp) (as_ : List Au) (a : List Int) : Prop where
 tree : ∀ t, t < 7 → ∃ d, treeN ts as_ a 6 t = some d ∧ (Nd.cnts [d] : Int) = a.getD t 0 ∧ faultN ts as_ 7 d t = some 0 ∧ accP ts a d.parts d.parts.length = a.getD t 0 ∧ d.parts.length ≤ 100
 top : ∃ d, treeN ts as_ a 6 0 = some d ∧ treeFault ts as_ 7 d = some 0 ∧ treeFault ts as_ 7 (spoil0 d) = some 5 ∧ treeFault ts as_ 7 (spoil1 d) = some 4 ∧ treeFault ts as_ 7 (spoil2 d) = some 4 ∧ treeFault ts as_ 7 (spoil3 d) = some 5
theorem chkTree_out {m0 m1 m2 m3 m4 m5 : Nat} (h : chkTree (ask m0 m1 m2 m3 m4 m5) = true) : ∃ a, sizesOf (tyk m0 m1 m2 m3 m4 m5) (ask m0 m1 m2 m3 m4 m5) = some a ∧ (∀ n ∈ a, 1 ≤ n ∧ n ≤ 150) ∧ TreeOk (tyk m0 m1 m2 m3 m4 m5) (ask m0 m1 m2 m3 m4 m5) a := by
 have hn := names7 m0 m1 m2 m3 m4 m5 0 0 0 0 0 0
 have hat := attrs7 m0 m1 m2 m3 m4 m5 0 0 0 0 0 0
 have hx := idx7 m0 m1 m2 m3 m4 m5 0 0 0 0 0 0
 have hl : (tyk m0 m1 m2 m3 m4 m5).length = (tyk 0 0 0 0 0 0).length := rfl
 rw [sizesOf_congr hn hl]
 unfold chkTree tyn at h
 obtain ⟨a, ha⟩ : ∃ a, sizesOf (tyk 0 0 0 0 0 0) (ask m0 m1 m2 m3 m4 m5) = some a := by
  cases h2 : sizesOf (tyk 0 0 0 0 0 0) (ask m0 m1 m2 m3 m4 m5) with
  | none => rw [h2] at h; cases h
  | some a => exact ⟨a, rfl⟩
 rw [ha] at h
 dsimp only at h
 rw [Bool.and_eq_true, Bool.and_eq_true] at h
 refine ⟨a, ha, fun n hn => by have := List.all_eq_true.1 h.1.1 n hn; simpa using this, ?_⟩
 replace h := And.intro h.1.2 h.2
 refine ⟨fun t ht => ?_, ?_⟩
 ·have h1 := List.all_eq_true.1 h.1 t (List.mem_range.2 ht)
  split at h1
  ·rename_i d hd
   simp only [Bool.and_eq_true, decide_eq_true_eq] at h1
   exact ⟨d, by rw [treeN_congr hn hl]; exact hd, h1.1.1.1, by rw [faultN_congr hat hl hx]; exact isE_eq h1.1.1.2, by rw [accP_congr hn]; exact h1.1.2, h1.2⟩
  ·cases h1
 ·have h1 := h.2
  split at h1
  ·rename_i d hd
   simp only [Bool.and_eq_true] at h1
   refine ⟨d, by rw [treeN_congr hn hl]; exact hd, ?_, ?_, ?_, ?_, ?_⟩ <;> rw [treeFault_congr hn hat hl hx]
   ·exact isE_eq h1.1.1.1.1
   ·exact isE_eq h1.1.1.1.2
   ·exact isE_eq h1.1.1.2
   ·exact isE_eq h1.1.2
   ·exact isE_eq h1.2
  ·cases h1
theorem tr_0_11 : (([4, 6] : List Nat).all fun m1 => ([7, 6] : List Nat).all fun m2 => ([8, 10] : List Nat).all fun m3 => ([7, 6] : List Nat).all fun m5 => chkTree (ask 0 m1 m2 m3 11 m5)) = true := by kernel_rfl
theorem tr_0_6 : (([4, 6] : List Nat).all fun m1 => ([7, 6] : List Nat).all fun m2 => ([8, 10] : List Nat).all fun m3 => ([7, 6] : List Nat).all fun m5 => chkTree (ask 0 m1 m2 m3 6 m5)) = true := by kernel_rfl
theorem tr_0_2 : (([4, 6] : List Nat).all fun m1 => ([7, 6] : List Nat).all fun m2 => ([8, 10] : List Nat).all fun m3 => ([7, 6] : List Nat).all fun m5 => chkTree (ask 0 m1 m2 m3 2 m5)) = true := by kernel_rfl
theorem tr_1_11 : (([4, 6] : List Nat).all fun m1 => ([7, 6] : List Nat).all fun m2 => ([8, 10] : List Nat).all fun m3 => ([7, 6] : List Nat).all fun m5 => chkTree (ask 1 m1 m2 m3 11 m5)) = true := by kernel_rfl
theorem tr_1_6 : (([4, 6] : List Nat).all fun m1 => ([7, 6] : List Nat).all fun m2 => ([8, 10] : List Nat).all fun m3 => ([7, 6] : List Nat).all fun m5 => chkTree (ask 1 m1 m2 m3 6 m5)) = true := by kernel_rfl
theorem tr_1_2 : (([4, 6] : List Nat).all fun m1 => ([7, 6] : List Nat).all fun m2 => ([8, 10] : List Nat).all fun m3 => ([7, 6] : List Nat).all fun m5 => chkTree (ask 1 m1 m2 m3 2 m5)) = true := by kernel_rfl
theorem tr_2_11 : (([4, 6] : List Nat).all fun m1 => ([7, 6] : List Nat).all fun m2 => ([8, 10] : List Nat).all fun m3 => ([7, 6] : List Nat).all fun m5 => chkTree (ask 2 m1 m2 m3 11 m5)) = true := by kernel_rfl
theorem tr_2_6 : (([4, 6] : List Nat).all fun m1 => ([7, 6] : List Nat).all fun m2 => ([8, 10] : List Nat).all fun m3 => ([7, 6] : List Nat).all fun m5 => chkTree (ask 2 m1 m2 m3 6 m5)) = true := by kernel_rfl
theorem tr_2_2 : (([4, 6] : List Nat).all fun m1 => ([7, 6] : List Nat).all fun m2 => ([8, 10] : List Nat).all fun m3 => ([7, 6] : List Nat).all fun m5 => chkTree (ask 2 m1 m2 m3 2 m5)) = true := by kernel_rfl
theorem tr_3_11 : (([4, 6] : List Nat).all fun m1 => ([7, 6] : List Nat).all fun m2 => ([8, 10] : List Nat).all fun m3 => ([7, 6] : List Nat).all fun m5 => chkTree (ask 3 m1 m2 m3 11 m5)) = true := by kernel_rfl
theorem tr_3_6 : (([4, 6] : List Nat).all fun m1 => ([7, 6] : List Nat).all fun m2 => ([8, 10] : List Nat).all fun m3 => ([7, 6] : List Nat).all fun m5 => chkTree (ask 3 m1 m2 m3 6 m5)) = true := by kernel_rfl
theorem tr_3_2 : (([4, 6] : List Nat).all fun m1 => ([7, 6] : List Nat).all fun m2 => ([8, 10] : List Nat).all fun m3 => ([7, 6] : List Nat).all fun m5 => chkTree (ask 3 m1 m2 m3 2 m5)) = true := by kernel_rfl
theorem tree_all {k0 k1 k2 k3 k4 k5 : Nat} (h0 : k0 < 4) (h1 : k1 < 3) (h2' : k2 < 2) (h3 : k3 < 3) (h4 : k4 < 3) (h5 : k5 < 2) : chkTree (ask (mk0 k0) (mk1 k1) (mk2 k2) (mk3 k3) (mk4 k4) (mk5 k5)) = true := by
 rw [← ask_fst]
 have a1 : fst_ (mk1 k1) ∈ ([4, 6] : List Nat) := by rcases (show k1 = 0 ∨ k1 = 1 ∨ k1 = 2 by omega) with rfl | rfl | rfl <;> decide
 have a2 : mk2 k2 ∈ ([7, 6] : List Nat) := by rcases (show k2 = 0 ∨ k2 = 1 by omega) with rfl | rfl <;> decide
 have a3 : fst_ (mk3 k3) ∈ ([8, 10] : List Nat) := by rcases (show k3 = 0 ∨ k3 = 1 ∨ k3 = 2 by omega) with rfl | rfl | rfl <;> decide
 have a5 : mk5 k5 ∈ ([7, 6] : List Nat) := by rcases (show k5 = 0 ∨ k5 = 1 by omega) with rfl | rfl <;> decide
 have h2 : ∀ {m0 m4 : Nat}, (([4, 6] : List Nat).all fun m1 => ([7, 6] : List Nat).all fun m2 => ([8, 10] : List Nat).all fun m3 => ([7, 6] : List Nat).all fun m5 => chkTree (ask m0 m1 m2 m3 m4 m5)) = true → chkTree (ask m0 (fst_ (mk1 k1)) (mk2 k2) (fst_ (mk3 k3)) m4 (mk5 k5)) = true := fun h => List.all_eq_true.1 (List.all_eq_true.1 (List.all_eq_true.1 (List.all_eq_true.1 h _ a1) _ a2) _ a3) _ a5
 rcases (show k0 = 0 ∨ k0 = 1 ∨ k0 = 2 ∨ k0 = 3 by omega) with rfl | rfl | rfl | rfl <;> rcases (show k4 = 0 ∨ k4 = 1 ∨ k4 = 2 by omega) with rfl | rfl | rfl
 ·exact h2 tr_0_11
 ·exact h2 tr_0_6
 ·exact h2 tr_0_2
 ·exact h2 tr_1_11
 ·exact h2 tr_1_6
 ·exact h2 tr_1_2
 ·exact h2 tr_2_11
 ·exact h2 tr_2_6
 ·exact h2 tr_2_2
 ·exact h2 tr_3_11
 ·exact h2 tr_3_6
 ·exact h2 tr_3_2
end Sch
end Go.Vl
end
section
namespace Go.Proofs.YtphlkdbglpcikaaGreatDoor
open Go.Vl
open Y
namespace WCount
theorem c_Count_step (n : Nat) (hn : n ≤ 16777216) (ih : ∀ l, Nd.szs l < n → FnC Tryz.prog 21 [.sl 4 (l.map Nd.av)] [] (fun r M => M = [] ∧ ∃ k : Int, r = .tup [.int (Nd.cnts l : Int), .int k] ∧ 0 ≤ k ∧ k ≤ Nd.szs l)) (l : List Nd) (hl : Nd.szs l = n) : FnC Tryz.prog 21 [.sl 4 (l.map Nd.av)] [] (fun r M => M = [] ∧ ∃ k : Int, r = .tup [.int (Nd.cnts l : Int), .int k] ∧ 0 ≤ k ∧ k ≤ Nd.szs l) :=  by
 refine FnC.mk Tryz.func21 (by kernel_rfl) rfl Tryz.ntmps21 rfl (fun w0 F => ?_)
 have hll : (l.map Nd.av).length = l.length := List.length_map ..
 have hsl := Nd.szs_len l
 have hcl := Nd.cnts_le l
 refine W.s (.r (.q (.assign .k) rfl (.q (.assign .k) rfl (.n (.h (.s (.s (.r (.mv rfl rfl (.q (.lensl (.t rfl) Tryz.underlying33) rfl (.q (.move .k) rfl (.n (.h (.b ?_)))))))))))))); refine W.loop (D := []) (ι := Nat × Int) (fun z => [(10, true, .int (z.1 : Int)), (9, true, .int ((l.map Nd.av).length : Int)), (8, true, .sl 4 (l.map Nd.av)), (2, true, .int (Nd.cnts (l.take z.1) : Int)), (3, true, .int z.2)]) (fun z => []) (fun z => z.1 ≤ l.length ∧ 0 ≤ z.2 ∧ z.2 ≤ n ∧ Nd.cnts (l.take z.1) ≤ n) (fun z => l.length - z.1) (0, 0) ⟨rfl, rfl, rfl, rfl, rfl, trivial⟩ (.refl _) ⟨Nat.zero_le _, Int.le_refl _, by omega, by simp [Nd.cnts]⟩ ?_
 rintro ⟨i, m⟩ ⟨hi, hm1, hm2, hm3⟩
 dsimp only at hi hm1 hm2 hm3 ⊢
 rcases (show i < l.length ∨ i = l.length from by omega) with hlt | hend
 ·have hga := Nd.at_av l i hlt
  have hsz := Nd.at_sz l i hlt
  generalize hd : l.getD i Nd.dflt = d at hga hsz
  have hse := Nd.sz_eq d
  have hsp := Nd.szs_len d.parts
  have hat : (d.attrs.map dav).length = d.attrs.length := List.length_map ..
  have hsn := Nd.cnts_snoc l i hlt
  rw [hd] at hsn
  have hcd := Nd.cnts_le d.parts
  have hct : Nd.cnts (l.take (i + 1)) ≤ n := by have h1 := Nd.cnts_append (l.take (i + 1)) (l.drop (i + 1)); rw [List.take_append_drop] at h1; omega
  refine W.s (.r (.q (.lti (.t rfl) (.t rfl)) rfl (.n (.h (.s ?_))))); refine W.isb 11 true rfl (by simp; omega) ?_; refine W.condT (.t rfl) (.k (.h (.s (.b (.s (.r ?_)))))); refine W.q (.at (E := 35) (.t rfl) (.t rfl) Tryz.underlying33 ty35 (fun _ => ⟨by omega, hga⟩) rfl rfl) rfl ?_; refine W.q (.lden (.t rfl) ag35 ty35 rfl rfl) rfl ?_
  refine W.alloc ty35 rfl rfl ?_; intro b5
  refine W.stb 0 (.t rfl) (.t rfl) rfl ty35 rfl rfl rfl (.n (.h (.s (.r (.q (.fab (.t rfl) fa35_3) rfl (.q (.ldb1 0 (.t rfl) rfl ag33 rfl) rfl ?_)))))); refine W.call (ih d.parts (by omega)) ⟨(.t rfl), trivial⟩ (.refl _) rfl ?_
  rintro _ _ ⟨rfl, k, rfl, hk1, hk2⟩
  refine W.mv rfl rfl (.q (.extract (.t rfl) rfl) rfl (.q (.extract (.t rfl) rfl) rfl (.asg rfl rfl (.asg rfl rfl (.n (.h (.s (.r (.mv rfl rfl (.mv rfl rfl (.q (.add (.t rfl) .k (fun _ => by omega)) rfl (.q (.add (.t rfl) (.t rfl) (fun _ => by omega)) rfl (.asg rfl rfl (.n (.h (.r (.mv rfl rfl (.mv rfl rfl (.q (.add (.t rfl) .k (fun _ => by omega)) rfl (.q (.max (.t rfl) (.t rfl)) rfl (.asg rfl rfl (.n (.bn ?_))))))))))))))))))))))); refine W.h (.r (.q (.add (.t rfl) .k (fun _ => by omega)) rfl ?_))
  refine W.q (.move (.t rfl)) rfl ?_; refine W.n ?_; refine W.h ?_; refine W.is (t := 2) (av' := .int (Nd.cnts (l.take (i + 1)) : Int)) rfl (congrArg AV.int (by rw [hsn]; omega)) ?_; refine W.reach (D := [_]) (i + 1, _) ⟨rfl, rfl, rfl, rfl, rfl, trivial⟩ (.refl _) ⟨⟨by show i + 1 ≤ _; omega, ?_, ?_, hct⟩, by show _ - (i + 1) < _; omega⟩
  ·show (0 : Int) ≤ ite _ _ _; split <;> omega
  ·show ite _ _ _ ≤ (n : Int); split <;> omega
 ·have he : l.take i = l := List.take_of_length_le (by omega)
  rw [he]
  refine W.s (.r (.q (.lti (.t rfl) (.t rfl)) rfl (.n (.h (.s ?_))))); refine W.isb 11 false rfl (by simp; omega) ?_; refine W.condF (.t rfl) (.ex (.he (.he (.bh (.h (.s (.r (.mv rfl rfl (.mv rfl rfl (.asg rfl rfl (.asg rfl rfl (.n (.h ?_))))))))))))); refine W.ret ?_; refine W.retn (M' := []) (rs := [.tmp 2, .tmp 3]) (avs := [_, _]) Tryz.results21 ⟨rfl, rfl, trivial⟩ rfl (.refl _) ?_
  exact ⟨rfl, m, rfl, hm1, by omega⟩
theorem c_Count (l : List Nd) (hl : Nd.szs l ≤ 16777216) : FnC Tryz.prog 21 [.sl 4 (l.map Nd.av)] [] (fun r M => M = [] ∧ ∃ k : Int, r = .tup [.int (Nd.cnts l : Int), .int k] ∧ 0 ≤ k ∧ k ≤ Nd.szs l) := by
 suffices H : ∀ n, n ≤ 16777216 → ∀ l, Nd.szs l = n → FnC Tryz.prog 21 [.sl 4 (l.map Nd.av)] [] (fun r M => M = [] ∧ ∃ k : Int, r = .tup [.int (Nd.cnts l : Int), .int k] ∧ 0 ≤ k ∧ k ≤ Nd.szs l) from H _ hl l rfl
 intro n
 induction n using Nat.strongRecOn with
 | _ n ih => exact fun hn l hl => c_Count_step n hn (fun l' h' => ih _ h' (by omega) l' rfl) l hl
end WCount
end Go.Proofs.YtphlkdbglpcikaaGreatDoor
end
section
namespace Go.Vl
open Go.RowKit (Below)
def tabM (g : Nat) (T : TypeId) (zs : List Int) : ME := .box g T (zs.map fun z => AV.lit (.int .u64 z))
theorem repL_tab {w : World} {N : List Nat} : ∀ {zs : List Int} {row : List Value}, RepL w N (zs.map fun z => AV.lit (.int .u64 z)) row ↔ row = zs.map (Value.int .u64)
 | [], row => by simp [RepL]
 | z :: zs, row => by
  simp only [List.map_cons, RepL]
  constructor
  ·rintro ⟨u, us, rfl, ⟨h1, h2, h3⟩, h4⟩
   rw [lit_cell h1 h3, repL_tab.1 h4]
  ·rintro rfl
   exact ⟨_, _, rfl, ⟨rfl, rfl, by simp only [RepC]; rfl⟩, repL_tab.2 rfl⟩
theorem laid_tl {P : Program} {x : String × DataW Unit} {r : List (String × DataW Unit)} {w : World} (h : laidMet P (x :: r) w) : laidMet P r w := by
 obtain ⟨ps, hv, hnd, hrows⟩ := h
 obtain ⟨n, d⟩ := x
 obtain ⟨g, t, cs, fuel, p, q, _, _, _, _, hq, rfl⟩ := hv
 exact ⟨q, hq, List.Nodup.sublist (List.sublist_append_right _ _) hnd, fun b off hm => hrows b off (List.mem_append_right _ hm)⟩
theorem tab_block {P : Program} {W : World} {name : String} {zs : List Int} {rest : List (String × DataW Unit)} {g : Nat} {t e : TypeId} {n : Nat}
 (hg : P.globalNamed name = some g) (hty : (P.globals[g]?).map (·.type) = some t) (ht : P.underlying t = some (.array n e)) (he : P.underlying e = some (.int .u64)) (hce : P.cellsOf e = 1) (hct : P.cellsOf t = n)
 (hz : 0 < zs.length) (h : laidMet P ((name, Lib.tabData .u64 zs) :: rest) W) : ∃ T, W.heap[g]? = some (.cells (zs.map (Value.int .u64)).toArray T (0, 0)) := by
 have htab := Lib.tabIs_of_head hg hty ht he hce hct h
 obtain ⟨ps, ⟨g', t', cs, fuel, p, q, hg', ht', hvar, hd, _, hps⟩, hnd, hrows⟩ := h
 obtain rfl := Option.some.inj (hg.symm.trans hg')
 have hcs : cs = (zs.map (Value.int .u64)).toArray := Option.some.inj (hvar.symm.trans htab)
 have hsz : 0 < cs.size := by rw [hcs]; simpa using hz
 obtain ⟨⟨c, T, hb⟩, _⟩ := hrows g 0 (by
  rw [hps]
  refine List.mem_append_left _ (List.mem_append_left _ ?_)
  unfold MemPlace.row
  exact List.mem_map.2 ⟨0, List.mem_range.2 hsz, rfl⟩)
 refine ⟨T, ?_⟩
 unfold Lib.TabIs World.var? at htab
 rw [hg, Option.bind_some, hb] at htab
 rw [hb, Option.some.inj htab]
theorem rep_apart {W : World} {g : Nat} {T : TypeId} {fr : Nat × Nat} {zs : List Int} (hg : W.heap[g]? = some (.cells (zs.map (Value.int .u64)).toArray T fr)) {l : List Int} {v : Value} (h : Rep W [] (.sl 1 (l.map AV.int)) v) : Rep W [g] (.sl 1 (l.map AV.int)) v := by
 refine ⟨h.1, ?_⟩
 have h2 := h.2
 simp only [RepC] at h2 ⊢
 obtain ⟨a, cap, e, h3, h4, h5⟩ := h2
 refine ⟨a, cap, e, h3, h4, ?_⟩
 rcases h5 with h5 | ⟨b, off, cur, T', fr', ha, hb, hc, he⟩
 ·exact .inl h5
 ·cases l with
  | nil => exact .inl rfl
  | cons n l =>
   have hi := RepE.toInts he
   refine .inr ⟨b, off, cur, T', fr', ha, ?_, hc, RepE.ints hi⟩
   intro hbg
   have hbg : b = g := by simpa using hbg
   subst hbg
   rw [hg] at hc
   cases hc
   have hmem : (Value.int .i64 n) ∈ ((zs.map (Value.int .u64)).toArray.toList.drop off) := List.mem_of_mem_take (i := (n :: l).length) (by rw [hi]; simp)
   have := List.mem_of_mem_drop hmem
   simp at this
theorem law_callsT {P : Program} {f : FuncId} {avs : List AV} {W : World} {vs : List Value} {g : Nat} {T : TypeId} {zs : List Int} (hg : W.heap[g]? = some (.cells (zs.map (Value.int .u64)).toArray T (0, 0)))
 (h : FnC P f avs [tabM g T zs] (fun r M => r = .lit (.bool true) ∧ M = [tabM g T zs])) (ha : RepT W [g] avs vs) :
 Calls P f vs.toArray W fun e W' => e = .returned (.bool true) ∧ Below W.heap.size W W' := by
 have hm : MOk W [tabM g T zs] [] := ⟨by simp [bl, ME.blks, tabM], by simp, fun m hm => by
  rw [List.mem_singleton.1 hm]
  exact ⟨_, hg, repL_tab.2 (by simp)⟩⟩
 refine (h.2 W [] vs (by simp) hm (by simpa [bl, ME.blks, tabM] using ha)).mono ?_
 rintro e W' ⟨v, r, M', rfl, ⟨rfl, rfl⟩, hm', hr, hf⟩
 have hv := Rep.lit_iff.1 hr
 subst hv
 refine ⟨rfl, hf.os, hf.tape, hf.output, hf.size, fun k hk => ?_⟩
 by_cases hkg : k = g
 ·subst hkg
  obtain ⟨cur, hc, hl⟩ := hm'.holds _ List.mem_cons_self
  rw [hc, hg]
  congr 2
  exact Array.toList_inj.1 (repL_tab.1 hl)
 ·exact (hf.block k hk (by simp [bl, ME.blks, tabM, hkg])).1
end Go.Vl
end
