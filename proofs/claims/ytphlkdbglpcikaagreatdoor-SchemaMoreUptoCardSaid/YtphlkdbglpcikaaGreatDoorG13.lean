/-
  Merged: WSTree WFill WTypes SchK SchM WLet WSame LawT.
-/
import Derived.Test.YtphlkdbglpcikaaGreatDoorG12
import Derived.Lib.LaidTab

section
set_option linter.unusedVariables false
set_option linter.unusedSimpArgs false
set_option maxRecDepth 100000
namespace Go.Proofs.YtphlkdbglpcikaaGreatDoor
open Go.Vl

namespace WSTree
theorem ty3 : Ty Tryz.prog 3 1 8 (.int .i64 0) := Ty.of (by kernel_rfl)
theorem ty9 : Ty Tryz.prog 9 1 16 (.string ⟨#[]⟩) := Ty.of (by kernel_rfl)
theorem ty23 : Ty Tryz.prog 23 1 24 (.slice none 0 0) := Ty.of (by kernel_rfl)
theorem ty28 : Ty Tryz.prog 28 3 56 (.agg #[.string ⟨#[]⟩, .string ⟨#[]⟩, .slice none 0 0]) := Ty.of (by kernel_rfl)
theorem ty32 : Ty Tryz.prog 32 1 24 (.slice none 0 0) := Ty.of (by kernel_rfl)
theorem ty33 : Ty Tryz.prog 33 1 24 (.slice none 0 0) := Ty.of (by kernel_rfl)
theorem ty35 : Ty Tryz.prog 35 4 80 (.agg #[.string ⟨#[]⟩, .slice none 0 0, .string ⟨#[]⟩, .slice none 0 0]) := Ty.of (by kernel_rfl)
theorem ty62 : Ty Tryz.prog 62 2 48 (.agg #[.slice none 0 0, .slice none 0 0]) := Ty.of (by kernel_rfl)
theorem ty74 : Ty Tryz.prog 74 1 24 (.slice none 0 0) := Ty.of (by kernel_rfl)
theorem ag3 : IsAgg Tryz.prog 3 false := ⟨_, Tryz.underlying3, rfl⟩
theorem ag9 : IsAgg Tryz.prog 9 false := ⟨_, Tryz.underlying9, rfl⟩
theorem ag23 : IsAgg Tryz.prog 23 false := ⟨_, Tryz.underlying23, rfl⟩
theorem ag33 : IsAgg Tryz.prog 33 false := ⟨_, Tryz.underlying33, rfl⟩
theorem ag35 : IsAgg Tryz.prog 35 true := ⟨_, Tryz.underlying35, rfl⟩
theorem ag62 : IsAgg Tryz.prog 62 true := ⟨_, Tryz.underlying62, rfl⟩
theorem ag74 : IsAgg Tryz.prog 74 false := ⟨_, Tryz.underlying74, rfl⟩
theorem fa28_0 : FieldAt Tryz.prog 28 0 0 1 false := ⟨_, _, Tryz.underlying28, rfl, rfl, ty9.size, ag9, by decide⟩
theorem fa35_3 : FieldAt Tryz.prog 35 3 3 1 false := ⟨_, _, Tryz.underlying35, rfl, rfl, ty33.size, ag33, by decide⟩
theorem fa76_0 : FieldAt Tryz.prog 76 0 0 1 false := ⟨_, _, Tryz.underlying76, rfl, rfl, ty23.size, ag23, by decide⟩
theorem fa76_1 : FieldAt Tryz.prog 76 1 1 1 false := ⟨_, _, Tryz.underlying76, rfl, rfl, ty74.size, ag74, by decide⟩
theorem st35 : StructAt Tryz.prog 35 [(0, 1), (1, 1), (2, 1), (3, 1)] := ⟨_, Tryz.underlying35, rfl, ty9.size, rfl, ty32.size, rfl, ty9.size, rfl, ty33.size, trivial⟩
theorem ni33 : NotInt Tryz.prog 33 := .inl ⟨_, Tryz.underlying33⟩
theorem c_TreeX (b : Nat) (ts : List Tp) (as_ : List Au) (sz : List Int) (hal : as_.length = ts.length) (hts : ts.length ≤ 100) (hsl : sz.length = ts.length) (hsh : ∀ A ∈ as_, A.Shape ∧ A.next.length ≤ 100 ∧ ∀ r ∈ A.next, ∀ k, k < 8 → 0 ≤ r.getD k (-1) → k < ts.length) (f : Nat) (t : Nat) (d0 : Nd) (hd : Sch.treeN ts as_ sz (f + 1) t = some d0) (IH : ∀ (k : Nat) (d : Nd), Sch.treeN ts as_ sz f k = some d → FnC Tryz.prog 56 [.lit (.pointer (some ⟨b, 0, none⟩)), .int ((k : Nat) : Int)] [.box b 76 [.sl 3 (ts.map tpv), .sl 2 (as_.map Au.avx), .sl 1 (sz.map AV.int)]] (fun r M => r = (d).av ∧ M = [.box b 76 [.sl 3 (ts.map tpv), .sl 2 (as_.map Au.avx), .sl 1 (sz.map AV.int)]])) : FnC Tryz.prog 56 [.lit (.pointer (some ⟨b, 0, none⟩)), .int ((t : Nat) : Int)] [.box b 76 [.sl 3 (ts.map tpv), .sl 2 (as_.map Au.avx), .sl 1 (sz.map AV.int)]] (fun r M => r = (d0).av ∧ M = [.box b 76 [.sl 3 (ts.map tpv), .sl 2 (as_.map Au.avx), .sl 1 (sz.map AV.int)]]) :=  by
  refine FnC.mk Tryz.func56 (by kernel_rfl) rfl Tryz.ntmps56 rfl (fun w0 F => ?_)
  have hnl : (ts.map tpv).length = ts.length := List.length_map ..
  have hasl : (as_.map Au.avx).length = as_.length := List.length_map ..
  have htl := Sch.treeN_lt hd
  have hgt := getD_mapG tpv Sch.dT ts t htl
  have hgA := getD_mapG Au.avx Sch.dA as_ t (by omega)
  have hAm := hsh _ (getD_memG Sch.dA as_ t (by omega))
  simp only [Sch.treeN] at hd
  rw [if_neg (by omega)] at hd
  obtain ⟨nm, hnm⟩ : ∃ n, (ts.getD t Sch.dT).name = n := ⟨_, rfl⟩
  rw [hnm] at hd
  generalize as_.getD t Sch.dA = A at hgA hAm hd
  generalize ts.getD t Sch.dT = tt at hgt hnm
  subst hnm
  refine W.seq ?_; refine W.region ?_; refine W.alloc ty35 rfl rfl ?_; intro b4; refine W.nil ?_; refine W.then ?_; refine W.seq ?_; refine W.seq ?_; refine W.region ?_; refine W.q (Ev.move (.t rfl)) rfl ?_; refine W.q (Ev.nilc (.t rfl)) rfl ?_
  (refine W.q (Ev.fab (.t rfl) fa76_0) rfl ?_)
  (refine W.q (Ev.ldb1 1 (.t rfl) rfl ag23 rfl) rfl ?_)
  refine W.q (Ev.move (.t rfl)) rfl ?_; refine W.q (Ev.at (E := 28) (.t rfl) (.t rfl) Tryz.underlying23 ty28 (fun hg => ⟨by omega, hgt⟩) rfl rfl) rfl ?_
  (refine W.q (Ev.fae (.t rfl) fa28_0 rfl) rfl ?_)
  (refine W.q (Ev.lde1 (.t rfl) ag9) rfl ?_)
  refine W.q (Ev.eqs (.t rfl) .k) rfl ?_; refine W.nil ?_; refine W.then ?_; refine W.cond (.t rfl) (fun hc_t16 => ?_) (fun hc_t16 => ?_)
  · have h0 : tt.name = [] := eq_of_beq hc_t16
    rw [if_pos h0] at hd
    obtain rfl := Option.some.inj hd
    refine W.seq ?_; refine W.region ?_; refine W.q (Ev.build ty35 st35 rfl (fun hg => ⟨_, _, _, rfl, .k, rfl, rfl, rfl, rfl⟩)) rfl ?_; refine W.nils (t := 17) (g := true) (cs' := [.str [], .sl 2 [], .str [120], .sl 4 []]) rfl ⟨.inl rfl, .inr ⟨rfl, 2, rfl⟩, .inl rfl, .inr ⟨rfl, 4, rfl⟩, trivial⟩ ?_
    (refine W.stb 0 (.t rfl) (.t rfl) rfl ty35 rfl rfl rfl ?_)
    refine W.nil ?_; refine W.then ?_; refine W.ret ?_; refine W.then_ret ?_; refine W.retn (M' := [.box b 76 [.sl 3 (ts.map tpv), .sl 2 (as_.map Au.avx), .sl 1 (sz.map AV.int)]]) (D := _) (rs := [.cell 4 35]) (avs := [_]) Tryz.results56 ⟨⟨_, _, _, rfl, by repeat ((exact List.mem_cons_self)), rfl, by funext w; exact ag35.run w, by funext w; exact ty35.size w⟩, trivial⟩ rfl (by (exact List.Perm.swap _ _ [])) ?_
    (exact ⟨rfl, rfl⟩)
  · have h0 : ¬ tt.name = [] := beq_eq_false_iff_ne.1 hc_t16
    rw [if_neg h0] at hd
    obtain ⟨w, hw⟩ : ∃ w, Sch.cheap sz A = some w := by
      cases h : Sch.cheap sz A with
      | none => rw [h] at hd; cases hd
      | some w => exact ⟨w, rfl⟩
    rw [hw] at hd
    dsimp only at hd
    obtain ⟨ps, hps⟩ : ∃ p, Sch.omap (fun (k : Int) => if k < 0 then none else Sch.treeN ts as_ sz f k.toNat) w = some p := by
      cases h : Sch.omap (fun (k : Int) => if k < 0 then none else Sch.treeN ts as_ sz f k.toNat) w with
      | none => rw [h] at hd; cases hd
      | some p => exact ⟨p, rfl⟩
    rw [hps] at hd
    obtain rfl := Option.some.inj hd
    have hpl := Sch.omap_len hps
    have hwl := Sch.cheap_len hw
    have hwm : (w.map AV.int).length = w.length := List.length_map ..
    obtain ⟨nm, hnm⟩ : ∃ n, tt.name = n := ⟨_, rfl⟩
    refine W.skip ?_; refine W.then ?_; refine W.seq ?_; refine W.region ?_; refine W.q (Ev.move (.t rfl)) rfl ?_; refine W.q (Ev.nilc (.t rfl)) rfl ?_
    (refine W.q (Ev.fab (.t rfl) fa76_0) rfl ?_)
    (refine W.q (Ev.ldb1 1 (.t rfl) rfl ag23 rfl) rfl ?_)
    refine W.q (Ev.move (.t rfl)) rfl ?_; refine W.q (Ev.at (E := 28) (.t rfl) (.t rfl) Tryz.underlying23 ty28 (fun hg => ⟨by omega, hgt⟩) rfl rfl) rfl ?_
    (refine W.q (Ev.fae (.t rfl) fa28_0 rfl) rfl ?_)
    (refine W.q (Ev.lde1 (.t rfl) ag9) rfl ?_)
    refine W.q (Ev.build ty35 st35 rfl (fun hg => ⟨_, _, _, rfl, (.t rfl), rfl, rfl, rfl, rfl⟩)) rfl ?_; refine W.nils (t := 26) (g := true) (cs' := [.str tt.name, .sl 2 [], .lit (.string ⟨#[]⟩), .lit (.slice none 0 0)]) rfl ⟨.inl rfl, .inr ⟨rfl, 2, rfl⟩, .inl rfl, .inl rfl, trivial⟩ ?_; refine W.alloc ty35 rfl rfl ?_; intro b5
    (refine W.stb 0 (.t rfl) (.t rfl) rfl ty35 rfl rfl rfl ?_)
    refine W.nil ?_; refine W.then ?_; refine W.seq ?_; refine W.seq ?_; refine W.region ?_; refine W.q (Ev.move (.t rfl)) rfl ?_; refine W.q (Ev.move (.t rfl)) rfl ?_; refine W.q (Ev.nilc (.t rfl)) rfl ?_
    (refine W.q (Ev.fab (.t rfl) fa76_1) rfl ?_)
    (refine W.q (Ev.ldb1 2 (.t rfl) rfl ag74 rfl) rfl ?_)
    refine W.q (Ev.move (.t rfl)) rfl ?_; refine W.q (Ev.at (E := 62) (.t rfl) (.t rfl) Tryz.underlying74 ty62 (fun hg => ⟨by omega, hgA⟩) rfl rfl) rfl ?_
    (refine W.q (Ev.lden (.t rfl) ag62 ty62 rfl rfl) rfl ?_)
    refine W.call (WCheap.c_cheapest b ts as_ sz A hAm.1 hAm.2.1 (fun r hr k hk h => by rw [hsl]; exact hAm.2.2 r hr k hk h) w hw) ⟨(.t rfl), (.t rfl), trivial⟩ (((List.perm_middle (l₁ := [_, _])).trans <| List.Perm.cons _ <| List.Perm.cons _ <| List.Perm.cons _ <| .refl _)) rfl ?_
    rintro _ _ ⟨rfl, rfl⟩
    refine W.perm ((List.perm_middle (l₁ := [_])).trans <| List.Perm.cons _ <| (List.perm_middle (l₁ := [_])).trans <| List.Perm.cons _ <| List.Perm.cons _ <| .refl _) ?_
    (refine W.q (Ev.lensl (.t rfl) Tryz.underlying22) rfl ?_)
    refine W.q (Ev.move .k) rfl ?_; refine W.nil ?_; refine W.then ?_; refine W.block ?_
    rw [hnm]
    refine W.own_nil 35 4 ?_; refine W.loop (D := []) (ι := Nat × Value) (fun z => [(37, true, .int (z.1 : Int)), (36, true, .int ((w.map AV.int).length : Int)), (35, true, .sl 1 (w.map AV.int)), (0, true, .lit (.pointer (some ⟨b, 0, none⟩))), (5, true, .lit (.pointer (some ⟨b5, 0, none⟩))), (4, true, .lit (.pointer (some ⟨b4, 0, none⟩)))]) (fun z => .arr z.2 35 4 ((ps.take z.1).map Nd.av) :: .box b5 35 [.str nm, .sl 2 [], .lit (.string ⟨#[]⟩), .lit z.2] :: .box b4 35 [.lit (.string ⟨#[]⟩), .lit (.slice none 0 0), .lit (.string ⟨#[]⟩), .lit (.slice none 0 0)] :: [.box b 76 [.sl 3 (ts.map tpv), .sl 2 (as_.map Au.avx), .sl 1 (sz.map AV.int)]]) (fun z => z.1 ≤ w.length) (fun z => w.length - z.1) (0, .slice none 0 0) ⟨rfl, rfl, rfl, rfl, rfl, rfl, trivial⟩ (.refl _) (Nat.zero_le _) ?_
    rintro ⟨i, vp⟩ hi
    dsimp only at hi ⊢
    rcases (show i < w.length ∨ i = w.length from by omega) with hlt | hend
    · have hgw := getD_map w i hlt
      have hoa := Sch.omap_at 0 Nd.dflt hps i hlt
      have htk := take_getDG Nd.dflt ps i (by omega)
      obtain ⟨d, hdd⟩ : ∃ d, ps.getD i Nd.dflt = d := ⟨_, rfl⟩
      rw [hdd] at hoa htk
      obtain ⟨kz, hkz⟩ : ∃ k, w.getD i 0 = k := ⟨_, rfl⟩
      rw [hkz] at hgw hoa
      have hk0 : ¬ kz < 0 := by intro h; rw [if_pos h] at hoa; cases hoa
      rw [if_neg hk0] at hoa
      have hIH := IH _ _ hoa
      rw [Nd.av_eq] at hIH
      rw [show ((kz.toNat : Nat) : Int) = kz from by omega] at hIH
      refine W.seq ?_; refine W.region ?_; refine W.q (Ev.lti (.t rfl) (.t rfl)) rfl ?_; refine W.nil ?_; refine W.then ?_; refine W.seq ?_; refine W.is (t := 38) (g := true) (av' := .lit (.bool true)) rfl (congrArg (fun b => AV.lit (.bool b)) (by exact decide_eq_true (by omega))) ?_; refine W.condT (.t rfl) ?_; refine W.skip ?_; refine W.then ?_; refine W.seq ?_; refine W.block ?_; refine W.seq ?_; refine W.region ?_; refine W.q (Ev.at (E := 3) (.t rfl) (.t rfl) Tryz.underlying22 ty3 (fun hg => ⟨by omega, hgw⟩) rfl rfl) rfl ?_
      (refine W.q (Ev.lde1 (.t rfl) ag3) rfl ?_)
      refine W.q (Ev.assign (.t rfl)) rfl ?_; refine W.nil ?_; refine W.then ?_; refine W.drawnE (ι := Value) (fun ee c => (bif ee 6 then ME.arr c 35 4 (((ps.take i).map Nd.av) ++ [Nd.avx d]) else ME.arr vp 35 4 ((ps.take i).map Nd.av)) :: ME.box b5 35 [.str nm, .sl 2 [], .lit (.string ⟨#[]⟩), bif ee 8 then .lit c else .lit vp] :: .box b4 35 [.lit (.string ⟨#[]⟩), .lit (.slice none 0 0), .lit (.string ⟨#[]⟩), .lit (.slice none 0 0)] :: [.box b 76 [.sl 3 (ts.map tpv), .sl 2 (as_.map Au.avx), .sl 1 (sz.map AV.int)]]) 6 vp (by kernel_rfl) (by kernel_rfl) rfl ?_
      (refine DE.q (fun e c hk => (Ev.fab (.t rfl) fa35_3)) rfl (fun _ _ => rfl) (by (exact .inr (fun _ _ => rfl))) ?_)
      refine DE.q (av := fun _ => .lit vp) (fun e c hk => by have h := hk.down 8 (by kernel_rfl); simp only [h, cond_false]; exact Ev.ldb1 1 (.t rfl) rfl ag33 rfl) rfl (fun _ _ => rfl) (by (exact .inr (fun _ _ => rfl))) ?_; refine DE.q (fun e c hk => (Ev.move (.t rfl))) rfl (fun _ _ => rfl) (by (exact .inr (fun _ _ => rfl))) ?_; refine DE.q (fun e c hk => (Ev.move (.t rfl))) rfl (fun _ _ => rfl) (by (exact .inr (fun _ _ => rfl))) ?_; refine DE.callm (fun c => hIH) (fun e c => ⟨_, by exact (List.perm_append_comm (l₁ := [_, _, _]) (l₂ := [_]))⟩) (fun c => ⟨(.t rfl), (.t rfl), trivial⟩) rfl (fun _ _ => rfl) (by (exact .inr (fun _ _ => rfl))) ?_; refine DE.bs (es := fun _ => [_]) Tryz.underlying33 ty35 (fun c => ⟨rfl, (.t rfl), rfl, rfl, trivial⟩) (fun _ => rfl) (by decide) rfl rfl (fun _ _ => rfl) (by (exact .inr (fun _ _ => rfl))) ?_; refine DE.eff1 (av := fun v => .lit v) rfl rfl (fun e c hk L_ hs Q h => ?_) ?_
      · have hk_6 := hk.not
        have hk_8 := hk.down 8 (by kernel_rfl)
        simp only [addE, hk_6, hk_8, Nat.reduceAdd, Nat.reduceEqDiff, ↓reduceIte, cond_true, cond_false] at h ⊢
        ((refine W.app 0 (.t (hs _ _ rfl)) rfl (.sl (.t (hs _ _ rfl)) (by intro e he; rw [List.mem_singleton.1 he]; rfl)) Tryz.underlying33 ni33 ty35 rfl rfl (by rw [List.length_map, List.length_take]; simp only [List.length_cons, List.length_nil]; omega) rfl ?_; exact h))
      (refine DE.q (fun e c hk => (Ev.fab (.t rfl) fa35_3)) rfl (fun _ _ => rfl) (by (exact .inr (fun _ _ => rfl))) ?_)
      refine DE.eff0 (fun e c hk L_ hs Q h => ?_) ?_
      · have hk_8 := hk.not
        have hk_6 := hk.up 6 (by kernel_rfl)
        simp only [addE, hk_8, hk_6, Nat.reduceAdd, Nat.reduceEqDiff, ↓reduceIte, cond_true, cond_false] at h ⊢
        refine W.arr_inv 0 rfl (fun a9 n9 c9 h9 => ?_)
        subst h9
        refine W.stb 1 (.t (hs _ _ rfl)) (.t (hs _ _ rfl)) rfl ty33 rfl rfl rfl ?_
        exact h
      refine DE.nil (fun v47 e_ he_ => ?_)
      simp only [he_ 6 (by decide), he_ 8 (by decide), cond_true, cond_false]
      refine W.blk_normal ?_; refine W.then ?_; refine W.region ?_
      (refine W.q (Ev.add (.t rfl) .k (fun _ => by omega)) rfl ?_)
      refine W.q (Ev.move (.t rfl)) rfl ?_; refine W.nil ?_; refine W.then ?_; refine W.reach (D := []) (i + 1, v47) ⟨rfl, rfl, rfl, rfl, rfl, rfl, trivial⟩ ?_ ⟨hlt, by show w.length - (i + 1) < w.length - i; omega⟩
      dsimp only
      rw [htk, Nd.map_snoc]
      exact .refl _
    · subst hend
      rw [List.take_of_length_le (by omega)]
      refine W.seq ?_; refine W.region ?_; refine W.q (Ev.lti (.t rfl) (.t rfl)) rfl ?_; refine W.nil ?_; refine W.then ?_; refine W.seq ?_; refine W.is (t := 38) (g := true) (av' := .lit (.bool false)) rfl (congrArg (fun b => AV.lit (.bool b)) (by exact decide_eq_false (by omega))) ?_; refine W.condF (.t rfl) ?_; refine W.exit ?_; refine W.then_exit ?_; refine W.then_exit ?_; refine W.blk_hit ?_; refine W.then ?_; refine W.seq ?_; refine W.region ?_; refine W.freezeA (M1 := .box b5 35 [.str nm, .sl 2 [], .lit (.string ⟨#[]⟩), .lit vp] :: .box b4 35 [.lit (.string ⟨#[]⟩), .lit (.slice none 0 0), .lit (.string ⟨#[]⟩), .lit (.slice none 0 0)] :: [.box b 76 [.sl 3 (ts.map tpv), .sl 2 (as_.map Au.avx), .sl 1 (sz.map AV.int)]]) (M2 := .box b5 35 [.str nm, .sl 2 [], .lit (.string ⟨#[]⟩), .sl 4 (ps.map Nd.av)] :: .box b4 35 [.lit (.string ⟨#[]⟩), .lit (.slice none 0 0), .lit (.string ⟨#[]⟩), .lit (.slice none 0 0)] :: [.box b 76 [.sl 3 (ts.map tpv), .sl 2 (as_.map Au.avx), .sl 1 (sz.map AV.int)]]) (D := []) (v := vp) (L' := []) (.refl _) trivial ⟨.box ⟨.refl _, .refl _, .refl _, .hit, trivial⟩, FrzMs.refl _⟩ ?_
      (refine W.q (Ev.ldbn 0 (.t rfl) rfl ag35 ty35 rfl) rfl ?_)
      (refine W.stb 1 (.t rfl) (.t rfl) rfl ty35 rfl rfl rfl ?_)
      refine W.nil ?_; refine W.then ?_; refine W.ret ?_; refine W.retn (M' := [.box b 76 [.sl 3 (ts.map tpv), .sl 2 (as_.map Au.avx), .sl 1 (sz.map AV.int)]]) (D := _) (rs := [.cell 4 35]) (avs := [_]) Tryz.results56 ⟨⟨_, _, _, rfl, by repeat (first | exact List.mem_cons_self | apply List.mem_cons_of_mem), rfl, by funext w; exact ag35.run w, by funext w; exact ty35.size w⟩, trivial⟩ rfl (by (exact (List.perm_append_comm (l₁ := [_, _]) (l₂ := [_])))) ?_
      (exact ⟨by rw [Nd.av, Nd.avs_map]; rfl, rfl⟩)

theorem c_Tree (b : Nat) (ts : List Tp) (as_ : List Au) (sz : List Int) (hal : as_.length = ts.length) (hts : ts.length ≤ 100) (hsl : sz.length = ts.length) (hsh : ∀ A ∈ as_, A.Shape ∧ A.next.length ≤ 100 ∧ ∀ r ∈ A.next, ∀ k, k < 8 → 0 ≤ r.getD k (-1) → k < ts.length) : ∀ (f t : Nat) (d : Nd), Sch.treeN ts as_ sz f t = some d → FnC Tryz.prog 56 [.lit (.pointer (some ⟨b, 0, none⟩)), .int ((t : Nat) : Int)] [.box b 76 [.sl 3 (ts.map tpv), .sl 2 (as_.map Au.avx), .sl 1 (sz.map AV.int)]] (fun r M => r = (d).av ∧ M = [.box b 76 [.sl 3 (ts.map tpv), .sl 2 (as_.map Au.avx), .sl 1 (sz.map AV.int)]])
  | 0, _, _, h => by cases h
  | f + 1, t, d, h => c_TreeX b ts as_ sz hal hts hsl hsh f t d h (c_Tree b ts as_ sz hal hts hsl hsh f)

end WSTree

end Go.Proofs.YtphlkdbglpcikaaGreatDoor
end

section
set_option linter.unusedVariables false
set_option linter.unusedSimpArgs false
set_option maxRecDepth 100000
namespace Go.Proofs.YtphlkdbglpcikaaGreatDoor
open Go.Vl

namespace WFill
theorem ty9 : Ty Tryz.prog 9 1 16 (.string ⟨#[]⟩) := Ty.of (by kernel_rfl)
theorem ty22 : Ty Tryz.prog 22 1 24 (.slice none 0 0) := Ty.of (by kernel_rfl)
theorem ty28 : Ty Tryz.prog 28 3 56 (.agg #[.string ⟨#[]⟩, .string ⟨#[]⟩, .slice none 0 0]) := Ty.of (by kernel_rfl)
theorem ty35 : Ty Tryz.prog 35 4 80 (.agg #[.string ⟨#[]⟩, .slice none 0 0, .string ⟨#[]⟩, .slice none 0 0]) := Ty.of (by kernel_rfl)
theorem ag9 : IsAgg Tryz.prog 9 false := ⟨_, Tryz.underlying9, rfl⟩
theorem ag22 : IsAgg Tryz.prog 22 false := ⟨_, Tryz.underlying22, rfl⟩
theorem ag35 : IsAgg Tryz.prog 35 true := ⟨_, Tryz.underlying35, rfl⟩
theorem fa28_0 : FieldAt Tryz.prog 28 0 0 1 false := ⟨_, _, Tryz.underlying28, rfl, rfl, ty9.size, ag9, by decide⟩
theorem fa35_0 : FieldAt Tryz.prog 35 0 0 1 false := ⟨_, _, Tryz.underlying35, rfl, rfl, ty9.size, ag9, by decide⟩
theorem fa76_2 : FieldAt Tryz.prog 76 2 2 1 false := ⟨_, _, Tryz.underlying76, rfl, rfl, ty22.size, ag22, by decide⟩
theorem ni23 : NotInt Tryz.prog 23 := .inl ⟨_, Tryz.underlying23⟩
theorem c_Sizes (ts : List Tp) (as_ : List Au) (hg : Sch.Good ts as_) (fin : List Int) (hfin : Sch.sizesOf ts as_ = some fin) (hall : (fin.any fun n => n == 0 || decide (150 < n)) = false) (M0 : List ME) (hI : ∀ n : Int, -1 ≤ n → n < 100 → FnC Tryz.prog 107 [.int n] M0 (fun r M => r = .str (itoa n) ∧ M = M0)) : FnC Tryz.prog 14 [.sl 3 (ts.map tpv)] M0 (fun r M => r = .tup [.sl 1 (fin.map AV.int), .int 0] ∧ M = M0) :=  by
  refine FnC.mk Tryz.func14 (by kernel_rfl) rfl Tryz.ntmps14 rfl (fun w0 F => ?_)
  refine W.seq ?_; refine W.region ?_; refine W.q (Ev.assign .k) rfl ?_; refine W.q (Ev.assign .k) rfl ?_; refine W.nil ?_; refine W.then ?_; refine W.seq ?_; refine W.region ?_; refine W.q (Ev.move (.t rfl)) rfl ?_; refine W.call (WNew.c_New ts as_ hg fin hfin hall M0 hI) ⟨(.t rfl), trivial⟩ ((List.Perm.of_eq (List.append_nil M0).symm)) rfl ?_
  rintro _ M' ⟨b9, rfl, hM'⟩
  rw [hM']
  refine W.q (Ev.move (.t rfl)) rfl ?_; refine W.q (Ev.extract (.t rfl) rfl) rfl ?_; refine W.q (Ev.extract (.t rfl) rfl) rfl ?_; refine W.q (Ev.assign (.t rfl)) rfl ?_; refine W.q (Ev.assign (.t rfl)) rfl ?_; refine W.nil ?_; refine W.then ?_; refine W.seq ?_; refine W.seq ?_; refine W.region ?_; refine W.q (Ev.move (.t rfl)) rfl ?_; refine W.q (Ev.nei (.t rfl) .k) rfl ?_; refine W.nil ?_; refine W.then ?_; refine W.is (t := 12) (g := true) (av' := .lit (.bool false)) rfl (congrArg (fun b => AV.lit (.bool b)) (by rfl)) ?_; refine W.condF (.t rfl) ?_; refine W.skip ?_; refine W.then ?_; refine W.seq ?_; refine W.region ?_; refine W.q (Ev.move (.t rfl)) rfl ?_; refine W.q (Ev.nilc (.t rfl)) rfl ?_
  (refine W.q (Ev.fab (.t rfl) fa76_2) rfl ?_)
  (refine W.q (Ev.ldb1 0 (.t rfl) rfl ag22 rfl) rfl ?_)
  refine W.q (Ev.assign (.t rfl)) rfl ?_; refine W.q (Ev.assign .k) rfl ?_; refine W.nil ?_; refine W.then ?_; refine W.ret ?_; refine W.retn (M' := M0) (D := [.box b9 76 [.sl 3 (ts.map tpv), .sl 2 (as_.map Au.avx), .sl 1 (fin.map AV.int)]]) (rs := [.tmp 2, .tmp 3]) (avs := [_, _]) Tryz.results14 ⟨rfl, rfl, trivial⟩ rfl (by rw [List.append_nil]; exact List.perm_append_comm (l₁ := [_])) ?_
  exact ⟨rfl, rfl⟩

theorem c_Fill (ts : List Tp) (as_ : List Au) (hg : Sch.Good ts as_) (fin : List Int) (hfin : Sch.sizesOf ts as_ = some fin) (hall : (fin.any fun n => n == 0 || decide (150 < n)) = false) (f t : Nat) (d : Nd) (hd : Sch.treeN ts as_ fin f t = some d) (M0 : List ME) (hI : ∀ n : Int, -1 ≤ n → n < 100 → FnC Tryz.prog 107 [.int n] M0 (fun r M => r = .str (itoa n) ∧ M = M0)) : FnC Tryz.prog 31 [.sl 3 (ts.map tpv), .int (t : Int)] M0 (fun r M => r = .tup [d.av, .int 0] ∧ M = M0) :=  by
  refine FnC.mk Tryz.func31 (by kernel_rfl) rfl Tryz.ntmps31 rfl (fun w0 F => ?_)
  have hnl : (ts.map tpv).length = ts.length := List.length_map ..
  have hsl : fin.length = ts.length := by
    have := Sch.mso_len 10 _ _ hfin
    rwa [List.length_replicate] at this
  have htl := Sch.treeN_lt hd
  have hte : ∀ b, FnC Tryz.prog 56 [.lit (.pointer (some ⟨b, 0, none⟩)), .int (t : Int)] [.box b 76 [.sl 3 (ts.map tpv), .sl 2 (as_.map Au.avx), .sl 1 (fin.map AV.int)]] (fun r M => r = Nd.avx d ∧ M = [.box b 76 [.sl 3 (ts.map tpv), .sl 2 (as_.map Au.avx), .sl 1 (fin.map AV.int)]]) := fun b => by
    have h := WSTree.c_Tree b ts as_ fin hg.has (by have := hg.len; omega) hsl hg.sh f t d hd
    rwa [Nd.av_eq] at h
  refine W.seq ?_; refine W.region ?_; refine W.alloc ty35 rfl rfl ?_; intro b4; refine W.q (Ev.assign .k) rfl ?_; refine W.nil ?_; refine W.then ?_; refine W.seq ?_; refine W.region ?_; refine W.q (Ev.move (.t rfl)) rfl ?_; refine W.call (WNew.c_New ts as_ hg fin hfin hall M0 hI) ⟨(.t rfl), trivial⟩ ((List.perm_append_comm (l₁ := [_]))) rfl ?_
  rintro _ M' ⟨b9, rfl, hM'⟩
  rw [hM']
  refine W.perm (M' := .box b9 76 [.sl 3 (ts.map tpv), .sl 2 (as_.map Au.avx), .sl 1 (fin.map AV.int)] :: .box b4 35 [.lit (.string ⟨#[]⟩), .lit (.slice none 0 0), .lit (.string ⟨#[]⟩), .lit (.slice none 0 0)] :: M0) (List.Perm.cons _ (List.perm_append_comm (l₂ := [_]))) ?_; refine W.q (Ev.move (.t rfl)) rfl ?_; refine W.q (Ev.extract (.t rfl) rfl) rfl ?_; refine W.q (Ev.extract (.t rfl) rfl) rfl ?_; refine W.q (Ev.assign (.t rfl)) rfl ?_; refine W.q (Ev.assign (.t rfl)) rfl ?_; refine W.nil ?_; refine W.then ?_; refine W.seq ?_; refine W.block ?_; refine W.seq ?_; refine W.region ?_; refine W.q (Ev.move (.t rfl)) rfl ?_; refine W.q (Ev.nei (.t rfl) .k) rfl ?_; refine W.q (Ev.assign (.t rfl)) rfl ?_; refine W.nil ?_; refine W.then ?_; refine W.is (t := 13) (g := true) (av' := .lit (.bool false)) rfl (congrArg (fun b => AV.lit (.bool b)) (by rfl)) ?_; refine W.condF (.t rfl) ?_; refine W.seq ?_; refine W.region ?_; refine W.q (Ev.move (.t rfl)) rfl ?_; refine W.q (Ev.lti (.t rfl) .k) rfl ?_; refine W.q (Ev.move (.t rfl)) rfl ?_; refine W.qgF rfl rfl (Ev.move (.t rfl)) rfl ?_; refine W.qgF rfl rfl (Ev.move (.t rfl)) rfl ?_
  (refine W.qgF rfl rfl (Ev.lensl (.c rfl) Tryz.underlying23) rfl ?_)
  refine W.qgF rfl rfl (Ev.gei (.c rfl) (.c rfl)) rfl ?_; refine W.q (Ev.or (.t rfl) ⟨_, _, rfl, rfl, by ((simp; done))⟩) rfl ?_; refine W.q (Ev.assign (.t rfl)) rfl ?_; refine W.nil ?_; refine W.then ?_; refine W.is (t := 18) (g := true) (av' := .lit (.bool false)) rfl (congrArg (fun b => AV.lit (.bool b)) (by simp; omega)) ?_; refine W.condF (.t rfl) ?_; refine W.skip ?_; refine W.blk_normal ?_; refine W.then ?_; refine W.seq ?_; refine W.region ?_; refine W.q (Ev.move (.t rfl)) rfl ?_; refine W.q (Ev.move (.t rfl)) rfl ?_; refine W.call (hte b9) ⟨(.t rfl), (.t rfl), trivial⟩ ((List.Perm.refl _)) rfl ?_
  rintro _ _ ⟨rfl, rfl⟩
  (refine W.stb 1 (.t rfl) (.t rfl) rfl ty35 rfl rfl rfl ?_)
  refine W.q (Ev.assign .k) rfl ?_; refine W.nil ?_; refine W.then ?_; refine W.ret ?_; refine W.retn (M' := M0) (D := _) (rs := [.cell 4 35, .tmp 5]) (avs := [_, _]) Tryz.results31 ⟨⟨_, _, _, rfl, by repeat (first | exact List.mem_cons_self | apply List.mem_cons_of_mem), rfl, by funext w; exact ag35.run w, by funext w; exact ty35.size w⟩, rfl, trivial⟩ rfl (List.perm_append_comm (l₁ := [_, _])) ?_
  exact ⟨by rw [Nd.av_eq]; rfl, rfl⟩

theorem treeN_name {ts : List Tp} {as_ : List Au} {sz : List Int} : ∀ {f t : Nat} {d : Nd}, Sch.treeN ts as_ sz f t = some d → d.name = (ts.getD t Sch.dT).name
  | 0, t, d, h => by cases h
  | f + 1, t, d, h => by
    simp only [Sch.treeN] at h
    split at h
    · cases h
    · split at h
      · rename_i h1; rw [← Option.some.inj h]; exact h1.symm
      · split at h
        · cases h
        · split at h
          · cases h
          · rw [← Option.some.inj h]; rfl

theorem c_filled (ts : List Tp) (as_ : List Au) (hg : Sch.Good ts as_) (fin : List Int) (hfin : Sch.sizesOf ts as_ = some fin) (hall : (fin.any fun n => n == 0 || decide (150 < n)) = false) (f t : Nat) (d : Nd) (hd : Sch.treeN ts as_ fin f t = some d) (M0 : List ME) (hI : ∀ n : Int, -1 ≤ n → n < 100 → FnC Tryz.prog 107 [.int n] M0 (fun r M => r = .str (itoa n) ∧ M = M0)) : FnC Tryz.prog 15 [.sl 3 (ts.map tpv), .int (t : Int)] M0 (fun r M => r = .tup [d.av, .bool true] ∧ M = M0) :=  by
  refine FnC.mk Tryz.func15 (by kernel_rfl) rfl Tryz.ntmps15 rfl (fun w0 F => ?_)
  have hnl : (ts.map tpv).length = ts.length := List.length_map ..
  have hsl : fin.length = ts.length := by
    have := Sch.mso_len 10 _ _ hfin
    rwa [List.length_replicate] at this
  have htl := Sch.treeN_lt hd
  have hlen8 := hg.len
  have hgt := getD_mapG tpv Sch.dT ts t htl
  have hnm := treeN_name hd
  have hF := c_Fill ts as_ hg fin hfin hall f t d hd M0 hI
  rw [Nd.av_eq] at hF
  refine W.seq ?_; refine W.region ?_; refine W.alloc ty35 rfl rfl ?_; intro b4; refine W.q (Ev.assign .k) rfl ?_; refine W.nil ?_; refine W.then ?_; refine W.seq ?_; refine W.region ?_; refine W.q (Ev.move (.t rfl)) rfl ?_
  (refine W.app0 .k (.sl (.t rfl) (by intro e he; obtain ⟨t_, _, rfl⟩ := List.mem_map.1 he; rfl)) Tryz.underlying23 ni23 ty28 rfl rfl (by rw [List.length_map]; omega) rfl ?_)
  refine W.q (Ev.move (.t rfl)) rfl ?_; refine W.call (hF) ⟨(.t rfl), (.t rfl), trivial⟩ ((List.perm_append_comm (l₁ := [_]))) rfl ?_
  rintro _ M' ⟨rfl, hM'⟩
  rw [hM']
  refine W.perm (List.perm_append_comm (l₂ := [_])) ?_; refine W.q (Ev.move (.t rfl)) rfl ?_; refine W.q (Ev.extract (.t rfl) rfl) rfl ?_; refine W.q (Ev.extract (.t rfl) rfl) rfl ?_; refine W.alloc ty35 rfl rfl ?_; intro b6
  (refine W.stb 0 (.t rfl) (.t rfl) rfl ty35 rfl rfl rfl ?_)
  refine W.q (Ev.assign (.t rfl)) rfl ?_; refine W.nil ?_; refine W.then ?_; refine W.seq ?_; refine W.drawnE (ι := Unit) (fun ee _ => .box b6 35 (Nd.avx d).cells :: .box b4 35 (bif ee 13 then (Nd.avx d).cells else [.lit (.string ⟨#[]⟩), .lit (.slice none 0 0), .lit (.string ⟨#[]⟩), .lit (.slice none 0 0)]) :: M0) 15 () (by kernel_rfl) (by kernel_rfl) rfl ?_
  (refine DE.q (fun e c hk => (Ev.ldbn 0 (.t rfl) rfl ag35 ty35 rfl)) rfl (fun _ _ => rfl) (by (exact .inr (fun _ _ => rfl))) ?_)
  refine DE.q (fun e c hk => (Ev.move (.t rfl))) rfl (fun _ _ => rfl) (by (exact .inr (fun _ _ => rfl))) ?_; refine DE.q (fun e c hk => (Ev.eqi (.t rfl) .k)) rfl (fun _ _ => rfl) (by (exact .inr (fun _ _ => rfl))) ?_; refine DE.q (fun e c hk => (Ev.move (.t rfl))) rfl (fun _ _ => rfl) (by (exact .inr (fun _ _ => rfl))) ?_
  (refine DE.qg rfl (fun _ => rfl) (fun e c hk => (Ev.fab (.t rfl) fa35_0)) rfl (fun _ _ => rfl) (by (exact .inr (fun _ _ => rfl))) ?_)
  (refine DE.qg rfl (fun _ => rfl) (fun e c hk => (Ev.ldb1 0 (.c rfl) rfl ag9 rfl)) rfl (fun _ _ => rfl) (by (exact .inr (fun _ _ => rfl))) ?_)
  refine DE.qg rfl (fun _ => rfl) (fun e c hk => (Ev.move (.t rfl))) rfl (fun _ _ => rfl) (by (exact .inr (fun _ _ => rfl))) ?_; refine DE.qg rfl (fun _ => rfl) (fun e c hk => (Ev.move (.t rfl))) rfl (fun _ _ => rfl) (by (exact .inr (fun _ _ => rfl))) ?_; refine DE.qg rfl (fun _ => rfl) (fun e c hk => Ev.at (E := 28) (.c rfl) (.c rfl) Tryz.underlying23 ty28 (fun _ => ⟨by omega, hgt⟩) rfl rfl) rfl (fun _ _ => rfl) (by (exact .inr (fun _ _ => rfl))) ?_
  (refine DE.qg rfl (fun _ => rfl) (fun e c hk => (Ev.fae (.c rfl) fa28_0 rfl)) rfl (fun _ _ => rfl) (by (exact .inr (fun _ _ => rfl))) ?_)
  (refine DE.qg rfl (fun _ => rfl) (fun e c hk => (Ev.lde1 (.c rfl) ag9)) rfl (fun _ _ => rfl) (by (exact .inr (fun _ _ => rfl))) ?_)
  refine DE.qg rfl (fun _ => rfl) (fun e c hk => (Ev.eqs (.c rfl) (.c rfl))) rfl (fun _ _ => rfl) (by (exact .inr (fun _ _ => rfl))) ?_; refine DE.q (fun e c hk => (Ev.and (.t rfl) ⟨_, _, rfl, rfl, by ((simp; done))⟩)) rfl (fun _ _ => rfl) (by (exact .inr (fun _ _ => rfl))) ?_; refine DE.eff0 (fun e c hk L_ hs Q h => ?_) ?_
  · have hk_13 := hk.not
    simp only [addE, hk_13, Nat.reduceAdd, Nat.reduceEqDiff, ↓reduceIte, cond_true, cond_false] at h ⊢
    ((refine W.stb 1 (.t (hs _ _ rfl)) (.t (hs _ _ rfl)) rfl ty35 rfl rfl rfl ?_; exact h))
  refine DE.q (fun e c hk => (Ev.assign (.t rfl))) rfl (fun _ _ => rfl) (by (exact .inr (fun _ _ => rfl))) ?_; refine DE.nil (fun c_ e_ he_ => ?_)
  simp only [he_ 13 (by decide), cond_true, cond_false]
  refine W.then ?_; refine W.ret ?_; refine W.retn (M' := M0) (D := _) (rs := [.cell 4 35, .tmp 5]) (avs := [_, _]) Tryz.results15 ⟨⟨_, _, _, rfl, by repeat (first | exact List.mem_cons_self | apply List.mem_cons_of_mem), rfl, by funext w; exact ag35.run w, by funext w; exact ty35.size w⟩, rfl, trivial⟩ rfl (List.perm_append_comm (l₁ := [_, _])) ?_
  exact ⟨by rw [Nd.av_eq]; show AV.tup [Nd.avx d, AV.bool _] = _; rw [hnm]; simp, rfl⟩

end WFill

end Go.Proofs.YtphlkdbglpcikaaGreatDoor
end

section
set_option linter.unusedVariables false
set_option linter.unusedSimpArgs false
set_option maxRecDepth 100000
namespace Go.Proofs.YtphlkdbglpcikaaGreatDoor
open Go.Vl

namespace WTypes
theorem ty3 : Ty Tryz.prog 3 1 8 (.int .i64 0) := Ty.of (by kernel_rfl)
theorem ty9 : Ty Tryz.prog 9 1 16 (.string ⟨#[]⟩) := Ty.of (by kernel_rfl)
theorem ty26 : Ty Tryz.prog 26 1 24 (.slice none 0 0) := Ty.of (by kernel_rfl)
theorem ty28 : Ty Tryz.prog 28 3 56 (.agg #[.string ⟨#[]⟩, .string ⟨#[]⟩, .slice none 0 0]) := Ty.of (by kernel_rfl)
theorem ag3 : IsAgg Tryz.prog 3 false := ⟨_, Tryz.underlying3, rfl⟩
theorem ag9 : IsAgg Tryz.prog 9 false := ⟨_, Tryz.underlying9, rfl⟩
theorem ag22 : IsAgg Tryz.prog 22 false := ⟨_, Tryz.underlying22, rfl⟩
theorem st28 : StructAt Tryz.prog 28 [(0, 1), (1, 1), (2, 1)] := ⟨_, Tryz.underlying28, rfl, ty9.size, rfl, ty9.size, rfl, ty26.size, trivial⟩
theorem pk_lt (l : List Int) (i n : Nat) (hn : 0 < n) : Sch.pk l i n < n := by
  unfold Sch.pk
  split
  · exact hn
  · have h1 := Int.emod_nonneg (l.getD i 0) (by omega : (n : Int) ≠ 0)
    have h2 := Int.emod_lt_of_pos (l.getD i 0) (by omega : (0 : Int) < n)
    omega
theorem pick_txt (ks : List Nat) (k : Nat) (hk : k < ks.length) : (ks.map Sch.txt).getD k [] = Sch.txt (ks.getD k 0) := by
  rw [List.getD_eq_getElem?_getD, List.getElem?_map, List.getD_eq_getElem?_getD, List.getElem?_eq_getElem hk]; rfl

theorem c_pick (b : Nat) (l : List Int) (i : Nat) (hi : i < 100) (hl : l.length ≤ 1099511627776) (ss : List (List UInt8)) (hs : 0 < ss.length) (hs2 : ss.length < 100) : FnC Tryz.prog 29 [.int (i : Int), .sl 1 (ss.map AV.str), .lit (.pointer (some ⟨b, 0, none⟩))] [.box b 22 [.sl 1 (l.map AV.int)]] (fun r M => r = .str (ss.getD (Sch.pk l i ss.length) []) ∧ M = [.box b 22 [.sl 1 (l.map AV.int)]]) :=  by
  refine FnC.mk Tryz.func29 (by kernel_rfl) rfl Tryz.ntmps29 rfl (fun w0 F => ?_)
  have hsl : (ss.map AV.str).length = ss.length := List.length_map ..
  have hll : (l.map AV.int).length = l.length := List.length_map ..
  have hg0 := getD_mapG AV.str [] ss 0 hs
  refine W.seq ?_; refine W.region ?_; refine W.q (Ev.assign .k) rfl ?_; refine W.nil ?_; refine W.then ?_; refine W.seq ?_; refine W.seq ?_; refine W.region ?_; refine W.q (Ev.move (.t rfl)) rfl ?_
  (refine W.q (Ev.ldb1 0 (.t rfl) rfl ag22 rfl) rfl ?_)
  (refine W.q (Ev.lensl (.t rfl) Tryz.underlying22) rfl ?_)
  refine W.q (Ev.gei (.t rfl) (.t rfl)) rfl ?_; refine W.nil ?_; refine W.then ?_; refine W.cond (.t rfl) (fun hc_t9 => ?_) (fun hc_t9 => ?_)
  · have h9 := of_decide_eq_true hc_t9
    have hpk : Sch.pk l i ss.length = 0 := if_pos (by omega)
    refine W.seq ?_; refine W.region ?_; refine W.q (Ev.move (.t rfl)) rfl ?_; refine W.q (Ev.at (E := 9) (.t rfl) .k Tryz.underlying26 ty9 (fun _ => ⟨by omega, hg0⟩) rfl rfl) rfl ?_
    (refine W.q (Ev.lde1 (.t rfl) ag9) rfl ?_)
    refine W.q (Ev.assign (.t rfl)) rfl ?_; refine W.nil ?_; refine W.then ?_; refine W.ret ?_; refine W.then_ret ?_; refine W.retn (M' := [.box b 22 [.sl 1 (l.map AV.int)]]) (D := []) (rs := [.tmp 5]) (avs := [_]) Tryz.results29 ⟨rfl, trivial⟩ rfl (.refl _) ?_
    exact ⟨congrArg AV.str (by rw [hpk]), rfl⟩
  · have h9 := of_decide_eq_false hc_t9
    have hlt : i < l.length := by omega
    have hgl := getD_map l i hlt
    have hpk : Sch.pk l i ss.length = (l.getD i 0 % (ss.length : Int)).toNat := if_neg (by omega)
    obtain ⟨z, hz⟩ : ∃ z, l.getD i 0 = z := ⟨_, rfl⟩
    rw [hz] at hgl hpk
    have hz1 := Int.emod_nonneg z (by omega : (ss.length : Int) ≠ 0)
    have hz2 := Int.emod_lt_of_pos z (by omega : (0 : Int) < ss.length)
    have hgp := getD_mapG AV.str [] ss (z % (ss.length : Int)).toNat (by omega)
    refine W.skip ?_; refine W.then ?_; refine W.seq ?_; refine W.region ?_; refine W.q (Ev.move (.t rfl)) rfl ?_
    (refine W.q (Ev.ldb1 0 (.t rfl) rfl ag22 rfl) rfl ?_)
    refine W.q (Ev.move (.t rfl)) rfl ?_; refine W.q (Ev.at (E := 3) (.t rfl) (.t rfl) Tryz.underlying22 ty3 (fun _ => ⟨by omega, hgl⟩) rfl rfl) rfl ?_
    (refine W.q (Ev.lde1 (.t rfl) ag3) rfl ?_)
    refine W.q (Ev.move (.t rfl)) rfl ?_
    (refine W.q (Ev.lensl (.t rfl) Tryz.underlying26) rfl ?_)
    refine W.is (t := 19) (g := true) (av' := .int (ss.length : Int)) rfl (congrArg AV.int (by rw [hsl])) ?_; refine W.callp (Base.c_Picked z (ss.length : Int) (by omega) (by omega)) ⟨(.t rfl), (.t rfl), trivial⟩ rfl ?_; refine W.q (Ev.at (E := 9) (.t rfl) (.t rfl) Tryz.underlying26 ty9 (fun _ => ⟨by omega, hgp⟩) rfl rfl) rfl ?_
    (refine W.q (Ev.lde1 (.t rfl) ag9) rfl ?_)
    refine W.q (Ev.assign (.t rfl)) rfl ?_; refine W.nil ?_; refine W.then ?_; refine W.ret ?_; refine W.retn (M' := [.box b 22 [.sl 1 (l.map AV.int)]]) (D := []) (rs := [.tmp 5]) (avs := [_]) Tryz.results29 ⟨rfl, trivial⟩ rfl (.refl _) ?_
    exact ⟨congrArg AV.str (by rw [hpk]), rfl⟩

theorem c_Types (l : List Int) (hl : l.length ≤ 1099511627776) : FnP Tryz.prog 12 [.sl 1 (l.map AV.int)] (.sl 3 ((Sch.tys (Sch.pk l 0 4) (Sch.pk l 1 3) (Sch.pk l 2 2) (Sch.pk l 3 3) (Sch.pk l 4 3) (Sch.pk l 5 2)).map tpv)) :=  by
  refine FnC.mk Tryz.func12 (by kernel_rfl) rfl Tryz.ntmps12 rfl (fun w0 F => ?_)
  refine W.seq ?_; refine W.region ?_; refine W.box (.t rfl) rfl rfl ?_; intro b1; refine W.q (Ev.assign .k) rfl ?_; refine W.nil ?_; refine W.then ?_; refine W.seq ?_; refine W.region ?_; refine W.q (Ev.mkfn (caps := [.tmp 1]) (vs := [_]) ⟨(.t rfl), trivial⟩) rfl ?_; refine W.q (Ev.assign (.t rfl)) rfl ?_; refine W.nil ?_; refine W.then ?_; refine W.seq ?_; refine W.region ?_; refine W.q (Ev.move (.t rfl)) rfl ?_; refine W.bs (es := [_, _, _, _]) Tryz.underlying26 ty9 ⟨rfl, .k, rfl, rfl, rfl, .k, rfl, rfl, rfl, .k, rfl, rfl, rfl, .k, rfl, rfl, trivial⟩ rfl (by decide) rfl rfl ?_; refine W.is (t := 6) (g := true) (av' := .sl 1 (([0, 1, 2, 3].map Sch.txt).map AV.str)) rfl (congrArg (fun x => AV.sl 1 (x.map AV.str)) (by decide : ([[40, 98, 124, 99, 124, 100, 41, 43], [99, 63, 98, 42], [40, 98, 124, 100, 41, 42], [99, 98, 43, 100, 63]] : List (List UInt8)) = [0, 1, 2, 3].map Sch.txt)) ?_; refine W.callv (caps := [.pointer (some ⟨b1, 0, none⟩)]) (avs := [_, _]) (c_pick b1 l 0 (by decide) hl ([0, 1, 2, 3].map Sch.txt) (by decide) (by decide)) (.t rfl) ⟨.k, (.t rfl), trivial⟩ rfl (.refl _) rfl ?_
  rintro _ _ ⟨rfl, rfl⟩
  rw [show (List.map Sch.txt [0, 1, 2, 3]).length = 4 from rfl, pick_txt [0, 1, 2, 3] _ (pk_lt l 0 4 (by decide))]
  refine W.q (Ev.build ty28 st28 rfl (fun hg => ⟨_, _, _, rfl, .k, rfl, rfl, rfl, _, _, _, rfl, (.t rfl), rfl, rfl, rfl, rfl⟩)) rfl ?_; refine W.nils (t := 8) (g := true) (cs' := [.str Sch.bDoc, .str (Sch.txt (([0, 1, 2, 3] : List Nat).getD (Sch.pk l 0 4) 0)), .sl 1 []]) rfl ⟨.inl rfl, .inl rfl, .inr ⟨rfl, 1, rfl⟩, trivial⟩ ?_; refine W.q (Ev.move (.t rfl)) rfl ?_; refine W.bs (es := [_, _, _]) Tryz.underlying26 ty9 ⟨rfl, .k, rfl, rfl, rfl, .k, rfl, rfl, rfl, .k, rfl, rfl, trivial⟩ rfl (by decide) rfl rfl ?_; refine W.is (t := 10) (g := true) (av' := .sl 1 (([4, 5, 6].map Sch.txt).map AV.str)) rfl (congrArg (fun x => AV.sl 1 (x.map AV.str)) (by decide : ([[103, 63, 40, 102, 43, 103, 63, 41, 42], [40, 102, 124, 103, 102, 41, 42, 103, 63], [103, 63]] : List (List UInt8)) = [4, 5, 6].map Sch.txt)) ?_; refine W.callv (caps := [.pointer (some ⟨b1, 0, none⟩)]) (avs := [_, _]) (c_pick b1 l 1 (by decide) hl ([4, 5, 6].map Sch.txt) (by decide) (by decide)) (.t rfl) ⟨.k, (.t rfl), trivial⟩ rfl (.refl _) rfl ?_
  rintro _ _ ⟨rfl, rfl⟩
  rw [show (List.map Sch.txt [4, 5, 6]).length = 3 from rfl, pick_txt [4, 5, 6] _ (pk_lt l 1 3 (by decide))]
  refine W.bs (es := [_]) Tryz.underlying26 ty9 ⟨rfl, .k, rfl, rfl, trivial⟩ rfl (by decide) rfl rfl ?_; refine W.q (Ev.build ty28 st28 rfl (fun hg => ⟨_, _, _, rfl, .k, rfl, rfl, rfl, _, _, _, rfl, (.t rfl), rfl, rfl, rfl, _, _, _, rfl, (.t rfl), rfl, rfl, rfl, rfl⟩)) rfl ?_; refine W.q (Ev.move (.t rfl)) rfl ?_; refine W.bs (es := [_, _]) Tryz.underlying26 ty9 ⟨rfl, .k, rfl, rfl, rfl, .k, rfl, rfl, trivial⟩ rfl (by decide) rfl rfl ?_; refine W.is (t := 15) (g := true) (av' := .sl 1 (([7, 6].map Sch.txt).map AV.str)) rfl (congrArg (fun x => AV.sl 1 (x.map AV.str)) (by decide : ([[103], [103, 63]] : List (List UInt8)) = [7, 6].map Sch.txt)) ?_; refine W.callv (caps := [.pointer (some ⟨b1, 0, none⟩)]) (avs := [_, _]) (c_pick b1 l 2 (by decide) hl ([7, 6].map Sch.txt) (by decide) (by decide)) (.t rfl) ⟨.k, (.t rfl), trivial⟩ rfl (.refl _) rfl ?_
  rintro _ _ ⟨rfl, rfl⟩
  rw [show (List.map Sch.txt [7, 6]).length = 2 from rfl, pick_txt [7, 6] _ (pk_lt l 2 2 (by decide))]
  refine W.q (Ev.build ty28 st28 rfl (fun hg => ⟨_, _, _, rfl, .k, rfl, rfl, rfl, _, _, _, rfl, (.t rfl), rfl, rfl, rfl, rfl⟩)) rfl ?_; refine W.nils (t := 17) (g := true) (cs' := [.str Sch.bH1, .str (Sch.txt (([7, 6] : List Nat).getD (Sch.pk l 2 2) 0)), .sl 1 []]) rfl ⟨.inl rfl, .inl rfl, .inr ⟨rfl, 1, rfl⟩, trivial⟩ ?_; refine W.q (Ev.move (.t rfl)) rfl ?_; refine W.bs (es := [_, _, _]) Tryz.underlying26 ty9 ⟨rfl, .k, rfl, rfl, rfl, .k, rfl, rfl, rfl, .k, rfl, rfl, trivial⟩ rfl (by decide) rfl rfl ?_; refine W.is (t := 19) (g := true) (av' := .sl 1 (([8, 9, 10].map Sch.txt).map AV.str)) rfl (congrArg (fun x => AV.sl 1 (x.map AV.str)) (by decide : ([[101, 43], [101, 101, 42], [101, 42]] : List (List UInt8)) = [8, 9, 10].map Sch.txt)) ?_; refine W.callv (caps := [.pointer (some ⟨b1, 0, none⟩)]) (avs := [_, _]) (c_pick b1 l 3 (by decide) hl ([8, 9, 10].map Sch.txt) (by decide) (by decide)) (.t rfl) ⟨.k, (.t rfl), trivial⟩ rfl (.refl _) rfl ?_
  rintro _ _ ⟨rfl, rfl⟩
  rw [show (List.map Sch.txt [8, 9, 10]).length = 3 from rfl, pick_txt [8, 9, 10] _ (pk_lt l 3 3 (by decide))]
  refine W.q (Ev.build ty28 st28 rfl (fun hg => ⟨_, _, _, rfl, .k, rfl, rfl, rfl, _, _, _, rfl, (.t rfl), rfl, rfl, rfl, rfl⟩)) rfl ?_; refine W.nils (t := 21) (g := true) (cs' := [.str Sch.bUl, .str (Sch.txt (([8, 9, 10] : List Nat).getD (Sch.pk l 3 3) 0)), .sl 1 []]) rfl ⟨.inl rfl, .inl rfl, .inr ⟨rfl, 1, rfl⟩, trivial⟩ ?_; refine W.q (Ev.move (.t rfl)) rfl ?_; refine W.bs (es := [_, _, _]) Tryz.underlying26 ty9 ⟨rfl, .k, rfl, rfl, rfl, .k, rfl, rfl, rfl, .k, rfl, rfl, trivial⟩ rfl (by decide) rfl rfl ?_; refine W.is (t := 23) (g := true) (av' := .sl 1 (([11, 6, 2].map Sch.txt).map AV.str)) rfl (congrArg (fun x => AV.sl 1 (x.map AV.str)) (by decide : ([[98, 43], [103, 63], [40, 98, 124, 100, 41, 42]] : List (List UInt8)) = [11, 6, 2].map Sch.txt)) ?_; refine W.callv (caps := [.pointer (some ⟨b1, 0, none⟩)]) (avs := [_, _]) (c_pick b1 l 4 (by decide) hl ([11, 6, 2].map Sch.txt) (by decide) (by decide)) (.t rfl) ⟨.k, (.t rfl), trivial⟩ rfl (.refl _) rfl ?_
  rintro _ _ ⟨rfl, rfl⟩
  rw [show (List.map Sch.txt [11, 6, 2]).length = 3 from rfl, pick_txt [11, 6, 2] _ (pk_lt l 4 3 (by decide))]
  refine W.q (Ev.build ty28 st28 rfl (fun hg => ⟨_, _, _, rfl, .k, rfl, rfl, rfl, _, _, _, rfl, (.t rfl), rfl, rfl, rfl, rfl⟩)) rfl ?_; refine W.nils (t := 25) (g := true) (cs' := [.str Sch.bLi, .str (Sch.txt (([11, 6, 2] : List Nat).getD (Sch.pk l 4 3) 0)), .sl 1 []]) rfl ⟨.inl rfl, .inl rfl, .inr ⟨rfl, 1, rfl⟩, trivial⟩ ?_; refine W.q (Ev.move (.t rfl)) rfl ?_; refine W.bs (es := [_, _]) Tryz.underlying26 ty9 ⟨rfl, .k, rfl, rfl, rfl, .k, rfl, rfl, trivial⟩ rfl (by decide) rfl rfl ?_; refine W.is (t := 27) (g := true) (av' := .sl 1 (([7, 6].map Sch.txt).map AV.str)) rfl (congrArg (fun x => AV.sl 1 (x.map AV.str)) (by decide : ([[103], [103, 63]] : List (List UInt8)) = [7, 6].map Sch.txt)) ?_; refine W.callv (caps := [.pointer (some ⟨b1, 0, none⟩)]) (avs := [_, _]) (c_pick b1 l 5 (by decide) hl ([7, 6].map Sch.txt) (by decide) (by decide)) (.t rfl) ⟨.k, (.t rfl), trivial⟩ rfl (.refl _) rfl ?_
  rintro _ _ ⟨rfl, rfl⟩
  rw [show (List.map Sch.txt [7, 6]).length = 2 from rfl, pick_txt [7, 6] _ (pk_lt l 5 2 (by decide))]
  refine W.q (Ev.build ty28 st28 rfl (fun hg => ⟨_, _, _, rfl, .k, rfl, rfl, rfl, _, _, _, rfl, (.t rfl), rfl, rfl, rfl, rfl⟩)) rfl ?_; refine W.nils (t := 29) (g := true) (cs' := [.str Sch.bEm, .str (Sch.txt (([7, 6] : List Nat).getD (Sch.pk l 5 2) 0)), .sl 1 []]) rfl ⟨.inl rfl, .inl rfl, .inr ⟨rfl, 1, rfl⟩, trivial⟩ ?_; refine W.q (Ev.build ty28 st28 rfl (fun hg => rfl)) rfl ?_; refine W.nils (t := 30) (g := true) (cs' := [.str [], .str [], .sl 1 []]) rfl ⟨.inl rfl, .inl rfl, .inr ⟨rfl, 1, rfl⟩, trivial⟩ ?_; refine W.bs (es := [_, _, _, _, _, _, _]) Tryz.underlying23 ty28 ⟨rfl, (.t rfl), rfl, rfl, rfl, (.t rfl), rfl, rfl, rfl, (.t rfl), rfl, rfl, rfl, (.t rfl), rfl, rfl, rfl, (.t rfl), rfl, rfl, rfl, (.t rfl), rfl, rfl, rfl, (.t rfl), rfl, rfl, trivial⟩ rfl (by decide) rfl rfl ?_; refine W.q (Ev.assign (.t rfl)) rfl ?_; refine W.nil ?_; refine W.then ?_; refine W.ret ?_; refine W.retn (M' := []) (D := _) (rs := [.tmp 2]) (avs := [_]) Tryz.results12 ⟨rfl, trivial⟩ rfl (.refl _) ?_
  exact ⟨rfl, rfl⟩

end WTypes

end Go.Proofs.YtphlkdbglpcikaaGreatDoor
end

section
set_option linter.unusedVariables false
set_option linter.unusedSimpArgs false
namespace Go.Vl
namespace Sch
def bytesB : List UInt8 → List UInt8 → Bool
  | [], [] => true
  | a :: l, b :: m => Nat.beq a.toNat b.toNat && bytesB l m
  | _, _ => false
theorem bytesB_eq : ∀ {l m : List UInt8}, bytesB l m = true → l = m
  | [], [], _ => rfl
  | a :: l, b :: m, h => by
    simp only [bytesB, Bool.and_eq_true] at h
    rw [UInt8.toNat_inj.1 (Nat.eq_of_beq_eq_true h.1), bytesB_eq h.2]
  | [], _ :: _, h => by cases h
  | _ :: _, [], h => by cases h
mutual
def ndB : Nd → Nd → Bool
  | .mk n a t p, .mk n' a' t' p' => bytesB n n' && a.isEmpty && a'.isEmpty && bytesB t t' && ndsB p p'
def ndsB : List Nd → List Nd → Bool
  | [], [] => true
  | d :: l, e :: m => ndB d e && ndsB l m
  | _, _ => false
end
mutual
theorem ndB_eq : ∀ {d e : Nd}, ndB d e = true → d = e
  | .mk n a t p, .mk n' a' t' p', h => by
    simp only [ndB, Bool.and_eq_true, List.isEmpty_iff] at h
    rw [bytesB_eq h.1.1.1.1, h.1.1.1.2, h.1.1.2, bytesB_eq h.1.2, ndsB_eq h.2]
theorem ndsB_eq : ∀ {l m : List Nd}, ndsB l m = true → l = m
  | [], [], _ => rfl
  | d :: l, e :: m, h => by
    simp only [ndsB, Bool.and_eq_true] at h
    rw [ndB_eq h.1, ndsB_eq h.2]
  | [], _ :: _, h => by cases h
  | _ :: _, [], h => by cases h
end
def mk0 (k : Nat) : Nat := ([0, 1, 2, 3] : List Nat).getD k 0
def mk1 (k : Nat) : Nat := ([4, 5, 6] : List Nat).getD k 0
def mk2 (k : Nat) : Nat := ([7, 6] : List Nat).getD k 0
def mk3 (k : Nat) : Nat := ([8, 9, 10] : List Nat).getD k 0
def mk4 (k : Nat) : Nat := ([11, 6, 2] : List Nat).getD k 0
def mk5 (k : Nat) : Nat := ([7, 6] : List Nat).getD k 0
def tyk (m0 m1 m2 m3 m4 m5 : Nat) : List Tp := [⟨bDoc, txt m0, []⟩, ⟨bP, txt m1, [bClass]⟩, ⟨bH1, txt m2, []⟩, ⟨bUl, txt m3, []⟩, ⟨bLi, txt m4, []⟩, ⟨bEm, txt m5, []⟩, ⟨[], [], []⟩]
def ask (m0 m1 m2 m3 m4 m5 : Nat) : List Au := [auk m0, auk m1, auk m2, auk m3, auk m4, auk m5, auk 12]
def bAside : List UInt8 := [97, 115, 105, 100, 101]
def aside : Tp := ⟨bAside, txt 6, []⟩
def intsB : List Int → List Int → Bool
  | [], [] => true
  | a :: l, b :: m => decide (a = b) && intsB l m
  | _, _ => false
theorem intsB_eq : ∀ {l m : List Int}, intsB l m = true → l = m
  | [], [], _ => rfl
  | a :: l, b :: m, h => by
    simp only [intsB, Bool.and_eq_true, decide_eq_true_eq] at h
    rw [h.1, intsB_eq h.2]
  | [], _ :: _, h => by cases h
  | _ :: _, [], h => by cases h
def okSz (z : List Int) : Bool := !(z.any fun n => n == 0 || decide (150 < n))
def chkMore (m0 m1 m2 m3 m4 m5 : Nat) : Bool :=
  match sizesOf (tyk m0 m1 m2 m3 m4 m5) (ask m0 m1 m2 m3 m4 m5), sizesOf (tyk m0 m1 m2 m3 m4 m5 ++ [aside]) (ask m0 m1 m2 m3 m4 m5 ++ [auk 6]) with
  | some a, some b => okSz a && okSz b && intsB b (a ++ [1]) && (List.range 7).all fun t =>
      match treeN (tyk m0 m1 m2 m3 m4 m5) (ask m0 m1 m2 m3 m4 m5) a 6 t, treeN (tyk m0 m1 m2 m3 m4 m5 ++ [aside]) (ask m0 m1 m2 m3 m4 m5 ++ [auk 6]) b 6 t with
      | some x, some y => ndB x y
      | _, _ => false
  | _, _ => false
theorem fine_all : ((List.range 14).all fun k => fine (auk k) 7 6 && fine (auk k) 8 6) = true := by kernel_rfl
theorem i7 {i : Nat} (h : i < 7) : i = 0 ∨ i = 1 ∨ i = 2 ∨ i = 3 ∨ i = 4 ∨ i = 5 ∨ i = 6 := by omega
theorem i8 {i : Nat} (h : i < 8) : i = 0 ∨ i = 1 ∨ i = 2 ∨ i = 3 ∨ i = 4 ∨ i = 5 ∨ i = 6 ∨ i = 7 := by omega
theorem good_tyk (m0 m1 m2 m3 m4 m5 : Nat) (h : m0 < 14 ∧ m1 < 14 ∧ m2 < 14 ∧ m3 < 14 ∧ m4 < 14 ∧ m5 < 14) : Good (tyk m0 m1 m2 m3 m4 m5) (ask m0 m1 m2 m3 m4 m5) := by
  have hf : ∀ k, k < 14 → fine (auk k) 7 6 = true := fun k hk => by
    have := List.all_eq_true.1 fine_all k (List.mem_range.2 hk)
    simp only [Bool.and_eq_true] at this; exact this.1
  refine ⟨Nat.le_of_ble_eq_true rfl, Nat.le_of_ble_eq_true rfl, rfl, ?_, ?_, ?_, ?_, ?_⟩
  · intro i hi; rcases i7 hi with rfl | rfl | rfl | rfl | rfl | rfl | rfl <;> first | exact ⟨Nat.le_of_ble_eq_true rfl, .inr rfl⟩ | exact ⟨Nat.le_of_ble_eq_true rfl, .inl rfl⟩
  · intro i hi; rcases i7 hi with rfl | rfl | rfl | rfl | rfl | rfl | rfl <;> rfl
  · intro i hi; rcases i7 hi with rfl | rfl | rfl | rfl | rfl | rfl | rfl <;> first | rfl | decide
  · intro i hi; rcases i7 hi with rfl | rfl | rfl | rfl | rfl | rfl | rfl <;> first | rfl | decide
  · intro i hi
    rcases i7 hi with rfl | rfl | rfl | rfl | rfl | rfl | rfl
    · exact ⟨m0, h.1, rfl, rfl, hf _ h.1⟩
    · exact ⟨m1, h.2.1, rfl, rfl, hf _ h.2.1⟩
    · exact ⟨m2, h.2.2.1, rfl, rfl, hf _ h.2.2.1⟩
    · exact ⟨m3, h.2.2.2.1, rfl, rfl, hf _ h.2.2.2.1⟩
    · exact ⟨m4, h.2.2.2.2.1, rfl, rfl, hf _ h.2.2.2.2.1⟩
    · exact ⟨m5, h.2.2.2.2.2, rfl, rfl, hf _ h.2.2.2.2.2⟩
    · exact ⟨12, by decide, rfl, rfl, hf _ (by decide)⟩
theorem good_more (m0 m1 m2 m3 m4 m5 : Nat) (h : m0 < 14 ∧ m1 < 14 ∧ m2 < 14 ∧ m3 < 14 ∧ m4 < 14 ∧ m5 < 14) : Good (tyk m0 m1 m2 m3 m4 m5 ++ [aside]) (ask m0 m1 m2 m3 m4 m5 ++ [auk 6]) := by
  have hf : ∀ k, k < 14 → fine (auk k) 8 6 = true := fun k hk => by
    have := List.all_eq_true.1 fine_all k (List.mem_range.2 hk)
    simp only [Bool.and_eq_true] at this; exact this.2
  refine ⟨Nat.le_of_ble_eq_true rfl, Nat.le_of_ble_eq_true rfl, rfl, ?_, ?_, ?_, ?_, ?_⟩
  · intro i hi; rcases i8 hi with rfl | rfl | rfl | rfl | rfl | rfl | rfl | rfl <;> first | exact ⟨Nat.le_of_ble_eq_true rfl, .inr rfl⟩ | exact ⟨Nat.le_of_ble_eq_true rfl, .inl rfl⟩
  · intro i hi; rcases i8 hi with rfl | rfl | rfl | rfl | rfl | rfl | rfl | rfl <;> rfl
  · intro i hi; rcases i8 hi with rfl | rfl | rfl | rfl | rfl | rfl | rfl | rfl <;> first | rfl | decide
  · intro i hi; rcases i8 hi with rfl | rfl | rfl | rfl | rfl | rfl | rfl | rfl <;> first | rfl | decide
  · intro i hi
    rcases i8 hi with rfl | rfl | rfl | rfl | rfl | rfl | rfl | rfl
    · exact ⟨m0, h.1, rfl, rfl, hf _ h.1⟩
    · exact ⟨m1, h.2.1, rfl, rfl, hf _ h.2.1⟩
    · exact ⟨m2, h.2.2.1, rfl, rfl, hf _ h.2.2.1⟩
    · exact ⟨m3, h.2.2.2.1, rfl, rfl, hf _ h.2.2.2.1⟩
    · exact ⟨m4, h.2.2.2.2.1, rfl, rfl, hf _ h.2.2.2.2.1⟩
    · exact ⟨m5, h.2.2.2.2.2, rfl, rfl, hf _ h.2.2.2.2.2⟩
    · exact ⟨12, by decide, rfl, rfl, hf _ (by decide)⟩
    · exact ⟨6, by decide, rfl, rfl, hf _ (by decide)⟩
theorem stepm_congr {ts ts' : List Tp} (h : ∀ i, (ts.getD i dT).name = (ts'.getD i dT).name) (as_ : List Au) (s : List Int × Bool) (i : Nat) : stepm ts as_ s i = stepm ts' as_ s i := by
  unfold stepm; rw [h i]
theorem rndm_congr {ts ts' : List Tp} (h : ∀ i, (ts.getD i dT).name = (ts'.getD i dT).name) (as_ : List Au) (s : List Int × Bool) : ∀ k, rndm ts as_ s k = rndm ts' as_ s k
  | 0 => rfl
  | k + 1 => by
    simp only [rndm, rndm_congr h as_ s k]
    cases rndm ts' as_ s k with
    | none => rfl
    | some r => exact stepm_congr h as_ r k
theorem mso_congr {ts ts' : List Tp} (h : ∀ i, (ts.getD i dT).name = (ts'.getD i dT).name) (hl : ts.length = ts'.length) (as_ : List Au) : ∀ n z, mso ts as_ n z = mso ts' as_ n z
  | 0, _ => rfl
  | n + 1, z => by
    simp only [mso, rndm_congr h as_, hl]
    cases rndm ts' as_ (z, false) ts'.length with
    | none => rfl
    | some r => simp only [mso_congr h hl as_ n]
theorem sizesOf_congr {ts ts' : List Tp} (h : ∀ i, (ts.getD i dT).name = (ts'.getD i dT).name) (hl : ts.length = ts'.length) (as_ : List Au) : sizesOf ts as_ = sizesOf ts' as_ := by
  unfold sizesOf; rw [mso_congr h hl, hl]
theorem treeN_congr {ts ts' : List Tp} (h : ∀ i, (ts.getD i dT).name = (ts'.getD i dT).name) (hl : ts.length = ts'.length) (as_ : List Au) (sz : List Int) : ∀ f t, treeN ts as_ sz f t = treeN ts' as_ sz f t
  | 0, _ => rfl
  | f + 1, t => by
    simp only [treeN, h t, hl, treeN_congr h hl as_ sz f]
theorem names7 (m0 m1 m2 m3 m4 m5 n0 n1 n2 n3 n4 n5 : Nat) : ∀ i, ((tyk m0 m1 m2 m3 m4 m5).getD i dT).name = ((tyk n0 n1 n2 n3 n4 n5).getD i dT).name
  | 0 => rfl | 1 => rfl | 2 => rfl | 3 => rfl | 4 => rfl | 5 => rfl | 6 => rfl | _ + 7 => rfl
theorem names8 (m0 m1 m2 m3 m4 m5 n0 n1 n2 n3 n4 n5 : Nat) : ∀ i, ((tyk m0 m1 m2 m3 m4 m5 ++ [aside]).getD i dT).name = ((tyk n0 n1 n2 n3 n4 n5 ++ [aside]).getD i dT).name
  | 0 => rfl | 1 => rfl | 2 => rfl | 3 => rfl | 4 => rfl | 5 => rfl | 6 => rfl | 7 => rfl | _ + 8 => rfl
theorem tys_tyk (k0 k1 k2 k3 k4 k5 : Nat) : tys k0 k1 k2 k3 k4 k5 = tyk (mk0 k0) (mk1 k1) (mk2 k2) (mk3 k3) (mk4 k4) (mk5 k5) := rfl
def fst_ (m : Nat) : Nat := if m = 5 then 4 else if m = 9 then 8 else m
theorem auk_fst (m : Nat) : auk (fst_ m) = auk m := by
  unfold fst_
  split
  · rename_i h; rw [h]; rfl
  · split
    · rename_i h; rw [h]; rfl
    · rfl
theorem ask_fst (m0 m1 m2 m3 m4 m5 : Nat) : ask m0 (fst_ m1) m2 (fst_ m3) m4 m5 = ask m0 m1 m2 m3 m4 m5 := by
  unfold ask; rw [auk_fst, auk_fst]
theorem chkMore_fst (m0 m1 m2 m3 m4 m5 : Nat) : chkMore m0 m1 m2 m3 m4 m5 = chkMore m0 (fst_ m1) m2 (fst_ m3) m4 m5 := by
  unfold chkMore
  rw [ask_fst, sizesOf_congr (names7 m0 m1 m2 m3 m4 m5 m0 (fst_ m1) m2 (fst_ m3) m4 m5) rfl, sizesOf_congr (names8 m0 m1 m2 m3 m4 m5 m0 (fst_ m1) m2 (fst_ m3) m4 m5) rfl]
  simp only [treeN_congr (names7 m0 m1 m2 m3 m4 m5 m0 (fst_ m1) m2 (fst_ m3) m4 m5) rfl, treeN_congr (names8 m0 m1 m2 m3 m4 m5 m0 (fst_ m1) m2 (fst_ m3) m4 m5) rfl]
theorem szs_le (B : Nat) : ∀ l : List Nd, (∀ d ∈ l, d.sz ≤ B) → Nd.szs l ≤ l.length * B
  | [], _ => by simp [Nd.szs]
  | d :: l, h => by
    have h1 := h d List.mem_cons_self
    have h2 := szs_le B l fun e he => h e (List.mem_cons_of_mem _ he)
    simp only [Nd.szs, List.length_cons, Nat.add_mul, Nat.one_mul]
    omega
theorem treeN_sz {ts : List Tp} {as_ : List Au} {sz : List Int} : ∀ (f t : Nat) (d : Nd), treeN ts as_ sz f t = some d → d.sz ≤ 13 ^ f
  | 0, _, _, h => by cases h
  | f + 1, t, d, h => by
    have hp : 1 ≤ 13 ^ f := Nat.one_le_pow _ _ (by decide)
    simp only [treeN] at h
    split at h
    · cases h
    · split at h
      · rw [← Option.some.inj h]; simp [Nd.sz, Nd.szs]; omega
      · split at h
        · cases h
        · rename_i w hw
          split at h
          · cases h
          · rename_i ps hps
            have hl := omap_len hps
            have hc := cheap_len hw
            have h1 : Nd.szs ps ≤ ps.length * 13 ^ f := szs_le _ _ fun e he => by
              obtain ⟨i, hi, rfl⟩ := List.mem_iff_getElem.1 he
              have h2 := omap_at 0 Nd.dflt hps i (by omega)
              split at h2
              · cases h2
              · have h3 := treeN_sz f _ _ h2
                rwa [List.getD_eq_getElem?_getD, List.getElem?_eq_getElem hi] at h3
            have h2 : ps.length * 13 ^ f ≤ 12 * 13 ^ f := Nat.mul_le_mul_right _ (by omega)
            rw [← Option.some.inj h, Nat.pow_succ]
            simp only [Nd.sz, List.length_nil]
            omega
theorem chkMore_out {m0 m1 m2 m3 m4 m5 : Nat} (h : chkMore m0 m1 m2 m3 m4 m5 = true) : ∃ a, sizesOf (tyk m0 m1 m2 m3 m4 m5) (ask m0 m1 m2 m3 m4 m5) = some a ∧ (a.any fun n => n == 0 || decide (150 < n)) = false ∧
    sizesOf (tyk m0 m1 m2 m3 m4 m5 ++ [aside]) (ask m0 m1 m2 m3 m4 m5 ++ [auk 6]) = some (a ++ [1]) ∧ ((a ++ [1]).any fun n => n == 0 || decide (150 < n)) = false ∧
    ∀ t, t < 7 → ∃ d, treeN (tyk m0 m1 m2 m3 m4 m5) (ask m0 m1 m2 m3 m4 m5) a 6 t = some d ∧ treeN (tyk m0 m1 m2 m3 m4 m5 ++ [aside]) (ask m0 m1 m2 m3 m4 m5 ++ [auk 6]) (a ++ [1]) 6 t = some d := by
  unfold chkMore at h
  split at h
  · rename_i a b ha hb
    simp only [Bool.and_eq_true, okSz, Bool.not_eq_true'] at h
    have e := intsB_eq h.1.2
    subst e
    refine ⟨a, ha, h.1.1.1, hb, h.1.1.2, fun t ht => ?_⟩
    have h2 := List.all_eq_true.1 h.2 t (List.mem_range.2 ht)
    split at h2
    · rename_i x y hx hy
      have e := ndB_eq h2
      subst e
      exact ⟨x, hx, hy⟩
    · cases h2
  · cases h
theorem mk_lt {k0 k1 k2 k3 k4 k5 : Nat} (h0 : k0 < 4) (h1 : k1 < 3) (h2 : k2 < 2) (h3 : k3 < 3) (h4 : k4 < 3) (h5 : k5 < 2) : mk0 k0 < 14 ∧ mk1 k1 < 14 ∧ mk2 k2 < 14 ∧ mk3 k3 < 14 ∧ mk4 k4 < 14 ∧ mk5 k5 < 14 := by
  refine ⟨?_, ?_, ?_, ?_, ?_, ?_⟩
  · exact (by decide : ∀ k : Fin 4, mk0 k.val < 14) ⟨k0, h0⟩
  · exact (by decide : ∀ k : Fin 3, mk1 k.val < 14) ⟨k1, h1⟩
  · exact (by decide : ∀ k : Fin 2, mk2 k.val < 14) ⟨k2, h2⟩
  · exact (by decide : ∀ k : Fin 3, mk3 k.val < 14) ⟨k3, h3⟩
  · exact (by decide : ∀ k : Fin 3, mk4 k.val < 14) ⟨k4, h4⟩
  · exact (by decide : ∀ k : Fin 2, mk5 k.val < 14) ⟨k5, h5⟩
end Sch
end Go.Vl
end

section
set_option linter.unusedVariables false
namespace Go.Vl
namespace Sch
theorem more_0_11 : (([4, 6] : List Nat).all fun m1 => ([7, 6] : List Nat).all fun m2 => ([8, 10] : List Nat).all fun m3 => ([7, 6] : List Nat).all fun m5 => chkMore 0 m1 m2 m3 11 m5) = true := by kernel_rfl
theorem more_0_6 : (([4, 6] : List Nat).all fun m1 => ([7, 6] : List Nat).all fun m2 => ([8, 10] : List Nat).all fun m3 => ([7, 6] : List Nat).all fun m5 => chkMore 0 m1 m2 m3 6 m5) = true := by kernel_rfl
theorem more_0_2 : (([4, 6] : List Nat).all fun m1 => ([7, 6] : List Nat).all fun m2 => ([8, 10] : List Nat).all fun m3 => ([7, 6] : List Nat).all fun m5 => chkMore 0 m1 m2 m3 2 m5) = true := by kernel_rfl
theorem more_1_11 : (([4, 6] : List Nat).all fun m1 => ([7, 6] : List Nat).all fun m2 => ([8, 10] : List Nat).all fun m3 => ([7, 6] : List Nat).all fun m5 => chkMore 1 m1 m2 m3 11 m5) = true := by kernel_rfl
theorem more_1_6 : (([4, 6] : List Nat).all fun m1 => ([7, 6] : List Nat).all fun m2 => ([8, 10] : List Nat).all fun m3 => ([7, 6] : List Nat).all fun m5 => chkMore 1 m1 m2 m3 6 m5) = true := by kernel_rfl
theorem more_1_2 : (([4, 6] : List Nat).all fun m1 => ([7, 6] : List Nat).all fun m2 => ([8, 10] : List Nat).all fun m3 => ([7, 6] : List Nat).all fun m5 => chkMore 1 m1 m2 m3 2 m5) = true := by kernel_rfl
theorem more_2_11 : (([4, 6] : List Nat).all fun m1 => ([7, 6] : List Nat).all fun m2 => ([8, 10] : List Nat).all fun m3 => ([7, 6] : List Nat).all fun m5 => chkMore 2 m1 m2 m3 11 m5) = true := by kernel_rfl
theorem more_2_6 : (([4, 6] : List Nat).all fun m1 => ([7, 6] : List Nat).all fun m2 => ([8, 10] : List Nat).all fun m3 => ([7, 6] : List Nat).all fun m5 => chkMore 2 m1 m2 m3 6 m5) = true := by kernel_rfl
theorem more_2_2 : (([4, 6] : List Nat).all fun m1 => ([7, 6] : List Nat).all fun m2 => ([8, 10] : List Nat).all fun m3 => ([7, 6] : List Nat).all fun m5 => chkMore 2 m1 m2 m3 2 m5) = true := by kernel_rfl
theorem more_3_11 : (([4, 6] : List Nat).all fun m1 => ([7, 6] : List Nat).all fun m2 => ([8, 10] : List Nat).all fun m3 => ([7, 6] : List Nat).all fun m5 => chkMore 3 m1 m2 m3 11 m5) = true := by kernel_rfl
theorem more_3_6 : (([4, 6] : List Nat).all fun m1 => ([7, 6] : List Nat).all fun m2 => ([8, 10] : List Nat).all fun m3 => ([7, 6] : List Nat).all fun m5 => chkMore 3 m1 m2 m3 6 m5) = true := by kernel_rfl
theorem more_3_2 : (([4, 6] : List Nat).all fun m1 => ([7, 6] : List Nat).all fun m2 => ([8, 10] : List Nat).all fun m3 => ([7, 6] : List Nat).all fun m5 => chkMore 3 m1 m2 m3 2 m5) = true := by kernel_rfl
theorem more_all {k0 k1 k2 k3 k4 k5 : Nat} (h0 : k0 < 4) (h1 : k1 < 3) (h2' : k2 < 2) (h3 : k3 < 3) (h4 : k4 < 3) (h5 : k5 < 2) : chkMore (mk0 k0) (mk1 k1) (mk2 k2) (mk3 k3) (mk4 k4) (mk5 k5) = true := by
  rw [chkMore_fst]
  have a1 : fst_ (mk1 k1) ∈ ([4, 6] : List Nat) := by rcases (show k1 = 0 ∨ k1 = 1 ∨ k1 = 2 by omega) with rfl | rfl | rfl <;> decide
  have a2 : mk2 k2 ∈ ([7, 6] : List Nat) := by rcases (show k2 = 0 ∨ k2 = 1 by omega) with rfl | rfl <;> decide
  have a3 : fst_ (mk3 k3) ∈ ([8, 10] : List Nat) := by rcases (show k3 = 0 ∨ k3 = 1 ∨ k3 = 2 by omega) with rfl | rfl | rfl <;> decide
  have a5 : mk5 k5 ∈ ([7, 6] : List Nat) := by rcases (show k5 = 0 ∨ k5 = 1 by omega) with rfl | rfl <;> decide
  have h2 : ∀ {m0 m4 : Nat}, (([4, 6] : List Nat).all fun m1 => ([7, 6] : List Nat).all fun m2 => ([8, 10] : List Nat).all fun m3 => ([7, 6] : List Nat).all fun m5 => chkMore m0 m1 m2 m3 m4 m5) = true → chkMore m0 (fst_ (mk1 k1)) (mk2 k2) (fst_ (mk3 k3)) m4 (mk5 k5) = true := fun h => List.all_eq_true.1 (List.all_eq_true.1 (List.all_eq_true.1 (List.all_eq_true.1 h _ a1) _ a2) _ a3) _ a5
  rcases (show k0 = 0 ∨ k0 = 1 ∨ k0 = 2 ∨ k0 = 3 by omega) with rfl | rfl | rfl | rfl <;> rcases (show k4 = 0 ∨ k4 = 1 ∨ k4 = 2 by omega) with rfl | rfl | rfl
  · exact h2 more_0_11
  · exact h2 more_0_6
  · exact h2 more_0_2
  · exact h2 more_1_11
  · exact h2 more_1_6
  · exact h2 more_1_2
  · exact h2 more_2_11
  · exact h2 more_2_6
  · exact h2 more_2_2
  · exact h2 more_3_11
  · exact h2 more_3_6
  · exact h2 more_3_2
end Sch
end Go.Vl
end

section
set_option linter.unusedVariables false
set_option linter.unusedSimpArgs false
set_option maxRecDepth 100000
namespace Go.Proofs.YtphlkdbglpcikaaGreatDoor
open Go.Vl

namespace WLet
theorem ty3 : Ty Tryz.prog 3 1 8 (.int .i64 0) := Ty.of (by kernel_rfl)
theorem ag3 : IsAgg Tryz.prog 3 false := ⟨_, Tryz.underlying3, rfl⟩
theorem c_sameInts (a b : List Int) (ha : a.length ≤ 1099511627776) : FnP Tryz.prog 16 [.sl 1 (a.map AV.int), .sl 1 (b.map AV.int)] (.bool (decide (a = b))) :=  by
  refine FnC.mk Tryz.func16 (by kernel_rfl) rfl Tryz.ntmps16 rfl (fun w0 F => ?_)
  have hla : (a.map AV.int).length = a.length := List.length_map ..
  have hlb : (b.map AV.int).length = b.length := List.length_map ..
  refine W.seq ?_; refine W.region ?_; refine W.q (Ev.assign .k) rfl ?_; refine W.nil ?_; refine W.then ?_; refine W.seq ?_; refine W.seq ?_; refine W.region ?_; refine W.q (Ev.move (.t rfl)) rfl ?_
  first | refine W.q (Ev.lensl (.t rfl) Tryz.underlying22) rfl ?_ | refine W.q (Ev.lenar (i := 0) (.t rfl) rfl Tryz.underlying22) rfl ?_ | refine W.q (Ev.lenar (i := 1) (.t rfl) rfl Tryz.underlying22) rfl ?_ | refine W.q (Ev.lenar (i := 2) (.t rfl) rfl Tryz.underlying22) rfl ?_ | refine W.q (Ev.lenar (i := 3) (.t rfl) rfl Tryz.underlying22) rfl ?_
  refine W.q (Ev.move (.t rfl)) rfl ?_
  first | refine W.q (Ev.lensl (.t rfl) Tryz.underlying22) rfl ?_ | refine W.q (Ev.lenar (i := 0) (.t rfl) rfl Tryz.underlying22) rfl ?_ | refine W.q (Ev.lenar (i := 1) (.t rfl) rfl Tryz.underlying22) rfl ?_ | refine W.q (Ev.lenar (i := 2) (.t rfl) rfl Tryz.underlying22) rfl ?_ | refine W.q (Ev.lenar (i := 3) (.t rfl) rfl Tryz.underlying22) rfl ?_
  refine W.q (Ev.nei (.t rfl) (.t rfl)) rfl ?_; refine W.nil ?_; refine W.then ?_; refine W.cond (.t rfl) (fun hc_t10 => ?_) (fun hc_t10 => ?_)
  · have hne : a ≠ b := by rintro rfl; simp at hc_t10
    refine W.seq ?_; refine W.region ?_; refine W.q (Ev.assign .k) rfl ?_; refine W.nil ?_; refine W.then ?_; refine W.ret ?_; refine W.then_ret ?_; refine W.retn (M' := []) (rs := [.tmp 4]) (avs := [_]) Tryz.results16 ⟨rfl, trivial⟩ rfl (.refl _) ?_
    first | exact ⟨congrArg AV.bool (decide_eq_false hne).symm, rfl⟩ | exact ⟨congrArg AV.bool (decide_eq_true heq).symm, rfl⟩
  · have hlen : a.length = b.length := by simp at hc_t10; omega
    refine W.skip ?_; refine W.then ?_; refine W.seq ?_; refine W.seq ?_; refine W.region ?_; refine W.q (Ev.assign .k) rfl ?_; refine W.nil ?_; refine W.then ?_; refine W.block ?_; refine W.loop (D := []) (ι := Nat) (fun i => [(5, true, .int (i : Int)), (0, true, .sl 1 (a.map AV.int)), (1, true, .sl 1 (b.map AV.int))]) (fun _ => []) (fun i => i ≤ a.length ∧ ∀ j, j < i → a[j]? = b[j]?) (fun i => a.length - i) 0 ⟨rfl, rfl, rfl, trivial⟩ (.refl _) ⟨Nat.zero_le _, by intro j hj; omega⟩ ?_
    rintro i ⟨hi1, hi2⟩
    dsimp only at hi1 hi2 ⊢
    refine W.seq ?_; refine W.seq ?_; refine W.region ?_; refine W.q (Ev.move (.t rfl)) rfl ?_; refine W.q (Ev.move (.t rfl)) rfl ?_
    first | refine W.q (Ev.lensl (.t rfl) Tryz.underlying22) rfl ?_ | refine W.q (Ev.lenar (i := 0) (.t rfl) rfl Tryz.underlying22) rfl ?_ | refine W.q (Ev.lenar (i := 1) (.t rfl) rfl Tryz.underlying22) rfl ?_ | refine W.q (Ev.lenar (i := 2) (.t rfl) rfl Tryz.underlying22) rfl ?_ | refine W.q (Ev.lenar (i := 3) (.t rfl) rfl Tryz.underlying22) rfl ?_
    refine W.q (Ev.lti (.t rfl) (.t rfl)) rfl ?_; refine W.nil ?_; refine W.then ?_; refine W.cond (.t rfl) (fun hc_t14 => ?_) (fun hc_t14 => ?_)
    · have hlt : i < a.length := by simp at hc_t14; omega
      refine W.skip ?_; refine W.then ?_; refine W.seq ?_; refine W.block ?_; refine W.seq ?_; refine W.drawn (by kernel_rfl) (by kernel_rfl) ?_
      have hga : (a.map AV.int)[i]? = some (AV.int a[i]) := by rw [List.getElem?_map, List.getElem?_eq_getElem hlt]; rfl
      have hgb : (b.map AV.int)[i]? = some (AV.int (b[i]'(by omega))) := by rw [List.getElem?_map, List.getElem?_eq_getElem (by omega)]; rfl
      refine DP.q (Ev.move (.t rfl)) rfl ?_; refine DP.q (Ev.move (.t rfl)) rfl ?_; refine DP.q (Ev.at (E := 3) (.t rfl) (.t rfl) Tryz.underlying22 ty3 (fun _ => ⟨by omega, hga⟩) rfl rfl) rfl ?_
      first | refine DP.q (Ev.lde1 (.t rfl) ag3) rfl ?_ | refine DP.q (Ev.ldb1 0 (.t rfl) rfl ag3 rfl) rfl ?_ | refine DP.q (Ev.ldb1 1 (.t rfl) rfl ag3 rfl) rfl ?_ | refine DP.q (Ev.ldb1 2 (.t rfl) rfl ag3 rfl) rfl ?_ | refine DP.q (Ev.ldb1 3 (.t rfl) rfl ag3 rfl) rfl ?_
      refine DP.q (Ev.move (.t rfl)) rfl ?_; refine DP.q (Ev.move (.t rfl)) rfl ?_; refine DP.q (Ev.at (E := 3) (.t rfl) (.t rfl) Tryz.underlying22 ty3 (fun _ => ⟨by omega, hgb⟩) rfl rfl) rfl ?_
      first | refine DP.q (Ev.lde1 (.t rfl) ag3) rfl ?_ | refine DP.q (Ev.ldb1 0 (.t rfl) rfl ag3 rfl) rfl ?_ | refine DP.q (Ev.ldb1 1 (.t rfl) rfl ag3 rfl) rfl ?_ | refine DP.q (Ev.ldb1 2 (.t rfl) rfl ag3 rfl) rfl ?_ | refine DP.q (Ev.ldb1 3 (.t rfl) rfl ag3 rfl) rfl ?_
      refine DP.q (Ev.nei (.t rfl) (.t rfl)) rfl ?_; refine DP.nil ?_; refine W.then ?_; refine W.cond (.t rfl) (fun hc_t25 => ?_) (fun hc_t25 => ?_)
      · have hne : a ≠ b := by rintro rfl; simp at hc_t25
        refine W.seq ?_; refine W.region ?_; refine W.q (Ev.assign .k) rfl ?_; refine W.nil ?_; refine W.then ?_; refine W.ret ?_; refine W.blk_ret ?_; refine W.then_ret ?_; refine W.then_ret ?_; refine W.blk_ret ?_; refine W.then_ret ?_; refine W.retn (M' := []) (rs := [.tmp 4]) (avs := [_]) Tryz.results16 ⟨rfl, trivial⟩ rfl (.refl _) ?_
        first | exact ⟨congrArg AV.bool (decide_eq_false hne).symm, rfl⟩ | exact ⟨congrArg AV.bool (decide_eq_true heq).symm, rfl⟩
      · have hsame : a[i]? = b[i]? := by simp at hc_t25; rw [List.getElem?_eq_getElem hlt, List.getElem?_eq_getElem (by omega), hc_t25]
        refine W.skip ?_; refine W.blk_normal ?_; refine W.then ?_; refine W.region ?_; refine W.q (Ev.move (.t rfl)) rfl ?_
        first | refine W.q (Ev.add (.t rfl) .k (fun _ => by omega)) rfl ?_ | refine W.q (Ev.addw (.t rfl) .k) rfl ?_
        refine W.q (Ev.assign (.t rfl)) rfl ?_; refine W.nil ?_; refine W.then ?_; refine W.reach (D := []) (i + 1) ⟨rfl, rfl, rfl, trivial⟩ (.refl _) ⟨⟨by omega, fun j hj => ?_⟩, by omega⟩
        rcases Nat.lt_or_ge j i with h | h
        · exact hi2 j h
        · obtain rfl : j = i := by omega
          exact hsame
    · have hge : i = a.length := by simp at hc_t14; omega
      have heq : a = b := List.ext_getElem? (fun j => by cases Nat.lt_or_ge j a.length with | inl h => exact hi2 j (by omega) | inr h => rw [List.getElem?_eq_none h, List.getElem?_eq_none (by omega)])
      refine W.exit ?_; refine W.then_exit ?_; refine W.then_exit ?_; refine W.blk_hit ?_; refine W.then ?_; refine W.seq ?_; refine W.region ?_; refine W.q (Ev.assign .k) rfl ?_; refine W.nil ?_; refine W.then ?_; refine W.ret ?_; refine W.retn (M' := []) (rs := [.tmp 4]) (avs := [_]) Tryz.results16 ⟨rfl, trivial⟩ rfl (.refl _) ?_
      first | exact ⟨congrArg AV.bool (decide_eq_false hne).symm, rfl⟩ | exact ⟨congrArg AV.bool (decide_eq_true heq).symm, rfl⟩

end WLet

end Go.Proofs.YtphlkdbglpcikaaGreatDoor
end

section
set_option linter.unusedVariables false
set_option linter.unusedSimpArgs false
set_option maxRecDepth 100000
namespace Go.Proofs.YtphlkdbglpcikaaGreatDoor
open Go.Vl

namespace WSame
theorem ty9 : Ty Tryz.prog 9 1 16 (.string ⟨#[]⟩) := Ty.of (by kernel_rfl)
theorem ty32 : Ty Tryz.prog 32 1 24 (.slice none 0 0) := Ty.of (by kernel_rfl)
theorem ty33 : Ty Tryz.prog 33 1 24 (.slice none 0 0) := Ty.of (by kernel_rfl)
theorem ty35 : Ty Tryz.prog 35 4 80 (.agg #[.string ⟨#[]⟩, .slice none 0 0, .string ⟨#[]⟩, .slice none 0 0]) := Ty.of (by kernel_rfl)
theorem ty48 : Ty Tryz.prog 48 2 32 (.agg #[.string ⟨#[]⟩, .string ⟨#[]⟩]) := Ty.of (by kernel_rfl)
theorem ag9 : IsAgg Tryz.prog 9 false := ⟨_, Tryz.underlying9, rfl⟩
theorem ag32 : IsAgg Tryz.prog 32 false := ⟨_, Tryz.underlying32, rfl⟩
theorem ag33 : IsAgg Tryz.prog 33 false := ⟨_, Tryz.underlying33, rfl⟩
theorem ag48 : IsAgg Tryz.prog 48 true := ⟨_, Tryz.underlying48, rfl⟩
theorem fa35_0 : FieldAt Tryz.prog 35 0 0 1 false := ⟨_, _, Tryz.underlying35, rfl, rfl, ty9.size, ag9, by decide⟩
theorem fa35_1 : FieldAt Tryz.prog 35 1 1 1 false := ⟨_, _, Tryz.underlying35, rfl, rfl, ty32.size, ag32, by decide⟩
theorem fa35_2 : FieldAt Tryz.prog 35 2 2 1 false := ⟨_, _, Tryz.underlying35, rfl, rfl, ty9.size, ag9, by decide⟩
theorem fa35_3 : FieldAt Tryz.prog 35 3 3 1 false := ⟨_, _, Tryz.underlying35, rfl, rfl, ty33.size, ag33, by decide⟩
theorem s2_48 : Str2 Tryz.prog 48 := Str2.of Tryz.underlying48 (by kernel_rfl) (by kernel_rfl) (by decide) (by decide) rfl rfl Tryz.underlying9 Tryz.underlying9
theorem c_same_step (n : Nat) (hn : n ≤ 16777216) (ih : ∀ l, Nd.szs l < n → FnP Tryz.prog 17 [.sl 4 (l.map Nd.av), .sl 4 (l.map Nd.av)] (.bool true)) (l : List Nd) (hl : Nd.szs l = n) : FnP Tryz.prog 17 [.sl 4 (l.map Nd.av), .sl 4 (l.map Nd.av)] (.bool true) :=  by
  refine FnC.mk Tryz.func17 (by kernel_rfl) rfl Tryz.ntmps17 rfl (fun w0 F => ?_)
  have hll : (l.map Nd.av).length = l.length := List.length_map ..
  have hsl := Nd.szs_len l
  refine W.seq ?_; refine W.region ?_; refine W.q (Ev.assign .k) rfl ?_; refine W.nil ?_; refine W.then ?_; refine W.seq ?_; refine W.seq ?_; refine W.region ?_; refine W.q (Ev.move (.t rfl)) rfl ?_
  (refine W.q (Ev.lensl (.t rfl) Tryz.underlying33) rfl ?_)
  refine W.q (Ev.move (.t rfl)) rfl ?_
  (refine W.q (Ev.lensl (.t rfl) Tryz.underlying33) rfl ?_)
  refine W.q (Ev.nei (.t rfl) (.t rfl)) rfl ?_; refine W.nil ?_; refine W.then ?_; refine W.is (t := 11) (g := true) (av' := .lit (.bool false)) rfl (congrArg (fun b => AV.lit (.bool b)) (by simp)) ?_; refine W.condF (.t rfl) ?_; refine W.skip ?_; refine W.then ?_; refine W.seq ?_; refine W.seq ?_; refine W.region ?_; refine W.q (Ev.assign .k) rfl ?_; refine W.nil ?_; refine W.then ?_; refine W.block ?_; refine W.loop (D := []) (ι := Nat) (fun i => [(5, true, .int (i : Int)), (0, true, .sl 4 (l.map Nd.av)), (1, true, .sl 4 (l.map Nd.av))]) (fun _ => []) (fun i => i ≤ l.length) (fun i => l.length - i) 0 ⟨rfl, rfl, rfl, trivial⟩ (.refl _) (Nat.zero_le _) ?_; intro i hi
  dsimp only at hi ⊢
  rcases (show i < l.length ∨ i = l.length from by omega) with hlt | hend
  · have hga := Nd.at_av l i hlt
    have hsz := Nd.at_sz l i hlt
    generalize hd : l.getD i Nd.dflt = d at hga hsz
    have hse := Nd.sz_eq d
    have hsp := Nd.szs_len d.parts
    have hat : (d.attrs.map dav).length = d.attrs.length := List.length_map ..
    refine W.seq ?_; refine W.seq ?_; refine W.region ?_; refine W.q (Ev.move (.t rfl)) rfl ?_; refine W.q (Ev.move (.t rfl)) rfl ?_
    (refine W.q (Ev.lensl (.t rfl) Tryz.underlying33) rfl ?_)
    refine W.q (Ev.lti (.t rfl) (.t rfl)) rfl ?_; refine W.nil ?_; refine W.then ?_; refine W.is (t := 15) (g := true) (av' := .lit (.bool true)) rfl (congrArg (fun b => AV.lit (.bool b)) (by simp; omega)) ?_; refine W.condT (.t rfl) ?_; refine W.skip ?_; refine W.then ?_; refine W.seq ?_; refine W.block ?_; refine W.seq ?_; refine W.seq ?_; refine W.drawnE (ι := Unit) (fun _ _ => _) 53 () (by kernel_rfl) (by kernel_rfl) rfl ?_; refine DE.q (fun e c hk => (Ev.move (.t rfl))) rfl (fun _ _ => rfl) (by (exact .inr (fun _ _ => rfl))) ?_; refine DE.q (fun e c hk => (Ev.move (.t rfl))) rfl (fun _ _ => rfl) (by (exact .inr (fun _ _ => rfl))) ?_; refine DE.q (fun e c hk => Ev.at (E := 35) (.t rfl) (.t rfl) Tryz.underlying33 ty35 (fun _ => ⟨by omega, hga⟩) rfl rfl) rfl (fun _ _ => rfl) (by (exact .inr (fun _ _ => rfl))) ?_
    (refine DE.q (fun e c hk => (Ev.fae (.t rfl) fa35_0 rfl)) rfl (fun _ _ => rfl) (by (exact .inr (fun _ _ => rfl))) ?_)
    (refine DE.q (fun e c hk => (Ev.lde1 (.t rfl) ag9)) rfl (fun _ _ => rfl) (by (exact .inr (fun _ _ => rfl))) ?_)
    refine DE.q (fun e c hk => (Ev.move (.t rfl))) rfl (fun _ _ => rfl) (by (exact .inr (fun _ _ => rfl))) ?_; refine DE.q (fun e c hk => (Ev.move (.t rfl))) rfl (fun _ _ => rfl) (by (exact .inr (fun _ _ => rfl))) ?_; refine DE.q (fun e c hk => Ev.at (E := 35) (.t rfl) (.t rfl) Tryz.underlying33 ty35 (fun _ => ⟨by omega, hga⟩) rfl rfl) rfl (fun _ _ => rfl) (by (exact .inr (fun _ _ => rfl))) ?_
    (refine DE.q (fun e c hk => (Ev.fae (.t rfl) fa35_0 rfl)) rfl (fun _ _ => rfl) (by (exact .inr (fun _ _ => rfl))) ?_)
    (refine DE.q (fun e c hk => (Ev.lde1 (.t rfl) ag9)) rfl (fun _ _ => rfl) (by (exact .inr (fun _ _ => rfl))) ?_)
    refine DE.q (fun e c hk => (Ev.nes (.t rfl) (.t rfl))) rfl (fun _ _ => rfl) (by (exact .inr (fun _ _ => rfl))) ?_; refine DE.q (fun e c hk => (Ev.move (.t rfl))) rfl (fun _ _ => rfl) (by (exact .inr (fun _ _ => rfl))) ?_; refine DE.qg rfl (fun _ => rfl) (fun e c hk => (Ev.move (.t rfl))) rfl (fun _ _ => rfl) (by (exact .inr (fun _ _ => rfl))) ?_; refine DE.qg rfl (fun _ => rfl) (fun e c hk => (Ev.move (.t rfl))) rfl (fun _ _ => rfl) (by (exact .inr (fun _ _ => rfl))) ?_; refine DE.qg rfl (fun _ => rfl) (fun e c hk => Ev.at (E := 35) (.c rfl) (.c rfl) Tryz.underlying33 ty35 (fun _ => ⟨by omega, hga⟩) rfl rfl) rfl (fun _ _ => rfl) (by (exact .inr (fun _ _ => rfl))) ?_
    (refine DE.qg rfl (fun _ => rfl) (fun e c hk => (Ev.fae (.c rfl) fa35_2 rfl)) rfl (fun _ _ => rfl) (by (exact .inr (fun _ _ => rfl))) ?_)
    (refine DE.qg rfl (fun _ => rfl) (fun e c hk => (Ev.lde1 (.c rfl) ag9)) rfl (fun _ _ => rfl) (by (exact .inr (fun _ _ => rfl))) ?_)
    refine DE.qg rfl (fun _ => rfl) (fun e c hk => (Ev.move (.t rfl))) rfl (fun _ _ => rfl) (by (exact .inr (fun _ _ => rfl))) ?_; refine DE.qg rfl (fun _ => rfl) (fun e c hk => (Ev.move (.t rfl))) rfl (fun _ _ => rfl) (by (exact .inr (fun _ _ => rfl))) ?_; refine DE.qg rfl (fun _ => rfl) (fun e c hk => Ev.at (E := 35) (.c rfl) (.c rfl) Tryz.underlying33 ty35 (fun _ => ⟨by omega, hga⟩) rfl rfl) rfl (fun _ _ => rfl) (by (exact .inr (fun _ _ => rfl))) ?_
    (refine DE.qg rfl (fun _ => rfl) (fun e c hk => (Ev.fae (.c rfl) fa35_2 rfl)) rfl (fun _ _ => rfl) (by (exact .inr (fun _ _ => rfl))) ?_)
    (refine DE.qg rfl (fun _ => rfl) (fun e c hk => (Ev.lde1 (.c rfl) ag9)) rfl (fun _ _ => rfl) (by (exact .inr (fun _ _ => rfl))) ?_)
    refine DE.qg rfl (fun _ => rfl) (fun e c hk => (Ev.nes (.c rfl) (.c rfl))) rfl (fun _ _ => rfl) (by (exact .inr (fun _ _ => rfl))) ?_; refine DE.q (fun e c hk => (Ev.or (.t rfl) ⟨_, _, rfl, rfl, by ((simp; done))⟩)) rfl (fun _ _ => rfl) (by (exact .inr (fun _ _ => rfl))) ?_; refine DE.q (fun e c hk => (Ev.move (.t rfl))) rfl (fun _ _ => rfl) (by (exact .inr (fun _ _ => rfl))) ?_; refine DE.qg rfl (fun _ => rfl) (fun e c hk => (Ev.move (.t rfl))) rfl (fun _ _ => rfl) (by (exact .inr (fun _ _ => rfl))) ?_; refine DE.qg rfl (fun _ => rfl) (fun e c hk => (Ev.move (.t rfl))) rfl (fun _ _ => rfl) (by (exact .inr (fun _ _ => rfl))) ?_; refine DE.qg rfl (fun _ => rfl) (fun e c hk => Ev.at (E := 35) (.c rfl) (.c rfl) Tryz.underlying33 ty35 (fun _ => ⟨by omega, hga⟩) rfl rfl) rfl (fun _ _ => rfl) (by (exact .inr (fun _ _ => rfl))) ?_
    (refine DE.qg rfl (fun _ => rfl) (fun e c hk => (Ev.fae (.c rfl) fa35_1 rfl)) rfl (fun _ _ => rfl) (by (exact .inr (fun _ _ => rfl))) ?_)
    (refine DE.qg rfl (fun _ => rfl) (fun e c hk => (Ev.lde1 (.c rfl) ag32)) rfl (fun _ _ => rfl) (by (exact .inr (fun _ _ => rfl))) ?_)
    (refine DE.qg rfl (fun _ => rfl) (fun e c hk => (Ev.lensl (.c rfl) Tryz.underlying32)) rfl (fun _ _ => rfl) (by (exact .inr (fun _ _ => rfl))) ?_)
    refine DE.qg rfl (fun _ => rfl) (fun e c hk => (Ev.move (.t rfl))) rfl (fun _ _ => rfl) (by (exact .inr (fun _ _ => rfl))) ?_; refine DE.qg rfl (fun _ => rfl) (fun e c hk => (Ev.move (.t rfl))) rfl (fun _ _ => rfl) (by (exact .inr (fun _ _ => rfl))) ?_; refine DE.qg rfl (fun _ => rfl) (fun e c hk => Ev.at (E := 35) (.c rfl) (.c rfl) Tryz.underlying33 ty35 (fun _ => ⟨by omega, hga⟩) rfl rfl) rfl (fun _ _ => rfl) (by (exact .inr (fun _ _ => rfl))) ?_
    (refine DE.qg rfl (fun _ => rfl) (fun e c hk => (Ev.fae (.c rfl) fa35_1 rfl)) rfl (fun _ _ => rfl) (by (exact .inr (fun _ _ => rfl))) ?_)
    (refine DE.qg rfl (fun _ => rfl) (fun e c hk => (Ev.lde1 (.c rfl) ag32)) rfl (fun _ _ => rfl) (by (exact .inr (fun _ _ => rfl))) ?_)
    (refine DE.qg rfl (fun _ => rfl) (fun e c hk => (Ev.lensl (.c rfl) Tryz.underlying32)) rfl (fun _ _ => rfl) (by (exact .inr (fun _ _ => rfl))) ?_)
    refine DE.qg rfl (fun _ => rfl) (fun e c hk => (Ev.nei (.c rfl) (.c rfl))) rfl (fun _ _ => rfl) (by (exact .inr (fun _ _ => rfl))) ?_; refine DE.q (fun e c hk => (Ev.or (.t rfl) ⟨_, _, rfl, rfl, by ((simp; done))⟩)) rfl (fun _ _ => rfl) (by (exact .inr (fun _ _ => rfl))) ?_; refine DE.q (fun e c hk => (Ev.move (.t rfl))) rfl (fun _ _ => rfl) (by (exact .inr (fun _ _ => rfl))) ?_; refine DE.qg rfl (fun _ => rfl) (fun e c hk => (Ev.move (.t rfl))) rfl (fun _ _ => rfl) (by (exact .inr (fun _ _ => rfl))) ?_; refine DE.qg rfl (fun _ => rfl) (fun e c hk => (Ev.move (.t rfl))) rfl (fun _ _ => rfl) (by (exact .inr (fun _ _ => rfl))) ?_; refine DE.qg rfl (fun _ => rfl) (fun e c hk => Ev.at (E := 35) (.c rfl) (.c rfl) Tryz.underlying33 ty35 (fun _ => ⟨by omega, hga⟩) rfl rfl) rfl (fun _ _ => rfl) (by (exact .inr (fun _ _ => rfl))) ?_
    (refine DE.qg rfl (fun _ => rfl) (fun e c hk => (Ev.fae (.c rfl) fa35_3 rfl)) rfl (fun _ _ => rfl) (by (exact .inr (fun _ _ => rfl))) ?_)
    (refine DE.qg rfl (fun _ => rfl) (fun e c hk => (Ev.lde1 (.c rfl) ag33)) rfl (fun _ _ => rfl) (by (exact .inr (fun _ _ => rfl))) ?_)
    refine DE.qg rfl (fun _ => rfl) (fun e c hk => (Ev.move (.t rfl))) rfl (fun _ _ => rfl) (by (exact .inr (fun _ _ => rfl))) ?_; refine DE.qg rfl (fun _ => rfl) (fun e c hk => (Ev.move (.t rfl))) rfl (fun _ _ => rfl) (by (exact .inr (fun _ _ => rfl))) ?_; refine DE.qg rfl (fun _ => rfl) (fun e c hk => Ev.at (E := 35) (.c rfl) (.c rfl) Tryz.underlying33 ty35 (fun _ => ⟨by omega, hga⟩) rfl rfl) rfl (fun _ _ => rfl) (by (exact .inr (fun _ _ => rfl))) ?_
    (refine DE.qg rfl (fun _ => rfl) (fun e c hk => (Ev.fae (.c rfl) fa35_3 rfl)) rfl (fun _ _ => rfl) (by (exact .inr (fun _ _ => rfl))) ?_)
    (refine DE.qg rfl (fun _ => rfl) (fun e c hk => (Ev.lde1 (.c rfl) ag33)) rfl (fun _ _ => rfl) (by (exact .inr (fun _ _ => rfl))) ?_)
    refine DE.callg rfl (fun _ => rfl) (fun c hg => ih d.parts (by omega)) (fun c hg => ⟨(.i rfl (fun _ => hg)), (.i rfl (fun _ => hg)), trivial⟩) rfl (fun _ _ => rfl) (by (exact .inr (fun _ _ => rfl))) ?_; refine DE.qg rfl (fun _ => rfl) (fun e c hk => (Ev.not (.c rfl))) rfl (fun _ _ => rfl) (by (exact .inr (fun _ _ => rfl))) ?_; refine DE.q (fun e c hk => (Ev.or (.t rfl) ⟨_, _, rfl, rfl, by ((simp; done))⟩)) rfl (fun _ _ => rfl) (by (exact .inr (fun _ _ => rfl))) ?_; refine DE.nil (fun c_ e_ he_ => ?_)
    dsimp only
    refine W.then ?_; refine W.is (t := 70) (g := true) (av' := .lit (.bool false)) rfl (congrArg (fun b => AV.lit (.bool b)) (by simp)) ?_; refine W.condF (.t rfl) ?_; refine W.skip ?_; refine W.then ?_; refine W.seq ?_; refine W.region ?_; refine W.q (Ev.assign .k) rfl ?_; refine W.nil ?_; refine W.then ?_; refine W.block ?_; refine W.loop (D := []) (ι := Nat) (fun k => [(6, true, .int (k : Int)), (5, true, .int (i : Int)), (0, true, .sl 4 (l.map Nd.av)), (1, true, .sl 4 (l.map Nd.av))]) (fun _ => []) (fun k => k ≤ d.attrs.length) (fun k => d.attrs.length - k) 0 ⟨rfl, rfl, rfl, rfl, trivial⟩ (.refl _) (Nat.zero_le _) ?_; intro k hk
    dsimp only at hk ⊢
    rcases (show k < d.attrs.length ∨ k = d.attrs.length from by omega) with hltk | hendk
    · have hgk := getD_mapG dav ([], []) d.attrs k hltk
      refine W.seq ?_; refine W.seq ?_; refine W.region ?_; refine W.q (Ev.move (.t rfl)) rfl ?_; refine W.q (Ev.move (.t rfl)) rfl ?_; refine W.q (Ev.move (.t rfl)) rfl ?_; refine W.q (Ev.at (E := 35) (.t rfl) (.t rfl) Tryz.underlying33 ty35 (fun _ => ⟨by omega, hga⟩) rfl rfl) rfl ?_
      (refine W.q (Ev.fae (.t rfl) fa35_1 rfl) rfl ?_)
      (refine W.q (Ev.lde1 (.t rfl) ag32) rfl ?_)
      (refine W.q (Ev.lensl (.t rfl) Tryz.underlying32) rfl ?_)
      refine W.q (Ev.lti (.t rfl) (.t rfl)) rfl ?_; refine W.nil ?_; refine W.then ?_; refine W.is (t := 78) (g := true) (av' := .lit (.bool true)) rfl (congrArg (fun b => AV.lit (.bool b)) (by simp; omega)) ?_; refine W.condT (.t rfl) ?_; refine W.skip ?_; refine W.then ?_; refine W.seq ?_; refine W.block ?_; refine W.seq ?_; refine W.drawn (by kernel_rfl) (by kernel_rfl) ?_; refine DP.q (Ev.move (.t rfl)) rfl ?_; refine DP.q (Ev.move (.t rfl)) rfl ?_; refine DP.q (Ev.at (E := 35) (.t rfl) (.t rfl) Tryz.underlying33 ty35 (fun _ => ⟨by omega, hga⟩) rfl rfl) rfl ?_
      (refine DP.q (Ev.fae (.t rfl) fa35_1 rfl) rfl ?_)
      (refine DP.q (Ev.lde1 (.t rfl) ag32) rfl ?_)
      refine DP.q (Ev.move (.t rfl)) rfl ?_; refine DP.q (Ev.at (E := 48) (.t rfl) (.t rfl) Tryz.underlying32 ty48 (fun _ => ⟨by omega, hgk⟩) rfl rfl) rfl ?_
      (refine DP.q (Ev.lden (.t rfl) ag48 ty48 rfl rfl) rfl ?_)
      refine DP.q (Ev.move (.t rfl)) rfl ?_; refine DP.q (Ev.move (.t rfl)) rfl ?_; refine DP.q (Ev.at (E := 35) (.t rfl) (.t rfl) Tryz.underlying33 ty35 (fun _ => ⟨by omega, hga⟩) rfl rfl) rfl ?_
      (refine DP.q (Ev.fae (.t rfl) fa35_1 rfl) rfl ?_)
      (refine DP.q (Ev.lde1 (.t rfl) ag32) rfl ?_)
      refine DP.q (Ev.move (.t rfl)) rfl ?_; refine DP.q (Ev.at (E := 48) (.t rfl) (.t rfl) Tryz.underlying32 ty48 (fun _ => ⟨by omega, hgk⟩) rfl rfl) rfl ?_
      (refine DP.q (Ev.lden (.t rfl) ag48 ty48 rfl rfl) rfl ?_)
      refine DP.q (Ev.ne2 s2_48 (.t rfl) (.t rfl)) rfl ?_; refine DP.nil ?_; refine W.then ?_; refine W.is (t := 97) (g := true) (av' := .lit (.bool false)) rfl (congrArg (fun b => AV.lit (.bool b)) (by simp)) ?_; refine W.condF (.t rfl) ?_; refine W.skip ?_; refine W.blk_normal ?_; refine W.then ?_; refine W.region ?_; refine W.q (Ev.move (.t rfl)) rfl ?_
      (refine W.q (Ev.add (.t rfl) .k (fun _ => by omega)) rfl ?_)
      refine W.q (Ev.assign (.t rfl)) rfl ?_; refine W.nil ?_; refine W.then ?_; refine W.reach (D := []) (k + 1) ⟨rfl, rfl, rfl, rfl, trivial⟩ (.refl _) ⟨by show k + 1 ≤ _; omega, by show _ - (k + 1) < _; omega⟩
    · skip
      refine W.seq ?_; refine W.seq ?_; refine W.region ?_; refine W.q (Ev.move (.t rfl)) rfl ?_; refine W.q (Ev.move (.t rfl)) rfl ?_; refine W.q (Ev.move (.t rfl)) rfl ?_; refine W.q (Ev.at (E := 35) (.t rfl) (.t rfl) Tryz.underlying33 ty35 (fun _ => ⟨by omega, hga⟩) rfl rfl) rfl ?_
      (refine W.q (Ev.fae (.t rfl) fa35_1 rfl) rfl ?_)
      (refine W.q (Ev.lde1 (.t rfl) ag32) rfl ?_)
      (refine W.q (Ev.lensl (.t rfl) Tryz.underlying32) rfl ?_)
      refine W.q (Ev.lti (.t rfl) (.t rfl)) rfl ?_; refine W.nil ?_; refine W.then ?_; refine W.is (t := 78) (g := true) (av' := .lit (.bool false)) rfl (congrArg (fun b => AV.lit (.bool b)) (by simp; omega)) ?_; refine W.condF (.t rfl) ?_; refine W.exit ?_; refine W.then_exit ?_; refine W.then_exit ?_; refine W.blk_hit ?_; refine W.blk_normal ?_; refine W.then ?_; refine W.region ?_; refine W.q (Ev.move (.t rfl)) rfl ?_
      (refine W.q (Ev.add (.t rfl) .k (fun _ => by omega)) rfl ?_)
      refine W.q (Ev.assign (.t rfl)) rfl ?_; refine W.nil ?_; refine W.then ?_; refine W.reach (D := []) (i + 1) ⟨rfl, rfl, rfl, trivial⟩ (.refl _) ⟨by show i + 1 ≤ _; omega, by show _ - (i + 1) < _; omega⟩
  · skip
    refine W.seq ?_; refine W.seq ?_; refine W.region ?_; refine W.q (Ev.move (.t rfl)) rfl ?_; refine W.q (Ev.move (.t rfl)) rfl ?_
    (refine W.q (Ev.lensl (.t rfl) Tryz.underlying33) rfl ?_)
    refine W.q (Ev.lti (.t rfl) (.t rfl)) rfl ?_; refine W.nil ?_; refine W.then ?_; refine W.is (t := 15) (g := true) (av' := .lit (.bool false)) rfl (congrArg (fun b => AV.lit (.bool b)) (by simp; omega)) ?_; refine W.condF (.t rfl) ?_; refine W.exit ?_; refine W.then_exit ?_; refine W.then_exit ?_; refine W.blk_hit ?_; refine W.then ?_; refine W.seq ?_; refine W.region ?_; refine W.q (Ev.assign .k) rfl ?_; refine W.nil ?_; refine W.then ?_; refine W.ret ?_; refine W.retn (M' := []) (rs := [.tmp 4]) (avs := [_]) Tryz.results17 ⟨rfl, trivial⟩ rfl (.refl _) ?_
    exact ⟨rfl, rfl⟩

theorem c_same (l : List Nd) (hl : Nd.szs l ≤ 16777216) : FnP Tryz.prog 17 [.sl 4 (l.map Nd.av), .sl 4 (l.map Nd.av)] (.bool true) := by
  suffices H : ∀ n, n ≤ 16777216 → ∀ l, Nd.szs l = n → FnP Tryz.prog 17 [.sl 4 (l.map Nd.av), .sl 4 (l.map Nd.av)] (.bool true) from H _ hl l rfl
  intro n
  induction n using Nat.strongRecOn with
  | _ n ih => exact fun hn l hl => c_same_step n hn (fun l' h' => ih _ h' (by omega) l' rfl) l hl

end WSame

end Go.Proofs.YtphlkdbglpcikaaGreatDoor
end

section
set_option linter.unusedVariables false
set_option linter.unusedSimpArgs false
namespace Go.Vl
open Go.RowKit (Below)
def tabM (g : Nat) (T : TypeId) (zs : List Int) : ME := .box g T (zs.map fun z => AV.lit (.int .u64 z))
theorem repL_tab {w : World} {N : List Nat} : ∀ {zs : List Int} {row : List Value}, RepL w N (zs.map fun z => AV.lit (.int .u64 z)) row ↔ row = zs.map (Value.int .u64)
  | [], row => by simp [RepL]
  | z :: zs, row => by
    simp only [List.map_cons, RepL]
    constructor
    · rintro ⟨u, us, rfl, ⟨h1, h2, h3⟩, h4⟩
      rw [lit_cell h1 h3, repL_tab.1 h4]
    · rintro rfl
      exact ⟨_, _, rfl, ⟨rfl, rfl, by simp only [RepC]; rfl⟩, repL_tab.2 rfl⟩
theorem laid_tl {P : Program} {x : String × DataW Unit} {r : List (String × DataW Unit)} {w : World} (h : laidMet P (x :: r) w) : laidMet P r w := by
  obtain ⟨ps, hv, hnd, hrows⟩ := h
  obtain ⟨n, d⟩ := x
  obtain ⟨g, t, cs, fuel, p, q, _, _, _, _, hq, rfl⟩ := hv
  exact ⟨q, hq, List.Nodup.sublist (List.sublist_append_right _ _) hnd, fun b off hm => hrows b off (List.mem_append_right _ hm)⟩
theorem tab_block {P : Program} {W : World} {name : String} {zs : List Int} {rest : List (String × DataW Unit)} {g : Nat} {t e : TypeId} {n : Nat}
    (hg : P.globalNamed name = some g) (hty : (P.globals[g]?).map (·.type) = some t) (ht : P.underlying t = some (.array n e)) (he : P.underlying e = some (.int .u64)) (hce : P.cellsOf e = 1) (hct : P.cellsOf t = n)
    (hz : 0 < zs.length) (h : laidMet P ((name, Lib.tabData .u64 zs) :: rest) W) : ∃ T, W.heap[g]? = some (.cells (zs.map (Value.int .u64)).toArray T (0, 0)) := by
  have htab := Lib.tabIs_of_head hg hty ht he hce hct h
  obtain ⟨ps, ⟨g', t', cs, fuel, p, q, hg', ht', hvar, hd, _, hps⟩, hnd, hrows⟩ := h
  obtain rfl := Option.some.inj (hg.symm.trans hg')
  have hcs : cs = (zs.map (Value.int .u64)).toArray := Option.some.inj (hvar.symm.trans htab)
  have hsz : 0 < cs.size := by rw [hcs]; simpa using hz
  obtain ⟨⟨c, T, hb⟩, _⟩ := hrows g 0 (by
    rw [hps]
    refine List.mem_append_left _ (List.mem_append_left _ ?_)
    unfold MemPlace.row
    exact List.mem_map.2 ⟨0, List.mem_range.2 hsz, rfl⟩)
  refine ⟨T, ?_⟩
  unfold Lib.TabIs World.var? at htab
  rw [hg, Option.bind_some, hb] at htab
  rw [hb, Option.some.inj htab]
theorem rep_apart {W : World} {g : Nat} {T : TypeId} {fr : Nat × Nat} {zs : List Int} (hg : W.heap[g]? = some (.cells (zs.map (Value.int .u64)).toArray T fr)) {l : List Int} {v : Value} (h : Rep W [] (.sl 1 (l.map AV.int)) v) : Rep W [g] (.sl 1 (l.map AV.int)) v := by
  refine ⟨h.1, ?_⟩
  have h2 := h.2
  simp only [RepC] at h2 ⊢
  obtain ⟨a, cap, e, h3, h4, h5⟩ := h2
  refine ⟨a, cap, e, h3, h4, ?_⟩
  rcases h5 with h5 | ⟨b, off, cur, T', fr', ha, hb, hc, he⟩
  · exact .inl h5
  · cases l with
    | nil => exact .inl rfl
    | cons n l =>
      have hi := RepE.toInts he
      refine .inr ⟨b, off, cur, T', fr', ha, ?_, hc, RepE.ints hi⟩
      intro hbg
      have hbg : b = g := by simpa using hbg
      subst hbg
      rw [hg] at hc
      cases hc
      have hmem : (Value.int .i64 n) ∈ ((zs.map (Value.int .u64)).toArray.toList.drop off) := List.mem_of_mem_take (i := (n :: l).length) (by rw [hi]; simp)
      have := List.mem_of_mem_drop hmem
      simp at this
theorem law_callsT {P : Program} {f : FuncId} {avs : List AV} {W : World} {vs : List Value} {g : Nat} {T : TypeId} {zs : List Int} (hg : W.heap[g]? = some (.cells (zs.map (Value.int .u64)).toArray T (0, 0)))
    (h : FnC P f avs [tabM g T zs] (fun r M => r = .lit (.bool true) ∧ M = [tabM g T zs])) (ha : RepT W [g] avs vs) :
    Calls P f vs.toArray W fun e W' => e = .returned (.bool true) ∧ Below W.heap.size W W' := by
  have hm : MOk W [tabM g T zs] [] := ⟨by simp [bl, ME.blks, tabM], by simp, fun m hm => by
    rw [List.mem_singleton.1 hm]
    exact ⟨_, hg, repL_tab.2 (by simp)⟩⟩
  refine (h.2 W [] vs (by simp) hm (by simpa [bl, ME.blks, tabM] using ha)).mono ?_
  rintro e W' ⟨v, r, M', rfl, ⟨rfl, rfl⟩, hm', hr, hf⟩
  have hv := Rep.lit_iff.1 hr
  subst hv
  refine ⟨rfl, hf.os, hf.tape, hf.output, hf.size, fun k hk => ?_⟩
  by_cases hkg : k = g
  · subst hkg
    obtain ⟨cur, hc, hl⟩ := hm'.holds _ List.mem_cons_self
    rw [hc, hg]
    congr 2
    exact Array.toList_inj.1 (repL_tab.1 hl)
  · exact (hf.block k hk (by simp [bl, ME.blks, tabM, hkg])).1
end Go.Vl
end
