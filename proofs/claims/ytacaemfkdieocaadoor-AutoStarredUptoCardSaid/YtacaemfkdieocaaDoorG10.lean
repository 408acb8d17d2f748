/-
  Merged: WParse2 WFault WText WParse3 Change WMatch2 WWords WConts.
-/
import Derived.Test.YtacaemfkdieocaaDoorG9

section
set_option linter.unusedVariables false
set_option linter.unusedSimpArgs false
set_option maxRecDepth 100000
namespace Go.Proofs.YtacaemfkdieocaaDoor
open Go.Vl

namespace WParse2
theorem ty3 : Ty Tryd.prog 3 1 8 (.int .i64 0) := Ty.of (by kernel_rfl)
theorem ty4 : Ty Tryd.prog 4 1 1 (.bool false) := Ty.of (by kernel_rfl)
theorem ty9 : Ty Tryd.prog 9 1 16 (.string ⟨#[]⟩) := Ty.of (by kernel_rfl)
theorem ty47 : Ty Tryd.prog 47 1 24 (.slice none 0 0) := Ty.of (by kernel_rfl)
theorem ty49 : Ty Tryd.prog 49 3 40 (.agg #[.int .i64 0, .int .i64 0, .slice none 0 0]) := Ty.of (by kernel_rfl)
theorem ag4 : IsAgg Tryd.prog 4 false := ⟨_, Tryd.underlying4, rfl⟩
theorem ag9 : IsAgg Tryd.prog 9 false := ⟨_, Tryd.underlying9, rfl⟩
theorem ag49 : IsAgg Tryd.prog 49 true := ⟨_, Tryd.underlying49, rfl⟩
theorem fa85_0 : FieldAt Tryd.prog 85 0 0 1 false := ⟨_, _, Tryd.underlying85, rfl, rfl, ty9.size, ag9, by decide⟩
theorem fa85_1 : FieldAt Tryd.prog 85 1 1 1 false := ⟨_, _, Tryd.underlying85, rfl, rfl, ty4.size, ag4, by decide⟩
theorem st49 : StructAt Tryd.prog 49 [(0, 1), (1, 1), (2, 1)] := ⟨_, Tryd.underlying49, rfl, ty3.size, rfl, ty3.size, rfl, ty47.size, trivial⟩
theorem ni47 : NotInt Tryd.prog 47 := .inl ⟨_, Tryd.underlying47⟩
theorem c_item_ch (b n : Nat) (sf : List Nat) (r : List UInt8) (hn : n < 8) (hsf : ∀ k ∈ sf, k < 3) (hr : It.endI r) : FnC Tryd.prog 67 [.lit (.pointer (some ⟨b, 0, none⟩))] [.box b 85 [.str (It.tx (.ch n sf) ++ r), .bool false]] (fun x M => x = (It.ev (.ch n sf)).avx ∧ M = [.box b 85 [.str (r), .bool false]]) :=  by
  refine FnC.mk Tryd.func67 (by kernel_rfl) rfl Tryd.ntmps67 rfl (fun w0 F => ?_)
  rw [It.tx, List.cons_append]
  have hcn := It.ch_nat n hn
  generalize 97 + UInt8.ofNat n = c0 at hcn ⊢
  refine W.seq ?_
  refine W.region ?_
  refine W.alloc ty49 rfl rfl ?_
  intro b2
  refine W.nil ?_
  refine W.then ?_
  refine W.seq ?_
  refine W.region ?_
  refine W.q (Ev.move (.t rfl)) rfl ?_
  refine W.q (Ev.nilc (.t rfl)) rfl ?_
  (refine W.q (Ev.fab (.t rfl) fa85_0) rfl ?_)
  (refine W.q (Ev.ldb1 1 (.t rfl) rfl ag9 rfl) rfl ?_)
  refine W.q (Ev.ats (b := c0) (.t rfl) .k Tryd.underlying9 (fun _ => ⟨by decide, rfl⟩)) rfl ?_
  refine W.q (Ev.assign (.t rfl)) rfl ?_
  refine W.nil ?_
  refine W.then ?_
  refine W.seq ?_
  refine W.region ?_
  refine W.q (Ev.move (.t rfl)) rfl ?_
  refine W.q (Ev.move (.t rfl)) rfl ?_
  refine W.q (Ev.nilc (.t rfl)) rfl ?_
  (refine W.q (Ev.fab (.t rfl) fa85_0) rfl ?_)
  (refine W.q (Ev.ldb1 1 (.t rfl) rfl ag9 rfl) rfl ?_)
  refine W.q (Ev.subs (lo := some (.const (.int .i64 1))) (hi := none) (.t rfl) Tryd.underlying9 (Ov.k (g := true) (L := [])) rfl (fun _ => by simp only [List.length_cons]; omega)) rfl ?_
  refine W.is (t := 16) (g := true) (av' := .str (sf.map sg ++ r)) rfl (congrArg AV.str (It.tail1 _ _)) ?_
  refine W.q (Ev.nilc (.t rfl)) rfl ?_
  (refine W.q (Ev.fab (.t rfl) fa85_0) rfl ?_)
  (refine W.stb 1 (.t rfl) (.t rfl) rfl ty9 rfl rfl rfl ?_)
  refine W.nil ?_
  refine W.then ?_
  refine W.seq ?_
  refine W.region ?_
  refine W.alloc ty49 rfl rfl ?_
  intro b4
  refine W.nil ?_
  refine W.then ?_
  refine W.seq ?_
  refine W.block ?_
  refine W.seq ?_
  refine W.region ?_
  refine W.q (Ev.move (.t rfl)) rfl ?_
  refine W.q (Ev.gei (.t rfl) .k) rfl ?_
  refine W.q (Ev.move (.t rfl)) rfl ?_
  refine W.qgT rfl rfl (Ev.move (.t rfl)) rfl ?_
  refine W.qgT rfl rfl (Ev.lei (.c rfl) .k) rfl ?_
  refine W.q (Ev.and (.t rfl) ⟨_, _, rfl, rfl, by ((simp; done))⟩) rfl ?_
  refine W.q (Ev.assign (.t rfl)) rfl ?_
  refine W.nil ?_
  refine W.then ?_
  refine W.is (t := 22) (g := true) (av' := .lit (.bool true)) rfl (congrArg (fun b => AV.lit (.bool b)) (by simp; omega)) ?_
  refine W.condT (.t rfl) ?_
  refine W.region ?_
  refine W.q (Ev.move (.t rfl)) rfl ?_
  refine W.q (Ev.subw (.t rfl) .k) rfl ?_
  refine W.is (t := 30) (g := true) (av' := .lit (.int .u8 (n : Int))) rfl (congrArg (fun z => AV.lit (.int .u8 z)) (by rw [hcn]; simp [IntKind.wrap, IntKind.signed, IntKind.bits]; omega)) ?_
  (refine W.q (Ev.conv64 (.t rfl) ⟨_, Tryd.underlying5⟩ Tryd.underlying3 (fun _ => by omega)) rfl ?_)
  refine W.q (Ev.build ty49 st49 rfl (fun hg => ⟨_, _, _, rfl, .k, rfl, rfl, rfl, _, _, _, rfl, (.t rfl), rfl, rfl, rfl, rfl⟩)) rfl ?_
  refine W.nils (t := 32) (g := true) (cs' := [.int 1, .int (n : Int), .sl 3 []]) rfl ⟨.inl rfl, .inl rfl, .inr ⟨rfl, 3, rfl⟩, trivial⟩ ?_
  (refine W.stb 0 (.t rfl) (.t rfl) rfl ty49 rfl rfl rfl ?_)
  refine W.nil ?_
  refine W.blk_normal ?_
  refine W.then ?_
  refine W.seq ?_
  refine W.block ?_
  refine W.loop (D := []) (ι := Nat) (fun k => [(0, true, .lit (.pointer (some ⟨b, 0, none⟩))), (4, true, .lit (.pointer (some ⟨b4, 0, none⟩))), (2, true, .lit (.pointer (some ⟨b2, 0, none⟩)))]) (fun k => [.box b4 49 (Ex.sfe (.mk 1 (n : Int) []) (sf.take k)).avx.cells, .box b2 49 [.int 0, .int 0, .lit (.slice none 0 0)], .box b 85 [.str ((sf.drop k).map sg ++ r), .bool false]]) (fun k => k ≤ sf.length) (fun k => sf.length - k) 0 ⟨rfl, rfl, rfl, trivial⟩ (.refl _) (Nat.zero_le _) ?_
  intro k hk
  dsimp only at hk ⊢
  rcases (show k < sf.length ∨ (k = sf.length ∧ r = []) ∨ (k = sf.length ∧ ∃ c t, r = c :: t) from by
    rcases Nat.lt_or_ge k sf.length with h | h
    · exact .inl h
    · cases r with
      | nil => exact .inr (.inl ⟨by omega, rfl⟩)
      | cons c t => exact .inr (.inr ⟨by omega, c, t, rfl⟩)) with hlt | ⟨hend, hr0⟩ | ⟨hend, c, t, hr0⟩
  · rw [It.sfdrop sf k hlt r]
    have hk3 := hsf _ (getD_memG 0 sf k hlt)
    have hsn := Ex.sfe_snoc (.mk 1 (n : Int) []) sf k hlt
    generalize hkk : sf.getD k 0 = kk at hk3 hsn ⊢
    refine W.seq ?_
    refine W.seq ?_
    refine W.region ?_
    refine W.q (Ev.move (.t rfl)) rfl ?_
    refine W.q (Ev.nilc (.t rfl)) rfl ?_
    (refine W.q (Ev.fab (.t rfl) fa85_0) rfl ?_)
    (refine W.q (Ev.ldb1 2 (.t rfl) rfl ag9 rfl) rfl ?_)
    refine W.q (Ev.nes (.t rfl) .k) rfl ?_
    refine W.nil ?_
    refine W.then ?_
    refine W.is (t := 54) (g := true) (av' := .lit (.bool true)) rfl (congrArg (fun b => AV.lit (.bool b)) (by rfl)) ?_
    refine W.condT (.t rfl) ?_
    refine W.skip ?_
    refine W.then ?_
    refine W.block ?_
    refine W.seq ?_
    refine W.region ?_
    refine W.q (Ev.move (.t rfl)) rfl ?_
    refine W.q (Ev.nilc (.t rfl)) rfl ?_
    (refine W.q (Ev.fab (.t rfl) fa85_0) rfl ?_)
    (refine W.q (Ev.ldb1 2 (.t rfl) rfl ag9 rfl) rfl ?_)
    refine W.q (Ev.ats (b := sg kk) (.t rfl) .k Tryd.underlying9 (fun _ => ⟨by decide, rfl⟩)) rfl ?_
    refine W.callp (WIndex.c_IndexByte [42, 43, 63] (sg kk)) ⟨.k, (.t rfl), trivial⟩ rfl ?_
    refine W.q (Ev.assign (.t rfl)) rfl ?_
    refine W.nil ?_
    refine W.then ?_
    refine W.seq ?_
    refine W.seq ?_
    refine W.region ?_
    refine W.q (Ev.move (.t rfl)) rfl ?_
    refine W.q (Ev.lti (.t rfl) .k) rfl ?_
    refine W.nil ?_
    refine W.then ?_
    refine W.is (t := 62) (g := true) (av' := .lit (.bool false)) rfl (congrArg (fun b => AV.lit (.bool b)) (by rw [It.sg_idx kk hk3]; exact decide_eq_false (by omega))) ?_
    refine W.condF (.t rfl) ?_
    refine W.skip ?_
    refine W.then ?_
    refine W.seq ?_
    refine W.region ?_
    refine W.q (Ev.move (.t rfl)) rfl ?_
    refine W.q (Ev.move (.t rfl)) rfl ?_
    refine W.q (Ev.nilc (.t rfl)) rfl ?_
    (refine W.q (Ev.fab (.t rfl) fa85_0) rfl ?_)
    (refine W.q (Ev.ldb1 2 (.t rfl) rfl ag9 rfl) rfl ?_)
    refine W.q (Ev.subs (lo := some (.const (.int .i64 1))) (hi := none) (.t rfl) Tryd.underlying9 (Ov.k (g := true) (L := [])) rfl (fun _ => by simp only [List.length_cons]; omega)) rfl ?_
    refine W.is (t := 68) (g := true) (av' := .str ((sf.drop (k + 1)).map sg ++ r)) rfl (congrArg AV.str (It.tail1 _ _)) ?_
    refine W.q (Ev.nilc (.t rfl)) rfl ?_
    (refine W.q (Ev.fab (.t rfl) fa85_0) rfl ?_)
    (refine W.stb 2 (.t rfl) (.t rfl) rfl ty9 rfl rfl rfl ?_)
    refine W.nil ?_
    refine W.then ?_
    refine W.region ?_
    refine W.q (Ev.move (.t rfl)) rfl ?_
    refine W.is (t := 71) (g := true) (av' := .int (kk : Int)) rfl (congrArg AV.int (It.sg_idx kk hk3)) ?_
    (refine W.q (Ev.add .k (.t rfl) (fun _ => by omega)) rfl ?_)
    (refine W.q (Ev.ldbn 0 (.t rfl) rfl ag49 ty49 rfl) rfl ?_)
    refine W.bs (es := [_]) Tryd.underlying47 ty49 ⟨rfl, (.t rfl), rfl, rfl, trivial⟩ rfl (by decide) rfl rfl ?_
    refine W.q (Ev.build ty49 st49 rfl (fun hg => ⟨_, _, _, rfl, (.t rfl), rfl, rfl, rfl, _, _, _, rfl, (.t rfl), rfl, rfl, rfl, rfl⟩)) rfl ?_
    (refine W.stb 0 (.t rfl) (.t rfl) rfl ty49 rfl rfl rfl ?_)
    refine W.nil ?_
    refine W.blk_normal ?_
    refine W.then ?_
    refine W.reach (D := []) (k + 1) ⟨rfl, rfl, rfl, trivial⟩ (by rw [hsn, Ex.avx_one]; exact .refl _) ⟨by show k + 1 ≤ _; omega, by show _ - (k + 1) < _; omega⟩
  · subst hr0
    rw [hend, List.drop_length, List.take_length]
    refine W.seq ?_
    refine W.seq ?_
    refine W.region ?_
    refine W.q (Ev.move (.t rfl)) rfl ?_
    refine W.q (Ev.nilc (.t rfl)) rfl ?_
    (refine W.q (Ev.fab (.t rfl) fa85_0) rfl ?_)
    (refine W.q (Ev.ldb1 2 (.t rfl) rfl ag9 rfl) rfl ?_)
    refine W.q (Ev.nes (.t rfl) .k) rfl ?_
    refine W.nil ?_
    refine W.then ?_
    refine W.is (t := 54) (g := true) (av' := .lit (.bool false)) rfl (congrArg (fun b => AV.lit (.bool b)) (by rfl)) ?_
    refine W.condF (.t rfl) ?_
    refine W.exit ?_
    refine W.then_exit ?_
    refine W.then_exit ?_
    refine W.blk_hit ?_
    refine W.then ?_
    refine W.seq ?_
    refine W.region ?_
    (refine W.q (Ev.ldbn 0 (.t rfl) rfl ag49 ty49 rfl) rfl ?_)
    (refine W.stb 1 (.t rfl) (.t rfl) rfl ty49 rfl rfl rfl ?_)
    refine W.nil ?_
    refine W.then ?_
    refine W.ret ?_
    refine W.retn (M' := [_]) (D := _) (rs := [.cell 2 49]) (avs := [_]) Tryd.results67 ⟨⟨_, _, _, rfl, by (exact List.mem_cons_of_mem _ List.mem_cons_self), rfl, by funext w; exact ag49.run w, by funext w; exact ty49.size w⟩, trivial⟩ rfl (List.perm_middle (l₁ := [_, _])) ?_
    exact ⟨by rw [It.ev]; rfl, rfl⟩
  · subst hr0
    rw [hend, List.drop_length, List.take_length]
    have hc3 := hr c t rfl
    refine W.seq ?_
    refine W.seq ?_
    refine W.region ?_
    refine W.q (Ev.move (.t rfl)) rfl ?_
    refine W.q (Ev.nilc (.t rfl)) rfl ?_
    (refine W.q (Ev.fab (.t rfl) fa85_0) rfl ?_)
    (refine W.q (Ev.ldb1 2 (.t rfl) rfl ag9 rfl) rfl ?_)
    refine W.q (Ev.nes (.t rfl) .k) rfl ?_
    refine W.nil ?_
    refine W.then ?_
    refine W.is (t := 54) (g := true) (av' := .lit (.bool true)) rfl (congrArg (fun b => AV.lit (.bool b)) (by rfl)) ?_
    refine W.condT (.t rfl) ?_
    refine W.skip ?_
    refine W.then ?_
    refine W.block ?_
    refine W.seq ?_
    refine W.region ?_
    refine W.q (Ev.move (.t rfl)) rfl ?_
    refine W.q (Ev.nilc (.t rfl)) rfl ?_
    (refine W.q (Ev.fab (.t rfl) fa85_0) rfl ?_)
    (refine W.q (Ev.ldb1 2 (.t rfl) rfl ag9 rfl) rfl ?_)
    refine W.q (Ev.ats (b := c) (.t rfl) .k Tryd.underlying9 (fun _ => ⟨by decide, rfl⟩)) rfl ?_
    refine W.callp (WIndex.c_IndexByte [42, 43, 63] c) ⟨.k, (.t rfl), trivial⟩ rfl ?_
    refine W.q (Ev.assign (.t rfl)) rfl ?_
    refine W.nil ?_
    refine W.then ?_
    refine W.seq ?_
    refine W.seq ?_
    refine W.region ?_
    refine W.q (Ev.move (.t rfl)) rfl ?_
    refine W.q (Ev.lti (.t rfl) .k) rfl ?_
    refine W.nil ?_
    refine W.then ?_
    refine W.is (t := 62) (g := true) (av' := .lit (.bool true)) rfl (congrArg (fun b => AV.lit (.bool b)) (by rw [It.idx_no c hc3]; rfl)) ?_
    refine W.condT (.t rfl) ?_
    refine W.exit ?_
    refine W.then_exit ?_
    refine W.blk_miss rfl ?_
    refine W.then_exit ?_
    refine W.blk_hit ?_
    refine W.then ?_
    refine W.seq ?_
    refine W.region ?_
    (refine W.q (Ev.ldbn 0 (.t rfl) rfl ag49 ty49 rfl) rfl ?_)
    (refine W.stb 1 (.t rfl) (.t rfl) rfl ty49 rfl rfl rfl ?_)
    refine W.nil ?_
    refine W.then ?_
    refine W.ret ?_
    refine W.retn (M' := [_]) (D := _) (rs := [.cell 2 49]) (avs := [_]) Tryd.results67 ⟨⟨_, _, _, rfl, by (exact List.mem_cons_of_mem _ List.mem_cons_self), rfl, by funext w; exact ag49.run w, by funext w; exact ty49.size w⟩, trivial⟩ rfl (List.perm_middle (l₁ := [_, _])) ?_
    exact ⟨by rw [It.ev]; rfl, rfl⟩

theorem c_item_gr (b : Nat) (s : List It) (a : List (List It)) (sf : List Nat) (r : List UInt8) (hA : ∀ r, It.endA r → FnC Tryd.prog 36 [.lit (.pointer (some ⟨b, 0, none⟩))] [.box b 85 [.str (It.stx (s) ++ (It.atl (a) ++ r)), .bool false]] (fun x M => x = (It.al (s) (a)).avx ∧ M = [.box b 85 [.str (r), .bool false]])) (hsf : ∀ k ∈ sf, k < 3) (hr : It.endI r) : FnC Tryd.prog 67 [.lit (.pointer (some ⟨b, 0, none⟩))] [.box b 85 [.str (It.tx (.gr s a sf) ++ r), .bool false]] (fun x M => x = (It.ev (.gr s a sf)).avx ∧ M = [.box b 85 [.str (r), .bool false]]) :=  by
  refine FnC.mk Tryd.func67 (by kernel_rfl) rfl Tryd.ntmps67 rfl (fun w0 F => ?_)
  rw [It.tx, show (40 :: (It.stx s ++ (It.atl a ++ 41 :: sf.map sg)) ++ r : List UInt8) = 40 :: (It.stx s ++ (It.atl a ++ (41 :: (sf.map sg ++ r)))) from by simp]
  refine W.seq ?_
  refine W.region ?_
  refine W.alloc ty49 rfl rfl ?_
  intro b2
  refine W.nil ?_
  refine W.then ?_
  refine W.seq ?_
  refine W.region ?_
  refine W.q (Ev.move (.t rfl)) rfl ?_
  refine W.q (Ev.nilc (.t rfl)) rfl ?_
  (refine W.q (Ev.fab (.t rfl) fa85_0) rfl ?_)
  (refine W.q (Ev.ldb1 1 (.t rfl) rfl ag9 rfl) rfl ?_)
  refine W.q (Ev.ats (b := 40) (.t rfl) .k Tryd.underlying9 (fun _ => ⟨by decide, rfl⟩)) rfl ?_
  refine W.q (Ev.assign (.t rfl)) rfl ?_
  refine W.nil ?_
  refine W.then ?_
  refine W.seq ?_
  refine W.region ?_
  refine W.q (Ev.move (.t rfl)) rfl ?_
  refine W.q (Ev.move (.t rfl)) rfl ?_
  refine W.q (Ev.nilc (.t rfl)) rfl ?_
  (refine W.q (Ev.fab (.t rfl) fa85_0) rfl ?_)
  (refine W.q (Ev.ldb1 1 (.t rfl) rfl ag9 rfl) rfl ?_)
  refine W.q (Ev.subs (lo := some (.const (.int .i64 1))) (hi := none) (.t rfl) Tryd.underlying9 (Ov.k (g := true) (L := [])) rfl (fun _ => by simp only [List.length_cons]; omega)) rfl ?_
  refine W.is (t := 16) (g := true) (av' := .str (It.stx s ++ (It.atl a ++ (41 :: (sf.map sg ++ r))))) rfl (congrArg AV.str (It.tail1 _ _)) ?_
  refine W.q (Ev.nilc (.t rfl)) rfl ?_
  (refine W.q (Ev.fab (.t rfl) fa85_0) rfl ?_)
  (refine W.stb 1 (.t rfl) (.t rfl) rfl ty9 rfl rfl rfl ?_)
  refine W.nil ?_
  refine W.then ?_
  refine W.seq ?_
  refine W.region ?_
  refine W.alloc ty49 rfl rfl ?_
  intro b4
  refine W.nil ?_
  refine W.then ?_
  refine W.seq ?_
  refine W.block ?_
  refine W.seq ?_
  refine W.region ?_
  refine W.q (Ev.move (.t rfl)) rfl ?_
  refine W.q (Ev.gei (.t rfl) .k) rfl ?_
  refine W.q (Ev.move (.t rfl)) rfl ?_
  refine W.qgT rfl rfl (Ev.move (.t rfl)) rfl ?_
  refine W.qgT rfl rfl (Ev.lei (.c rfl) .k) rfl ?_
  refine W.q (Ev.and (.t rfl) ⟨_, _, rfl, rfl, by ((simp; done))⟩) rfl ?_
  refine W.q (Ev.assign (.t rfl)) rfl ?_
  refine W.nil ?_
  refine W.then ?_
  refine W.is (t := 22) (g := true) (av' := .lit (.bool false)) rfl (congrArg (fun b => AV.lit (.bool b)) (by rfl)) ?_
  refine W.condF (.t rfl) ?_
  refine W.seq ?_
  refine W.region ?_
  refine W.q (Ev.move (.t rfl)) rfl ?_
  refine W.q (Ev.eqi (.t rfl) .k) rfl ?_
  refine W.q (Ev.assign (.t rfl)) rfl ?_
  refine W.nil ?_
  refine W.then ?_
  refine W.is (t := 33) (g := true) (av' := .lit (.bool true)) rfl (congrArg (fun b => AV.lit (.bool b)) (by rfl)) ?_
  refine W.condT (.t rfl) ?_
  refine W.seq ?_
  refine W.region ?_
  refine W.q (Ev.move (.t rfl)) rfl ?_
  refine W.call (hA _ (It.endA_close (sf.map sg ++ r))) ⟨(.t rfl), trivial⟩ ((List.perm_middle (l₁ := [_, _]))) rfl ?_
  rintro _ _ ⟨rfl, rfl⟩
  (refine W.stb 1 (.t rfl) (.t rfl) rfl ty49 rfl rfl rfl ?_)
  refine W.nil ?_
  refine W.then ?_
  refine W.region ?_
  refine W.q (Ev.move (.t rfl)) rfl ?_
  refine W.q (Ev.move (.t rfl)) rfl ?_
  refine W.q (Ev.nilc (.t rfl)) rfl ?_
  (refine W.q (Ev.fab (.t rfl) fa85_1) rfl ?_)
  (refine W.q (Ev.ldb1 0 (.t rfl) rfl ag4 rfl) rfl ?_)
  refine W.q (Ev.move (.t rfl)) rfl ?_
  refine W.gyes rfl rfl ?_
  refine W.q (Ev.move (.t rfl)) rfl ?_
  refine W.gyes rfl rfl ?_
  refine W.call (WParse1.c_takesT b 41 (sf.map sg ++ r)) ⟨(.t rfl), .k, trivial⟩ (.refl _) rfl ?_
  rintro _ _ ⟨rfl, rfl⟩
  refine W.gyes rfl rfl ?_
  refine W.q (Ev.not (.t rfl)) rfl ?_
  refine W.q (Ev.or (.t rfl) ⟨_, _, rfl, rfl, by ((simp; done))⟩) rfl ?_
  refine W.q (Ev.nilc (.t rfl)) rfl ?_
  (refine W.q (Ev.fab (.t rfl) fa85_1) rfl ?_)
  (refine W.stb 0 (.t rfl) (.t rfl) rfl ty4 rfl rfl rfl ?_)
  refine W.nil ?_
  refine W.blk_normal ?_
  refine W.then ?_
  refine W.seq ?_
  refine W.block ?_
  refine W.loop (D := []) (ι := Nat) (fun k => [(0, true, .lit (.pointer (some ⟨b, 0, none⟩))), (4, true, .lit (.pointer (some ⟨b4, 0, none⟩))), (2, true, .lit (.pointer (some ⟨b2, 0, none⟩)))]) (fun k => [.box b4 49 (Ex.sfe (It.al s a) (sf.take k)).avx.cells, .box b2 49 [.int 0, .int 0, .lit (.slice none 0 0)], .box b 85 [.str ((sf.drop k).map sg ++ r), .bool false]]) (fun k => k ≤ sf.length) (fun k => sf.length - k) 0 ⟨rfl, rfl, rfl, trivial⟩ ((List.perm_append_comm (l₁ := [_]))) (Nat.zero_le _) ?_
  intro k hk
  dsimp only at hk ⊢
  rcases (show k < sf.length ∨ (k = sf.length ∧ r = []) ∨ (k = sf.length ∧ ∃ c t, r = c :: t) from by
    rcases Nat.lt_or_ge k sf.length with h | h
    · exact .inl h
    · cases r with
      | nil => exact .inr (.inl ⟨by omega, rfl⟩)
      | cons c t => exact .inr (.inr ⟨by omega, c, t, rfl⟩)) with hlt | ⟨hend, hr0⟩ | ⟨hend, c, t, hr0⟩
  · rw [It.sfdrop sf k hlt r]
    have hk3 := hsf _ (getD_memG 0 sf k hlt)
    have hsn := Ex.sfe_snoc (It.al s a) sf k hlt
    generalize hkk : sf.getD k 0 = kk at hk3 hsn ⊢
    refine W.seq ?_
    refine W.seq ?_
    refine W.region ?_
    refine W.q (Ev.move (.t rfl)) rfl ?_
    refine W.q (Ev.nilc (.t rfl)) rfl ?_
    (refine W.q (Ev.fab (.t rfl) fa85_0) rfl ?_)
    (refine W.q (Ev.ldb1 2 (.t rfl) rfl ag9 rfl) rfl ?_)
    refine W.q (Ev.nes (.t rfl) .k) rfl ?_
    refine W.nil ?_
    refine W.then ?_
    refine W.is (t := 54) (g := true) (av' := .lit (.bool true)) rfl (congrArg (fun b => AV.lit (.bool b)) (by rfl)) ?_
    refine W.condT (.t rfl) ?_
    refine W.skip ?_
    refine W.then ?_
    refine W.block ?_
    refine W.seq ?_
    refine W.region ?_
    refine W.q (Ev.move (.t rfl)) rfl ?_
    refine W.q (Ev.nilc (.t rfl)) rfl ?_
    (refine W.q (Ev.fab (.t rfl) fa85_0) rfl ?_)
    (refine W.q (Ev.ldb1 2 (.t rfl) rfl ag9 rfl) rfl ?_)
    refine W.q (Ev.ats (b := sg kk) (.t rfl) .k Tryd.underlying9 (fun _ => ⟨by decide, rfl⟩)) rfl ?_
    refine W.callp (WIndex.c_IndexByte [42, 43, 63] (sg kk)) ⟨.k, (.t rfl), trivial⟩ rfl ?_
    refine W.q (Ev.assign (.t rfl)) rfl ?_
    refine W.nil ?_
    refine W.then ?_
    refine W.seq ?_
    refine W.seq ?_
    refine W.region ?_
    refine W.q (Ev.move (.t rfl)) rfl ?_
    refine W.q (Ev.lti (.t rfl) .k) rfl ?_
    refine W.nil ?_
    refine W.then ?_
    refine W.is (t := 62) (g := true) (av' := .lit (.bool false)) rfl (congrArg (fun b => AV.lit (.bool b)) (by rw [It.sg_idx kk hk3]; exact decide_eq_false (by omega))) ?_
    refine W.condF (.t rfl) ?_
    refine W.skip ?_
    refine W.then ?_
    refine W.seq ?_
    refine W.region ?_
    refine W.q (Ev.move (.t rfl)) rfl ?_
    refine W.q (Ev.move (.t rfl)) rfl ?_
    refine W.q (Ev.nilc (.t rfl)) rfl ?_
    (refine W.q (Ev.fab (.t rfl) fa85_0) rfl ?_)
    (refine W.q (Ev.ldb1 2 (.t rfl) rfl ag9 rfl) rfl ?_)
    refine W.q (Ev.subs (lo := some (.const (.int .i64 1))) (hi := none) (.t rfl) Tryd.underlying9 (Ov.k (g := true) (L := [])) rfl (fun _ => by simp only [List.length_cons]; omega)) rfl ?_
    refine W.is (t := 68) (g := true) (av' := .str ((sf.drop (k + 1)).map sg ++ r)) rfl (congrArg AV.str (It.tail1 _ _)) ?_
    refine W.q (Ev.nilc (.t rfl)) rfl ?_
    (refine W.q (Ev.fab (.t rfl) fa85_0) rfl ?_)
    (refine W.stb 2 (.t rfl) (.t rfl) rfl ty9 rfl rfl rfl ?_)
    refine W.nil ?_
    refine W.then ?_
    refine W.region ?_
    refine W.q (Ev.move (.t rfl)) rfl ?_
    refine W.is (t := 71) (g := true) (av' := .int (kk : Int)) rfl (congrArg AV.int (It.sg_idx kk hk3)) ?_
    (refine W.q (Ev.add .k (.t rfl) (fun _ => by omega)) rfl ?_)
    (refine W.q (Ev.ldbn 0 (.t rfl) rfl ag49 ty49 rfl) rfl ?_)
    refine W.bs (es := [_]) Tryd.underlying47 ty49 ⟨rfl, (.t rfl), rfl, rfl, trivial⟩ rfl (by decide) rfl rfl ?_
    refine W.q (Ev.build ty49 st49 rfl (fun hg => ⟨_, _, _, rfl, (.t rfl), rfl, rfl, rfl, _, _, _, rfl, (.t rfl), rfl, rfl, rfl, rfl⟩)) rfl ?_
    (refine W.stb 0 (.t rfl) (.t rfl) rfl ty49 rfl rfl rfl ?_)
    refine W.nil ?_
    refine W.blk_normal ?_
    refine W.then ?_
    refine W.reach (D := []) (k + 1) ⟨rfl, rfl, rfl, trivial⟩ (by rw [hsn, Ex.avx_one]; exact .refl _) ⟨by show k + 1 ≤ _; omega, by show _ - (k + 1) < _; omega⟩
  · subst hr0
    rw [hend, List.drop_length, List.take_length]
    refine W.seq ?_
    refine W.seq ?_
    refine W.region ?_
    refine W.q (Ev.move (.t rfl)) rfl ?_
    refine W.q (Ev.nilc (.t rfl)) rfl ?_
    (refine W.q (Ev.fab (.t rfl) fa85_0) rfl ?_)
    (refine W.q (Ev.ldb1 2 (.t rfl) rfl ag9 rfl) rfl ?_)
    refine W.q (Ev.nes (.t rfl) .k) rfl ?_
    refine W.nil ?_
    refine W.then ?_
    refine W.is (t := 54) (g := true) (av' := .lit (.bool false)) rfl (congrArg (fun b => AV.lit (.bool b)) (by rfl)) ?_
    refine W.condF (.t rfl) ?_
    refine W.exit ?_
    refine W.then_exit ?_
    refine W.then_exit ?_
    refine W.blk_hit ?_
    refine W.then ?_
    refine W.seq ?_
    refine W.region ?_
    (refine W.q (Ev.ldbn 0 (.t rfl) rfl ag49 ty49 rfl) rfl ?_)
    (refine W.stb 1 (.t rfl) (.t rfl) rfl ty49 rfl rfl rfl ?_)
    refine W.nil ?_
    refine W.then ?_
    refine W.ret ?_
    refine W.retn (M' := [_]) (D := _) (rs := [.cell 2 49]) (avs := [_]) Tryd.results67 ⟨⟨_, _, _, rfl, by (exact List.mem_cons_of_mem _ List.mem_cons_self), rfl, by funext w; exact ag49.run w, by funext w; exact ty49.size w⟩, trivial⟩ rfl (List.perm_middle (l₁ := [_, _])) ?_
    exact ⟨by rw [It.ev]; rfl, rfl⟩
  · subst hr0
    rw [hend, List.drop_length, List.take_length]
    have hc3 := hr c t rfl
    refine W.seq ?_
    refine W.seq ?_
    refine W.region ?_
    refine W.q (Ev.move (.t rfl)) rfl ?_
    refine W.q (Ev.nilc (.t rfl)) rfl ?_
    (refine W.q (Ev.fab (.t rfl) fa85_0) rfl ?_)
    (refine W.q (Ev.ldb1 2 (.t rfl) rfl ag9 rfl) rfl ?_)
    refine W.q (Ev.nes (.t rfl) .k) rfl ?_
    refine W.nil ?_
    refine W.then ?_
    refine W.is (t := 54) (g := true) (av' := .lit (.bool true)) rfl (congrArg (fun b => AV.lit (.bool b)) (by rfl)) ?_
    refine W.condT (.t rfl) ?_
    refine W.skip ?_
    refine W.then ?_
    refine W.block ?_
    refine W.seq ?_
    refine W.region ?_
    refine W.q (Ev.move (.t rfl)) rfl ?_
    refine W.q (Ev.nilc (.t rfl)) rfl ?_
    (refine W.q (Ev.fab (.t rfl) fa85_0) rfl ?_)
    (refine W.q (Ev.ldb1 2 (.t rfl) rfl ag9 rfl) rfl ?_)
    refine W.q (Ev.ats (b := c) (.t rfl) .k Tryd.underlying9 (fun _ => ⟨by decide, rfl⟩)) rfl ?_
    refine W.callp (WIndex.c_IndexByte [42, 43, 63] c) ⟨.k, (.t rfl), trivial⟩ rfl ?_
    refine W.q (Ev.assign (.t rfl)) rfl ?_
    refine W.nil ?_
    refine W.then ?_
    refine W.seq ?_
    refine W.seq ?_
    refine W.region ?_
    refine W.q (Ev.move (.t rfl)) rfl ?_
    refine W.q (Ev.lti (.t rfl) .k) rfl ?_
    refine W.nil ?_
    refine W.then ?_
    refine W.is (t := 62) (g := true) (av' := .lit (.bool true)) rfl (congrArg (fun b => AV.lit (.bool b)) (by rw [It.idx_no c hc3]; rfl)) ?_
    refine W.condT (.t rfl) ?_
    refine W.exit ?_
    refine W.then_exit ?_
    refine W.blk_miss rfl ?_
    refine W.then_exit ?_
    refine W.blk_hit ?_
    refine W.then ?_
    refine W.seq ?_
    refine W.region ?_
    (refine W.q (Ev.ldbn 0 (.t rfl) rfl ag49 ty49 rfl) rfl ?_)
    (refine W.stb 1 (.t rfl) (.t rfl) rfl ty49 rfl rfl rfl ?_)
    refine W.nil ?_
    refine W.then ?_
    refine W.ret ?_
    refine W.retn (M' := [_]) (D := _) (rs := [.cell 2 49]) (avs := [_]) Tryd.results67 ⟨⟨_, _, _, rfl, by (exact List.mem_cons_of_mem _ List.mem_cons_self), rfl, by funext w; exact ag49.run w, by funext w; exact ty49.size w⟩, trivial⟩ rfl (List.perm_middle (l₁ := [_, _])) ?_
    exact ⟨by rw [It.ev]; rfl, rfl⟩

theorem c_seq (b : Nat) (s : List It) (r : List UInt8) (hs : It.oks s) (hz : Ex.szs (It.sev s) ≤ 16777216) (hI : ∀ i ∈ s, ∀ r, It.endI r → FnC Tryd.prog 67 [.lit (.pointer (some ⟨b, 0, none⟩))] [.box b 85 [.str (It.tx (i) ++ r), .bool false]] (fun x M => x = (It.ev (i)).avx ∧ M = [.box b 85 [.str (r), .bool false]])) (hr : It.endS r) : FnC Tryd.prog 50 [.lit (.pointer (some ⟨b, 0, none⟩))] [.box b 85 [.str (It.stx (s) ++ r), .bool false]] (fun x M => x = (It.sq (s)).avx ∧ M = [.box b 85 [.str (r), .bool false]]) :=  by
  refine FnC.mk Tryd.func50 (by kernel_rfl) rfl Tryd.ntmps50 rfl (fun w0 F => ?_)
  have hsm : (It.sev s).length = s.length := by rw [It.sev_map, List.length_map]
  have hsz := Ex.szs_len (It.sev s)
  refine W.seq ?_
  refine W.region ?_
  refine W.alloc ty49 rfl rfl ?_
  intro b2
  refine W.nil ?_
  refine W.then ?_
  refine W.seq ?_
  refine W.region ?_
  refine W.q (Ev.assign .k) rfl ?_
  refine W.nil ?_
  refine W.then ?_
  refine W.seq ?_
  refine W.block ?_
  refine W.own_nil 49 3 ?_
  refine W.loop (D := []) (ι := Nat × Value) (fun z => [(0, true, .lit (.pointer (some ⟨b, 0, none⟩))), (2, true, .lit (.pointer (some ⟨b2, 0, none⟩))), (3, true, .lit z.2)]) (fun z => [.box b 85 [.str (It.stx (s.drop z.1) ++ r), .bool false], .arr z.2 49 3 (((It.sev s).take z.1).map Ex.av), .box b2 49 [.int 0, .int 0, .lit (.slice none 0 0)]]) (fun z => z.1 ≤ s.length) (fun z => s.length - z.1) (0, .slice none 0 0) ⟨rfl, rfl, rfl, trivial⟩ (List.perm_middle (l₁ := [_, _])) (Nat.zero_le _) ?_
  rintro ⟨k, v⟩ hk
  dsimp only at hk ⊢
  rcases (show k < s.length ∨ (k = s.length ∧ r = []) ∨ (k = s.length ∧ ∃ c t, r = c :: t) from by
    rcases Nat.lt_or_ge k s.length with h | h
    · exact .inl h
    · cases r with
      | nil => exact .inr (.inl ⟨by omega, rfl⟩)
      | cons c t => exact .inr (.inr ⟨by omega, c, t, rfl⟩)) with hlt | ⟨hend, hr0⟩ | ⟨hend, c, t, hr0⟩
  · have him := getD_memG (It.ch 0 []) s k hlt
    have hok := (It.oks_iff s).1 hs
    have hdr := It.drop_cons s k hlt
    have hsn : (It.sev s).take (k + 1) = (It.sev s).take k ++ [(s.getD k (It.ch 0 [])).ev] := by rw [It.sev_map, ← List.map_take, take_getDG (It.ch 0 []) s k hlt, List.map_append, ← List.map_take]; rfl
    have hei : It.endI (It.stx (s.drop (k + 1)) ++ r) := It.endI_stx _ ((It.oks_iff _).2 fun j hj => hok j (List.mem_of_mem_drop hj)) hr
    generalize s.getD k (It.ch 0 []) = i at him hdr hsn
    have cI := hI i him _ hei
    obtain ⟨c0, t0, ht0, hc0⟩ := It.tx_head i (hok i him)
    rw [hdr, List.append_assoc]
    rw [ht0, List.cons_append] at cI ⊢
    have hcn : c0 ≠ 124 ∧ c0 ≠ 41 := by rcases hc0 with h | rfl; constructor <;> (rintro rfl; simp at h); decide
    have h124 := It.u8ne (n := 124) (by decide) hcn.1
    have h41 := It.u8ne (n := 41) (by decide) hcn.2
    refine W.seq ?_
    refine W.seq ?_
    refine W.region ?_
    refine W.q (Ev.move (.t rfl)) rfl ?_
    refine W.q (Ev.nilc (.t rfl)) rfl ?_
    (refine W.q (Ev.fab (.t rfl) fa85_1) rfl ?_)
    (refine W.q (Ev.ldb1 0 (.t rfl) rfl ag4 rfl) rfl ?_)
    refine W.q (Ev.not (.t rfl)) rfl ?_
    refine W.q (Ev.move (.t rfl)) rfl ?_
    refine W.qgT rfl rfl (Ev.move (.t rfl)) rfl ?_
    refine W.qgT rfl rfl (Ev.nilc (.c rfl)) rfl ?_
    (refine W.qgT rfl rfl (Ev.fab (.c rfl) fa85_0) rfl ?_)
    (refine W.qgT rfl rfl (Ev.ldb1 0 (.c rfl) rfl ag9 rfl) rfl ?_)
    refine W.qgT rfl rfl (Ev.nes (.c rfl) .k) rfl ?_
    refine W.q (Ev.and (.t rfl) ⟨_, _, rfl, rfl, by ((simp; done))⟩) rfl ?_
    refine W.q (Ev.move (.t rfl)) rfl ?_
    refine W.qgT rfl rfl (Ev.move (.t rfl)) rfl ?_
    refine W.qgT rfl rfl (Ev.nilc (.c rfl)) rfl ?_
    (refine W.qgT rfl rfl (Ev.fab (.c rfl) fa85_0) rfl ?_)
    (refine W.qgT rfl rfl (Ev.ldb1 0 (.c rfl) rfl ag9 rfl) rfl ?_)
    refine W.qgT rfl rfl (Ev.ats (b := c0) (.c rfl) .k Tryd.underlying9 (fun _ => ⟨by decide, rfl⟩)) rfl ?_
    refine W.qgT rfl rfl (Ev.nei (.c rfl) .k) rfl ?_
    refine W.q (Ev.and (.t rfl) ⟨_, _, rfl, rfl, by ((simp; done))⟩) rfl ?_
    refine W.q (Ev.move (.t rfl)) rfl ?_
    refine W.qgT rfl rfl (Ev.move (.t rfl)) rfl ?_
    refine W.qgT rfl rfl (Ev.nilc (.c rfl)) rfl ?_
    (refine W.qgT rfl rfl (Ev.fab (.c rfl) fa85_0) rfl ?_)
    (refine W.qgT rfl rfl (Ev.ldb1 0 (.c rfl) rfl ag9 rfl) rfl ?_)
    refine W.qgT rfl rfl (Ev.ats (b := c0) (.c rfl) .k Tryd.underlying9 (fun _ => ⟨by decide, rfl⟩)) rfl ?_
    refine W.qgT rfl rfl (Ev.nei (.c rfl) .k) rfl ?_
    refine W.q (Ev.and (.t rfl) ⟨_, _, rfl, rfl, by ((simp; done))⟩) rfl ?_
    refine W.nil ?_
    refine W.then ?_
    refine W.is (t := 31) (g := true) (av' := .lit (.bool true)) rfl (congrArg (fun b => AV.lit (.bool b)) (by simp; omega)) ?_
    refine W.condT (.t rfl) ?_
    refine W.skip ?_
    refine W.then ?_
    refine W.block ?_
    refine W.region ?_
    refine W.q (Ev.move (.t rfl)) rfl ?_
    refine W.q (Ev.move (.t rfl)) rfl ?_
    refine W.call (cI) ⟨(.t rfl), trivial⟩ (.refl _) rfl ?_
    rintro _ _ ⟨rfl, rfl⟩
    refine W.bs (es := [_]) Tryd.underlying47 ty49 ⟨rfl, (.t rfl), rfl, rfl, trivial⟩ rfl (by decide) rfl rfl ?_
    (refine W.app 1 (.t rfl) rfl (.sl (.t rfl) (by simp [AV.okc, shV])) Tryd.underlying47 ni47 ty49 rfl rfl (by rw [List.length_map, List.length_take]; simp only [List.length_cons, List.length_nil]; omega) rfl ?_)
    intro v36
    refine W.q (Ev.assign (.t rfl)) rfl ?_
    refine W.nil ?_
    refine W.blk_normal ?_
    refine W.then ?_
    refine W.reach (D := []) (k + 1, v36) ⟨rfl, rfl, rfl, trivial⟩ (by rw [hsn, Ex.map_snoc]; exact .refl _) ⟨by show k + 1 ≤ _; omega, by show _ - (k + 1) < _; omega⟩
  · subst hr0
    rw [hend, List.drop_length, show (It.stx [] ++ [] : List UInt8) = [] from rfl, List.take_of_length_le (show (It.sev s).length ≤ s.length from by omega)]
    refine W.seq ?_
    refine W.seq ?_
    refine W.region ?_
    refine W.q (Ev.move (.t rfl)) rfl ?_
    refine W.q (Ev.nilc (.t rfl)) rfl ?_
    (refine W.q (Ev.fab (.t rfl) fa85_1) rfl ?_)
    (refine W.q (Ev.ldb1 0 (.t rfl) rfl ag4 rfl) rfl ?_)
    refine W.q (Ev.not (.t rfl)) rfl ?_
    refine W.q (Ev.move (.t rfl)) rfl ?_
    refine W.qgT rfl rfl (Ev.move (.t rfl)) rfl ?_
    refine W.qgT rfl rfl (Ev.nilc (.c rfl)) rfl ?_
    (refine W.qgT rfl rfl (Ev.fab (.c rfl) fa85_0) rfl ?_)
    (refine W.qgT rfl rfl (Ev.ldb1 0 (.c rfl) rfl ag9 rfl) rfl ?_)
    refine W.qgT rfl rfl (Ev.nes (.c rfl) .k) rfl ?_
    refine W.q (Ev.and (.t rfl) ⟨_, _, rfl, rfl, by ((simp; done))⟩) rfl ?_
    refine W.q (Ev.move (.t rfl)) rfl ?_
    refine W.is (t := 16) (g := true) (av' := .bool false) rfl rfl ?_
    refine W.gnob rfl rfl (by simp) rfl ?_
    refine W.gnob rfl rfl (by simp) rfl ?_
    refine W.gnob rfl rfl (by simp) rfl ?_
    refine W.gnob rfl rfl (by simp) rfl ?_
    refine W.gnob rfl rfl (by simp) rfl ?_
    refine W.gnob rfl rfl (by simp) rfl ?_
    refine W.q (Ev.and (.t rfl) ⟨_, _, rfl, rfl, by ((simp; done))⟩) rfl ?_
    refine W.q (Ev.move (.t rfl)) rfl ?_
    refine W.is (t := 24) (g := true) (av' := .bool false) rfl rfl ?_
    refine W.gnob rfl rfl (by simp) rfl ?_
    refine W.gnob rfl rfl (by simp) rfl ?_
    refine W.gnob rfl rfl (by simp) rfl ?_
    refine W.gnob rfl rfl (by simp) rfl ?_
    refine W.gnob rfl rfl (by simp) rfl ?_
    refine W.gnob rfl rfl (by simp) rfl ?_
    refine W.q (Ev.and (.t rfl) ⟨_, _, rfl, rfl, by ((simp; done))⟩) rfl ?_
    refine W.nil ?_
    refine W.then ?_
    refine W.is (t := 31) (g := true) (av' := .lit (.bool false)) rfl (congrArg (fun b => AV.lit (.bool b)) (by rfl)) ?_
    refine W.condF (.t rfl) ?_
    refine W.exit ?_
    refine W.then_exit ?_
    refine W.then_exit ?_
    refine W.blk_hit ?_
    refine W.then ?_
    refine W.seq ?_
    refine W.region ?_
    refine W.q (Ev.move (.t rfl)) rfl ?_
    refine W.freezeA (M1 := [_, _]) (M2 := [_, _]) (D := []) (v := v) (L' := [(37, true, .sl 3 ((It.sev s).map Ex.av))]) (List.perm_middle (l₁ := [_])) ⟨⟨_, rfl, .one .hit⟩, trivial⟩ (FrzMs.refl _) ?_
    refine W.callp (WParse1.c_together 2 (It.sev s) hz) ⟨.k, (.t rfl), trivial⟩ rfl ?_
    (refine W.stb 1 (.t rfl) (.t rfl) rfl ty49 rfl rfl rfl ?_)
    refine W.nil ?_
    refine W.then ?_
    refine W.ret ?_
    refine W.retn (M' := [_]) (D := _) (rs := [.cell 2 49]) (avs := [_]) Tryd.results50 ⟨⟨_, _, _, rfl, by (exact List.mem_cons_of_mem _ List.mem_cons_self), rfl, by funext w; exact ag49.run w, by funext w; exact ty49.size w⟩, trivial⟩ rfl (.refl _) ?_
    exact ⟨rfl, rfl⟩
  · subst hr0
    rw [hend, List.drop_length, show (It.stx [] ++ c :: t : List UInt8) = c :: t from rfl, List.take_of_length_le (show (It.sev s).length ≤ s.length from by omega)]
    have hcc : ((c.toNat : Nat) : Int) = 124 ∨ ((c.toNat : Nat) : Int) = 41 := by
      rcases hr with h | ⟨t2, h | h⟩
      · cases h
      · rw [(List.cons.inj h).1]; exact .inr rfl
      · rw [(List.cons.inj h).1]; exact .inl rfl
    refine W.seq ?_
    refine W.seq ?_
    refine W.region ?_
    refine W.q (Ev.move (.t rfl)) rfl ?_
    refine W.q (Ev.nilc (.t rfl)) rfl ?_
    (refine W.q (Ev.fab (.t rfl) fa85_1) rfl ?_)
    (refine W.q (Ev.ldb1 0 (.t rfl) rfl ag4 rfl) rfl ?_)
    refine W.q (Ev.not (.t rfl)) rfl ?_
    refine W.q (Ev.move (.t rfl)) rfl ?_
    refine W.qgT rfl rfl (Ev.move (.t rfl)) rfl ?_
    refine W.qgT rfl rfl (Ev.nilc (.c rfl)) rfl ?_
    (refine W.qgT rfl rfl (Ev.fab (.c rfl) fa85_0) rfl ?_)
    (refine W.qgT rfl rfl (Ev.ldb1 0 (.c rfl) rfl ag9 rfl) rfl ?_)
    refine W.qgT rfl rfl (Ev.nes (.c rfl) .k) rfl ?_
    refine W.q (Ev.and (.t rfl) ⟨_, _, rfl, rfl, by ((simp; done))⟩) rfl ?_
    refine W.q (Ev.move (.t rfl)) rfl ?_
    refine W.qgT rfl rfl (Ev.move (.t rfl)) rfl ?_
    refine W.qgT rfl rfl (Ev.nilc (.c rfl)) rfl ?_
    (refine W.qgT rfl rfl (Ev.fab (.c rfl) fa85_0) rfl ?_)
    (refine W.qgT rfl rfl (Ev.ldb1 0 (.c rfl) rfl ag9 rfl) rfl ?_)
    refine W.qgT rfl rfl (Ev.ats (b := c) (.c rfl) .k Tryd.underlying9 (fun _ => ⟨by decide, rfl⟩)) rfl ?_
    refine W.qgT rfl rfl (Ev.nei (.c rfl) .k) rfl ?_
    refine W.q (Ev.and (.t rfl) ⟨_, _, rfl, rfl, by ((simp; done))⟩) rfl ?_
    refine W.q (Ev.move (.t rfl)) rfl ?_
    refine W.qgT rfl rfl (Ev.move (.t rfl)) rfl ?_
    refine W.qgT rfl rfl (Ev.nilc (.c rfl)) rfl ?_
    (refine W.qgT rfl rfl (Ev.fab (.c rfl) fa85_0) rfl ?_)
    (refine W.qgT rfl rfl (Ev.ldb1 0 (.c rfl) rfl ag9 rfl) rfl ?_)
    refine W.qgT rfl rfl (Ev.ats (b := c) (.c rfl) .k Tryd.underlying9 (fun _ => ⟨by decide, rfl⟩)) rfl ?_
    refine W.qgT rfl rfl (Ev.nei (.c rfl) .k) rfl ?_
    refine W.q (Ev.and (.t rfl) ⟨_, _, rfl, rfl, by ((simp; done))⟩) rfl ?_
    refine W.nil ?_
    refine W.then ?_
    refine W.is (t := 31) (g := true) (av' := .lit (.bool false)) rfl (congrArg (fun b => AV.lit (.bool b)) (by rcases hcc with h | h <;> rw [h] <;> simp)) ?_
    refine W.condF (.t rfl) ?_
    refine W.exit ?_
    refine W.then_exit ?_
    refine W.then_exit ?_
    refine W.blk_hit ?_
    refine W.then ?_
    refine W.seq ?_
    refine W.region ?_
    refine W.q (Ev.move (.t rfl)) rfl ?_
    refine W.freezeA (M1 := [_, _]) (M2 := [_, _]) (D := []) (v := v) (L' := [(37, true, .sl 3 ((It.sev s).map Ex.av))]) (List.perm_middle (l₁ := [_])) ⟨⟨_, rfl, .one .hit⟩, trivial⟩ (FrzMs.refl _) ?_
    refine W.callp (WParse1.c_together 2 (It.sev s) hz) ⟨.k, (.t rfl), trivial⟩ rfl ?_
    (refine W.stb 1 (.t rfl) (.t rfl) rfl ty49 rfl rfl rfl ?_)
    refine W.nil ?_
    refine W.then ?_
    refine W.ret ?_
    refine W.retn (M' := [_]) (D := _) (rs := [.cell 2 49]) (avs := [_]) Tryd.results50 ⟨⟨_, _, _, rfl, by (exact List.mem_cons_of_mem _ List.mem_cons_self), rfl, by funext w; exact ag49.run w, by funext w; exact ty49.size w⟩, trivial⟩ rfl (.refl _) ?_
    exact ⟨rfl, rfl⟩

theorem c_alt (b : Nat) (s : List It) (a : List (List It)) (r : List UInt8) (hz : Ex.szs (It.sq s :: It.aev a) ≤ 16777216) (hS : ∀ t, (t = s ∨ t ∈ a) → ∀ r, It.endS r → FnC Tryd.prog 50 [.lit (.pointer (some ⟨b, 0, none⟩))] [.box b 85 [.str (It.stx (t) ++ r), .bool false]] (fun x M => x = (It.sq (t)).avx ∧ M = [.box b 85 [.str (r), .bool false]])) (hr : It.endA r) : FnC Tryd.prog 36 [.lit (.pointer (some ⟨b, 0, none⟩))] [.box b 85 [.str (It.stx (s) ++ (It.atl (a) ++ r)), .bool false]] (fun x M => x = (It.al (s) (a)).avx ∧ M = [.box b 85 [.str (r), .bool false]]) :=  by
  refine FnC.mk Tryd.func36 (by kernel_rfl) rfl Tryd.ntmps36 rfl (fun w0 F => ?_)
  have ham : (It.aev a).length = a.length := by rw [It.aev_map, List.length_map]
  have hsz := Ex.szs_len (It.sq s :: It.aev a)
  rw [List.length_cons] at hsz
  refine W.seq ?_
  refine W.region ?_
  refine W.alloc ty49 rfl rfl ?_
  intro b2
  refine W.nil ?_
  refine W.then ?_
  refine W.seq ?_
  refine W.region ?_
  refine W.q (Ev.move (.t rfl)) rfl ?_
  refine W.call (hS s (.inl rfl) _ (It.endS_atl a hr)) ⟨(.t rfl), trivial⟩ ((List.Perm.swap _ _ [])) rfl ?_
  rintro _ _ ⟨rfl, rfl⟩
  refine W.bso (es := [_]) Tryd.underlying47 ty49 ⟨rfl, (.t rfl), rfl, rfl, trivial⟩ rfl (by decide) rfl rfl ?_
  intro v6
  refine W.q (Ev.assign (.t rfl)) rfl ?_
  refine W.nil ?_
  refine W.then ?_
  refine W.seq ?_
  refine W.block ?_
  refine W.loop (D := []) (ι := Nat × Value) (fun z => [(0, true, .lit (.pointer (some ⟨b, 0, none⟩))), (2, true, .lit (.pointer (some ⟨b2, 0, none⟩))), (3, true, .lit z.2)]) (fun z => [.box b 85 [.str (It.atl (a.drop z.1) ++ r), .bool false], .arr z.2 49 3 (([It.sq s] ++ (It.aev a).take z.1).map Ex.av), .box b2 49 [.int 0, .int 0, .lit (.slice none 0 0)]]) (fun z => z.1 ≤ a.length) (fun z => a.length - z.1) (0, v6) ⟨rfl, rfl, rfl, trivial⟩ (by have e : ([It.sq s] ++ (It.aev a).take 0).map Ex.av = [(It.sq s).avx] := (by rw [List.take_zero]; show [(It.sq s).av] = _; rw [Ex.av_eq]); dsimp only; rw [e]; exact List.Perm.swap _ _ _) (Nat.zero_le _) ?_
  rintro ⟨k, v⟩ hk
  dsimp only at hk ⊢
  rcases (show k < a.length ∨ k = a.length from by omega) with hlt | hend
  · have htm := getD_memG [] a k hlt
    have hdr := It.atl_drop a k hlt
    have hsn : (It.aev a).take (k + 1) = (It.aev a).take k ++ [It.sq (a.getD k [])] := by rw [It.aev_map, ← List.map_take, take_getDG [] a k hlt, List.map_append, ← List.map_take]; rfl
    generalize a.getD k [] = u at htm hdr hsn
    rw [hdr, List.cons_append, List.append_assoc]
    refine W.seq ?_
    refine W.seq ?_
    refine W.region ?_
    refine W.q (Ev.move (.t rfl)) rfl ?_
    refine W.call (WParse1.c_takesT b 124 _) ⟨(.t rfl), .k, trivial⟩ (.refl _) rfl ?_
    rintro _ _ ⟨rfl, rfl⟩
    refine W.nil ?_
    refine W.then ?_
    refine W.is (t := 8) (g := true) (av' := .lit (.bool true)) rfl (congrArg (fun b => AV.lit (.bool b)) (by rfl)) ?_
    refine W.condT (.t rfl) ?_
    refine W.skip ?_
    refine W.then ?_
    refine W.block ?_
    refine W.region ?_
    refine W.q (Ev.move (.t rfl)) rfl ?_
    refine W.q (Ev.move (.t rfl)) rfl ?_
    refine W.call (hS u (.inr htm) _ (It.endS_atl _ hr)) ⟨(.t rfl), trivial⟩ (.refl _) rfl ?_
    rintro _ _ ⟨rfl, rfl⟩
    refine W.bs (es := [_]) Tryd.underlying47 ty49 ⟨rfl, (.t rfl), rfl, rfl, trivial⟩ rfl (by decide) rfl rfl ?_
    (refine W.app 1 (.t rfl) rfl (.sl (.t rfl) (by simp [AV.okc, shV])) Tryd.underlying47 ni47 ty49 rfl rfl (by rw [List.length_map, List.length_append, List.length_take]; simp only [List.length_cons, List.length_nil]; omega) rfl ?_)
    intro v13
    refine W.q (Ev.assign (.t rfl)) rfl ?_
    refine W.nil ?_
    refine W.blk_normal ?_
    refine W.then ?_
    refine W.reach (D := []) (k + 1, v13) ⟨rfl, rfl, rfl, trivial⟩ (by rw [hsn, ← List.append_assoc, Ex.map_snoc]; exact .refl _) ⟨by show k + 1 ≤ _; omega, by show _ - (k + 1) < _; omega⟩
  · rw [hend, List.drop_length, show (It.atl [] ++ r : List UInt8) = r from rfl, List.take_of_length_le (show (It.aev a).length ≤ a.length from by omega), show [It.sq s] ++ It.aev a = It.sq s :: It.aev a from rfl]
    refine W.seq ?_
    refine W.seq ?_
    refine W.region ?_
    refine W.q (Ev.move (.t rfl)) rfl ?_
    refine W.call (WParse1.c_takesF b 124 r (fun t e => by rcases hr with h | ⟨t2, h⟩ <;> (rw [h] at e; cases e))) ⟨(.t rfl), .k, trivial⟩ (.refl _) rfl ?_
    rintro _ _ ⟨rfl, rfl⟩
    refine W.nil ?_
    refine W.then ?_
    refine W.is (t := 8) (g := true) (av' := .lit (.bool false)) rfl (congrArg (fun b => AV.lit (.bool b)) (by rfl)) ?_
    refine W.condF (.t rfl) ?_
    refine W.exit ?_
    refine W.then_exit ?_
    refine W.then_exit ?_
    refine W.blk_hit ?_
    refine W.then ?_
    refine W.seq ?_
    refine W.region ?_
    refine W.q (Ev.move (.t rfl)) rfl ?_
    refine W.freezeA (M1 := [_, _]) (M2 := [_, _]) (D := []) (v := v) (L' := [(14, true, .sl 3 ((It.sq s :: It.aev a).map Ex.av))]) (List.perm_middle (l₁ := [_])) ⟨⟨_, rfl, .one .hit⟩, trivial⟩ (FrzMs.refl _) ?_
    refine W.callp (WParse1.c_together 3 (It.sq s :: It.aev a) hz) ⟨.k, (.t rfl), trivial⟩ rfl ?_
    (refine W.stb 1 (.t rfl) (.t rfl) rfl ty49 rfl rfl rfl ?_)
    refine W.nil ?_
    refine W.then ?_
    refine W.ret ?_
    refine W.retn (M' := [.box b 85 [.str (r), .bool false]]) (D := _) (rs := [.cell 2 49]) (avs := [_]) Tryd.results36 ⟨⟨_, _, _, rfl, by (exact List.mem_cons_of_mem _ List.mem_cons_self), rfl, by funext w; exact ag49.run w, by funext w; exact ty49.size w⟩, trivial⟩ rfl (.refl _) ?_
    exact ⟨rfl, rfl⟩

theorem c_item (b : Nat) : ∀ i : It, It.ok i → (It.tx i).length ≤ 1048576 → ∀ r, It.endI r → FnC Tryd.prog 67 [.lit (.pointer (some ⟨b, 0, none⟩))] [.box b 85 [.str (It.tx (i) ++ r), .bool false]] (fun x M => x = (It.ev (i)).avx ∧ M = [.box b 85 [.str (r), .bool false]]) := by
  suffices H : ∀ n, ∀ i : It, It.sz i ≤ n → It.ok i → (It.tx i).length ≤ 1048576 → ∀ r, It.endI r → FnC Tryd.prog 67 [.lit (.pointer (some ⟨b, 0, none⟩))] [.box b 85 [.str (It.tx (i) ++ r), .bool false]] (fun x M => x = (It.ev (i)).avx ∧ M = [.box b 85 [.str (r), .bool false]]) from fun i => H _ i (Nat.le_refl _)
  intro n
  induction n with
  | zero => intro i hi; cases i <;> simp only [It.sz] at hi <;> omega
  | succ n ih =>
    intro i hi hok hz r hr
    cases i with
    | ch m sf => simp only [It.ok] at hok; exact c_item_ch b m sf r hok.1 hok.2 hr
    | gr s a sf =>
      simp only [It.sz] at hi
      simp only [It.ok] at hok
      have hal := It.al_big s a
      have hle : (It.stx s ++ It.atl a).length ≤ 1048576 := by rw [It.tx] at hz; simp only [List.length_cons, List.length_append] at hz ⊢; omega
      refine c_item_gr b s a sf r (fun r hr => c_alt b s a r (by omega) (fun t ht r hr => ?_) hr) hok.2 hr
      have hto : It.oks t := ht.elim (fun e => e ▸ hok.1.1) fun hm => (It.oka_iff a).1 hok.1.2 t hm
      have htz : It.szs t ≤ n := ht.elim (fun e => by subst e; omega) fun hm => by have := It.szs_mem hm; omega
      have htl := It.al_mem ht
      have hts := It.sev_big t
      exact c_seq b t r hto (by omega) (fun i hi' r hr => ih i (by have := It.sz_mem hi'; omega) ((It.oks_iff t).1 hto i hi') (by have := It.stx_mem hi'; omega) r hr) hr
theorem c_top (b : Nat) (s : List It) (a : List (List It)) (hs : It.oks s) (ha : It.oka a) (hz : (It.stx s ++ It.atl a).length ≤ 1048576) : FnC Tryd.prog 36 [.lit (.pointer (some ⟨b, 0, none⟩))] [.box b 85 [.str (It.stx (s) ++ (It.atl (a) ++ [])), .bool false]] (fun x M => x = (It.al (s) (a)).avx ∧ M = [.box b 85 [.str ([]), .bool false]]) := by
  have hal := It.al_big s a
  refine c_alt b s a [] (by omega) (fun t ht r hr => ?_) (.inl rfl)
  have hto : It.oks t := ht.elim (fun e => e ▸ hs) fun hm => (It.oka_iff a).1 ha t hm
  have htl := It.al_mem ht
  have hts := It.sev_big t
  exact c_seq b t r hto (by omega) (fun i hi' r hr => c_item b i ((It.oks_iff t).1 hto i hi') (by have := It.stx_mem hi'; omega) r hr) hr

end WParse2

end Go.Proofs.YtacaemfkdieocaaDoor
end

section
set_option linter.unusedVariables false
set_option linter.unusedSimpArgs false
set_option maxRecDepth 100000
namespace Go.Proofs.YtacaemfkdieocaaDoor
open Go.Vl

namespace WFault
theorem ty3 : Ty Tryd.prog 3 1 8 (.int .i64 0) := Ty.of (by kernel_rfl)
theorem ty47 : Ty Tryd.prog 47 1 24 (.slice none 0 0) := Ty.of (by kernel_rfl)
theorem ty49 : Ty Tryd.prog 49 3 40 (.agg #[.int .i64 0, .int .i64 0, .slice none 0 0]) := Ty.of (by kernel_rfl)
theorem ag3 : IsAgg Tryd.prog 3 false := ⟨_, Tryd.underlying3, rfl⟩
theorem ag47 : IsAgg Tryd.prog 47 false := ⟨_, Tryd.underlying47, rfl⟩
theorem ag49 : IsAgg Tryd.prog 49 true := ⟨_, Tryd.underlying49, rfl⟩
theorem fa49_0 : FieldAt Tryd.prog 49 0 0 1 false := ⟨_, _, Tryd.underlying49, rfl, rfl, ty3.size, ag3, by decide⟩
theorem fa49_1 : FieldAt Tryd.prog 49 1 1 1 false := ⟨_, _, Tryd.underlying49, rfl, rfl, ty3.size, ag3, by decide⟩
theorem fa49_2 : FieldAt Tryd.prog 49 2 2 1 false := ⟨_, _, Tryd.underlying49, rfl, rfl, ty47.size, ag47, by decide⟩
theorem c_IndexFuncX (l : List Ex) (g : Nat) (caps : List Value) (M0 : List ME) (p : Ex → Bool) (hg : ∀ d ∈ l, FnC Tryd.prog g ([Ex.avx d] ++ caps.map .lit) M0 (fun r M => r = .bool (p d) ∧ M = M0)) (hn : l.length ≤ 1099511627776) : FnC Tryd.prog 68 [.sl 3 (l.map Ex.av), .lit (.func (.func g) #[] caps.toArray)] M0 (fun r M => r = .int (idxI p l) ∧ M = M0) :=  by
  refine FnC.mk Tryd.func68 (by kernel_rfl) rfl Tryd.ntmps68 rfl (fun w0 F => ?_)
  have hnl : (l.map Ex.av).length = l.length := List.length_map ..
  refine W.seq ?_
  refine W.region ?_
  refine W.q (Ev.assign .k) rfl ?_
  refine W.nil ?_
  refine W.then ?_
  refine W.seq ?_
  refine W.seq ?_
  refine W.region ?_
  refine W.q (Ev.move (.t rfl)) rfl ?_
  (refine W.q (Ev.lensl (.t rfl) Tryd.underlying47) rfl ?_)
  refine W.q (Ev.move .k) rfl ?_
  refine W.nil ?_
  refine W.then ?_
  refine W.block ?_
  refine W.loop (D := []) (ι := Nat) (fun i => [(8, true, .int (i : Int)), (7, true, .int ((l.map Ex.av).length : Int)), (0, true, .sl 3 (l.map Ex.av)), (1, true, .lit (.func (.func g) #[] caps.toArray))]) (fun _ => M0) (fun i => i ≤ l.length ∧ ∀ d ∈ l.take i, p d = false) (fun i => l.length - i) 0 ⟨rfl, rfl, rfl, rfl, trivial⟩ (List.Perm.of_eq (List.append_nil _).symm) ⟨Nat.zero_le _, by simp⟩ ?_
  rintro i ⟨hi1, hi2⟩
  dsimp only at hi1 hi2 ⊢
  rcases (show i < l.length ∨ i = l.length from by omega) with hlt | hend
  · have hga := Ex.at_av l i hlt
    refine W.seq ?_
    refine W.region ?_
    refine W.q (Ev.lti (.t rfl) (.t rfl)) rfl ?_
    refine W.nil ?_
    refine W.then ?_
    refine W.seq ?_
    refine W.is (t := 9) (g := true) (av' := .lit (.bool true)) rfl (congrArg (fun b => AV.lit (.bool b)) (by simp; omega)) ?_
    refine W.condT (.t rfl) ?_
    refine W.skip ?_
    refine W.then ?_
    refine W.seq ?_
    refine W.block ?_
    refine W.seq ?_
    refine W.region ?_
    refine W.q (Ev.move (.t rfl)) rfl ?_
    refine W.q (Ev.assign (.t rfl)) rfl ?_
    refine W.nil ?_
    refine W.then ?_
    refine W.seq ?_
    refine W.region ?_
    refine W.q (Ev.move (.t rfl)) rfl ?_
    refine W.q (Ev.move (.t rfl)) rfl ?_
    refine W.q (Ev.move (.t rfl)) rfl ?_
    refine W.q (Ev.at (E := 49) (.t rfl) (.t rfl) Tryd.underlying47 ty49 (fun _ => ⟨by omega, hga⟩) rfl rfl) rfl ?_
    (refine W.q (Ev.lden (.t rfl) ag49 ty49 rfl rfl) rfl ?_)
    refine W.callv (caps := caps) (avs := [_]) (hg (l.getD i Ex.dflt) (getD_memG Ex.dflt l i hlt)) (.t rfl) ⟨(.t rfl), trivial⟩ rfl ((List.Perm.of_eq (List.append_nil _).symm)) rfl ?_
    rintro _ M' ⟨rfl, hM⟩
    rw [hM, List.append_nil]
    refine W.nil ?_
    refine W.then ?_
    refine W.cond (.t rfl) (fun hc_t16 => ?_) (fun hc_t16 => ?_)
    · have hq := idxI_hit p Ex.dflt l i hlt hi2 hc_t16
      refine W.seq ?_
      refine W.region ?_
      refine W.q (Ev.move (.t rfl)) rfl ?_
      refine W.q (Ev.assign (.t rfl)) rfl ?_
      refine W.nil ?_
      refine W.then ?_
      refine W.ret ?_
      refine W.blk_ret ?_
      refine W.then_ret ?_
      refine W.then_ret ?_
      refine W.blk_ret ?_
      refine W.then_ret ?_
      refine W.retn (M' := M0) (D := []) (rs := [.tmp 4]) (avs := [_]) Tryd.results68 ⟨rfl, trivial⟩ rfl (List.Perm.of_eq (List.append_nil _).symm) ?_
      exact ⟨congrArg AV.int (by rw [hq]), rfl⟩
    · have hq : p (l.getD i Ex.dflt) = false := hc_t16
      refine W.skip ?_
      refine W.blk_normal ?_
      refine W.then ?_
      refine W.region ?_
      (refine W.q (Ev.add (.t rfl) .k (fun _ => by omega)) rfl ?_)
      refine W.q (Ev.move (.t rfl)) rfl ?_
      refine W.nil ?_
      refine W.then ?_
      refine W.reach (D := []) (i + 1) ⟨rfl, rfl, rfl, rfl, trivial⟩ (List.Perm.of_eq (List.append_nil _).symm) ⟨⟨by omega, ?_⟩, by omega⟩
      rw [take_getDG Ex.dflt l i hlt]
      intro d hd
      cases List.mem_append.1 hd with
      | inl h => exact hi2 d h
      | inr h => rw [List.mem_singleton.1 h]; exact hq
  · rw [List.take_of_length_le (by omega)] at hi2
    have hq := idxI_miss p l hi2
    refine W.seq ?_
    refine W.region ?_
    refine W.q (Ev.lti (.t rfl) (.t rfl)) rfl ?_
    refine W.nil ?_
    refine W.then ?_
    refine W.seq ?_
    refine W.is (t := 9) (g := true) (av' := .lit (.bool false)) rfl (congrArg (fun b => AV.lit (.bool b)) (by simp; omega)) ?_
    refine W.condF (.t rfl) ?_
    refine W.exit ?_
    refine W.then_exit ?_
    refine W.then_exit ?_
    refine W.blk_hit ?_
    refine W.then ?_
    refine W.seq ?_
    refine W.region ?_
    refine W.q (Ev.assign .k) rfl ?_
    refine W.nil ?_
    refine W.then ?_
    refine W.ret ?_
    refine W.retn (M' := M0) (D := []) (rs := [.tmp 4]) (avs := [_]) Tryd.results68 ⟨rfl, trivial⟩ rfl (List.Perm.of_eq (List.append_nil _).symm) ?_
    exact ⟨congrArg AV.int (by rw [hq]), rfl⟩

theorem c_ContainsFuncX (l : List Ex) (g : Nat) (caps : List Value) (M0 : List ME) (p : Ex → Bool) (hg : ∀ d ∈ l, FnC Tryd.prog g ([Ex.avx d] ++ caps.map .lit) M0 (fun r M => r = .bool (p d) ∧ M = M0)) (hn : l.length ≤ 1099511627776) : FnC Tryd.prog 53 [.sl 3 (l.map Ex.av), .lit (.func (.func g) #[] caps.toArray)] M0 (fun r M => r = .bool (l.any p) ∧ M = M0) :=  by
  refine FnC.mk Tryd.func53 (by kernel_rfl) rfl Tryd.ntmps53 rfl (fun w0 F => ?_)
  refine W.seq ?_
  refine W.region ?_
  refine W.q (Ev.assign .k) rfl ?_
  refine W.nil ?_
  refine W.then ?_
  refine W.seq ?_
  refine W.region ?_
  refine W.q (Ev.move (.t rfl)) rfl ?_
  refine W.q (Ev.move (.t rfl)) rfl ?_
  refine W.call (c_IndexFuncX l g caps M0 p hg hn) ⟨(.t rfl), (.t rfl), trivial⟩ ((List.Perm.of_eq (List.append_nil _).symm)) rfl ?_
  rintro _ M' ⟨rfl, hM⟩
  rw [hM, List.append_nil]
  refine W.q (Ev.gei (.t rfl) .k) rfl ?_
  refine W.q (Ev.assign (.t rfl)) rfl ?_
  refine W.nil ?_
  refine W.then ?_
  refine W.ret ?_
  refine W.retn (M' := M0) (D := []) (rs := [.tmp 4]) (avs := [_]) Tryd.results53 ⟨rfl, trivial⟩ rfl (List.Perm.of_eq (List.append_nil _).symm) ?_
  exact ⟨congrArg AV.bool (idxI_any p l), rfl⟩

theorem c_fault1 (b : Nat) (x d : Ex) : FnC Tryd.prog 54 ([Ex.avx d] ++ [Value.pointer (some ⟨b, 0, none⟩)].map .lit) [.box b 49 x.avx.cells] (fun r M => r = .bool (d.kind == x.kind) ∧ M = [.box b 49 x.avx.cells]) :=  by
  refine FnC.mk Tryd.func54 (by kernel_rfl) rfl Tryd.ntmps54 rfl (fun w0 F => ?_)
  refine W.seq ?_
  refine W.region ?_
  refine W.box (.t rfl) rfl rfl ?_
  intro b2
  refine W.q (Ev.assign .k) rfl ?_
  refine W.nil ?_
  refine W.then ?_
  refine W.seq ?_
  refine W.region ?_
  (refine W.q (Ev.fab (.t rfl) fa49_0) rfl ?_)
  (refine W.q (Ev.ldb1 0 (.t rfl) rfl ag3 rfl) rfl ?_)
  (refine W.q (Ev.fab (.t rfl) fa49_0) rfl ?_)
  (refine W.q (Ev.ldb1 1 (.t rfl) rfl ag3 rfl) rfl ?_)
  refine W.q (Ev.eqi (.t rfl) (.t rfl)) rfl ?_
  refine W.q (Ev.assign (.t rfl)) rfl ?_
  refine W.nil ?_
  refine W.then ?_
  refine W.ret ?_
  refine W.retn (M' := [.box b 49 _]) (D := _) (rs := [.tmp 3]) (avs := [_]) Tryd.results54 ⟨rfl, trivial⟩ rfl (List.Perm.swap _ _ []) ?_
  exact ⟨rfl, rfl⟩

theorem c_fault_step (x : Ex) (h1 : Ex.ok1 x) (hz : x.sz ≤ 16777216) (ih : ∀ d ∈ x.parts, FnP Tryd.prog 37 [Ex.avx d] (.int 0)) : FnP Tryd.prog 37 [Ex.avx x] (.int 0) :=  by
  refine FnC.mk Tryd.func37 (by kernel_rfl) rfl Tryd.ntmps37 rfl (fun w0 F => ?_)
  have hpl : (x.parts.map Ex.av).length = x.parts.length := List.length_map ..
  have hse := Ex.sz_eq x
  have hsl := Ex.szs_len x.parts
  obtain ⟨k0, k1, k2, k3, k4, k5, k6, k7⟩ := Ex.ok1_facts h1
  refine W.seq ?_
  refine W.region ?_
  refine W.box (.t rfl) rfl rfl ?_
  intro b1
  refine W.q (Ev.assign .k) rfl ?_
  refine W.nil ?_
  refine W.then ?_
  refine W.seq ?_
  refine W.region ?_
  (refine W.q (Ev.fab (.t rfl) fa49_2) rfl ?_)
  (refine W.q (Ev.ldb1 0 (.t rfl) rfl ag47 rfl) rfl ?_)
  (refine W.q (Ev.lensl (.t rfl) Tryd.underlying47) rfl ?_)
  refine W.q (Ev.assign (.t rfl)) rfl ?_
  refine W.nil ?_
  refine W.then ?_
  refine W.seq ?_
  refine W.region ?_
  (refine W.q (Ev.fab (.t rfl) fa49_0) rfl ?_)
  (refine W.q (Ev.ldb1 0 (.t rfl) rfl ag3 rfl) rfl ?_)
  refine W.q (Ev.eqi (.t rfl) .k) rfl ?_
  refine W.q (Ev.move (.t rfl)) rfl ?_
  (refine W.qgF rfl rfl (Ev.fab (.t rfl) fa49_0) rfl ?_)
  (refine W.qgF rfl rfl (Ev.ldb1 0 (.c rfl) rfl ag3 rfl) rfl ?_)
  refine W.qgF rfl rfl (Ev.eqi (.c rfl) .k) rfl ?_
  refine W.q (Ev.or (.t rfl) ⟨_, _, rfl, rfl, by ((simp; done))⟩) rfl ?_
  refine W.q (Ev.assign (.t rfl)) rfl ?_
  refine W.nil ?_
  refine W.then ?_
  refine W.seq ?_
  refine W.block ?_
  refine W.seq ?_
  refine W.region ?_
  (refine W.q (Ev.fab (.t rfl) fa49_0) rfl ?_)
  (refine W.q (Ev.ldb1 0 (.t rfl) rfl ag3 rfl) rfl ?_)
  refine W.q (Ev.lti (.t rfl) .k) rfl ?_
  refine W.q (Ev.move (.t rfl)) rfl ?_
  (refine W.qgF rfl rfl (Ev.fab (.t rfl) fa49_0) rfl ?_)
  (refine W.qgF rfl rfl (Ev.ldb1 0 (.c rfl) rfl ag3 rfl) rfl ?_)
  refine W.qgF rfl rfl (Ev.gti (.c rfl) .k) rfl ?_
  refine W.q (Ev.or (.t rfl) ⟨_, _, rfl, rfl, by ((simp; done))⟩) rfl ?_
  refine W.q (Ev.assign (.t rfl)) rfl ?_
  refine W.nil ?_
  refine W.then ?_
  refine W.is (t := 19) (g := true) (av' := .lit (.bool false)) rfl (congrArg (fun b => AV.lit (.bool b)) (by exact Bool.eq_false_iff.2 (fun h => by simp at h; omega))) ?_
  refine W.condF (.t rfl) ?_
  refine W.seq ?_
  refine W.seq ?_
  refine W.region ?_
  (refine W.q (Ev.fab (.t rfl) fa49_0) rfl ?_)
  (refine W.q (Ev.ldb1 0 (.t rfl) rfl ag3 rfl) rfl ?_)
  refine W.q (Ev.eqi (.t rfl) .k) rfl ?_
  refine W.q (Ev.move (.t rfl)) rfl ?_
  refine W.qgT rfl rfl (Ev.move (.t rfl)) rfl ?_
  refine W.qgT rfl rfl (Ev.gti (.c rfl) .k) rfl ?_
  refine W.q (Ev.and (.t rfl) ⟨_, _, rfl, rfl, by ((simp; done))⟩) rfl ?_
  refine W.q (Ev.assign (.t rfl)) rfl ?_
  refine W.nil ?_
  refine W.then ?_
  refine W.is (t := 28) (g := true) (av' := .lit (.bool false)) rfl (congrArg (fun b => AV.lit (.bool b)) (by exact Bool.eq_false_iff.2 (fun h => by simp only [Bool.and_eq_true, Bool.or_eq_true, beq_iff_eq, bne_iff_ne, decide_eq_true_eq, ne_eq] at h; omega))) ?_
  refine W.condF (.t rfl) ?_
  refine W.seq ?_
  refine W.region ?_
  (refine W.q (Ev.fab (.t rfl) fa49_0) rfl ?_)
  (refine W.q (Ev.ldb1 0 (.t rfl) rfl ag3 rfl) rfl ?_)
  refine W.q (Ev.nei (.t rfl) .k) rfl ?_
  refine W.q (Ev.move (.t rfl)) rfl ?_
  (refine W.qgT rfl rfl (Ev.fab (.t rfl) fa49_1) rfl ?_)
  (refine W.qgT rfl rfl (Ev.ldb1 0 (.c rfl) rfl ag3 rfl) rfl ?_)
  refine W.qgT rfl rfl (Ev.nei (.c rfl) .k) rfl ?_
  refine W.q (Ev.and (.t rfl) ⟨_, _, rfl, rfl, by ((simp; done))⟩) rfl ?_
  refine W.q (Ev.assign (.t rfl)) rfl ?_
  refine W.nil ?_
  refine W.then ?_
  refine W.is (t := 28) (g := true) (av' := .lit (.bool false)) rfl (congrArg (fun b => AV.lit (.bool b)) (by exact Bool.eq_false_iff.2 (fun h => by simp only [Bool.and_eq_true, Bool.or_eq_true, beq_iff_eq, bne_iff_ne, decide_eq_true_eq, ne_eq] at h; omega))) ?_
  refine W.condF (.t rfl) ?_
  refine W.seq ?_
  refine W.region ?_
  refine W.q (Ev.move (.t rfl)) rfl ?_
  refine W.q (Ev.move (.t rfl)) rfl ?_
  refine W.qgT rfl rfl (Ev.move (.t rfl)) rfl ?_
  refine W.qgT rfl rfl (Ev.eqi (.c rfl) .k) rfl ?_
  refine W.q (Ev.and (.t rfl) ⟨_, _, rfl, rfl, by ((simp; done))⟩) rfl ?_
  refine W.q (Ev.assign (.t rfl)) rfl ?_
  refine W.nil ?_
  refine W.then ?_
  refine W.is (t := 28) (g := true) (av' := .lit (.bool false)) rfl (congrArg (fun b => AV.lit (.bool b)) (by exact Bool.eq_false_iff.2 (fun h => by simp only [Bool.and_eq_true, Bool.or_eq_true, beq_iff_eq, bne_iff_ne, decide_eq_true_eq, ne_eq] at h; omega))) ?_
  refine W.condF (.t rfl) ?_
  refine W.seq ?_
  refine W.region ?_
  (refine W.q (Ev.fab (.t rfl) fa49_0) rfl ?_)
  (refine W.q (Ev.ldb1 0 (.t rfl) rfl ag3 rfl) rfl ?_)
  refine W.q (Ev.eqi (.t rfl) .k) rfl ?_
  refine W.q (Ev.move (.t rfl)) rfl ?_
  refine W.qgT rfl rfl (Ev.move (.t rfl)) rfl ?_
  refine W.qgT rfl rfl (Ev.eqi (.c rfl) .k) rfl ?_
  refine W.q (Ev.and (.t rfl) ⟨_, _, rfl, rfl, by ((simp; done))⟩) rfl ?_
  refine W.q (Ev.assign (.t rfl)) rfl ?_
  refine W.nil ?_
  refine W.then ?_
  refine W.is (t := 28) (g := true) (av' := .lit (.bool false)) rfl (congrArg (fun b => AV.lit (.bool b)) (by exact Bool.eq_false_iff.2 (fun h => by simp only [Bool.and_eq_true, Bool.or_eq_true, beq_iff_eq, bne_iff_ne, decide_eq_true_eq, ne_eq] at h; omega))) ?_
  refine W.condF (.t rfl) ?_
  refine W.region ?_
  (refine W.q (Ev.fab (.t rfl) fa49_0) rfl ?_)
  (refine W.q (Ev.ldb1 0 (.t rfl) rfl ag3 rfl) rfl ?_)
  refine W.q (Ev.gei (.t rfl) .k) rfl ?_
  refine W.q (Ev.move (.t rfl)) rfl ?_
  refine W.qgT rfl rfl (Ev.move (.t rfl)) rfl ?_
  refine W.qgT rfl rfl (Ev.nei (.c rfl) .k) rfl ?_
  refine W.q (Ev.and (.t rfl) ⟨_, _, rfl, rfl, by ((simp; done))⟩) rfl ?_
  refine W.q (Ev.assign (.t rfl)) rfl ?_
  refine W.nil ?_
  refine W.then ?_
  refine W.is (t := 28) (g := true) (av' := .lit (.bool false)) rfl (congrArg (fun b => AV.lit (.bool b)) (by exact Bool.eq_false_iff.2 (fun h => by simp only [Bool.and_eq_true, Bool.or_eq_true, beq_iff_eq, bne_iff_ne, decide_eq_true_eq, ne_eq] at h; omega))) ?_
  refine W.condF (.t rfl) ?_
  refine W.seq ?_
  refine W.region ?_
  refine W.q (Ev.move (.t rfl)) rfl ?_
  refine W.q (Ev.move (.t rfl)) rfl ?_
  (refine W.qgT rfl rfl (Ev.fab (.t rfl) fa49_2) rfl ?_)
  (refine W.qgT rfl rfl (Ev.ldb1 0 (.c rfl) rfl ag47 rfl) rfl ?_)
  refine W.qgT rfl rfl (Ev.mkfn (caps := [.tmp 1]) (vs := [_]) ⟨(.t rfl), trivial⟩) rfl ?_
  refine W.callgT (Min := _) (caps := []) (avs := [_, _]) rfl rfl (fun hg => c_ContainsFuncX x.parts 54 [.pointer (some ⟨b1, 0, none⟩)] [.box b1 49 x.avx.cells] (fun d => d.kind == x.kind) (fun d _ => c_fault1 b1 x d) (by omega)) (fun hg => .f) (fun hg => ⟨(.i rfl (fun _ => hg)), (.i rfl (fun _ => hg)), trivial⟩) rfl (.refl _) rfl ?_
  refine W.q (Ev.and (.t rfl) ⟨_, _, rfl, rfl, by ((simp; done))⟩) rfl ?_
  refine W.q (Ev.assign (.t rfl)) rfl ?_
  refine W.nil ?_
  refine W.then ?_
  refine W.is (t := 63) (g := true) (av' := .lit (.bool false)) rfl (congrArg (fun b => AV.lit (.bool b)) (by exact Bool.eq_false_iff.2 (fun h => by have h1 := (Bool.and_eq_true _ _).mp h; rw [k7 h1.1] at h1; exact absurd h1.2 (by decide)))) ?_
  refine W.condF (.t rfl) ?_
  refine W.seq ?_
  refine W.region ?_
  (refine W.q (Ev.fab (.t rfl) fa49_1) rfl ?_)
  (refine W.q (Ev.ldb1 0 (.t rfl) rfl ag3 rfl) rfl ?_)
  refine W.q (Ev.lti (.t rfl) .k) rfl ?_
  refine W.q (Ev.move (.t rfl)) rfl ?_
  (refine W.qgF rfl rfl (Ev.fab (.t rfl) fa49_1) rfl ?_)
  (refine W.qgF rfl rfl (Ev.ldb1 0 (.c rfl) rfl ag3 rfl) rfl ?_)
  refine W.qgF rfl rfl (Ev.gei (.c rfl) .k) rfl ?_
  refine W.q (Ev.or (.t rfl) ⟨_, _, rfl, rfl, by ((simp; done))⟩) rfl ?_
  refine W.q (Ev.assign (.t rfl)) rfl ?_
  refine W.nil ?_
  refine W.then ?_
  refine W.is (t := 71) (g := true) (av' := .lit (.bool false)) rfl (congrArg (fun b => AV.lit (.bool b)) (by exact Bool.eq_false_iff.2 (fun h => by simp at h; omega))) ?_
  refine W.condF (.t rfl) ?_
  refine W.skip ?_
  refine W.blk_normal ?_
  refine W.then ?_
  refine W.seq ?_
  refine W.seq ?_
  refine W.region ?_
  (refine W.q (Ev.fab (.t rfl) fa49_2) rfl ?_)
  (refine W.q (Ev.ldb1 0 (.t rfl) rfl ag47 rfl) rfl ?_)
  (refine W.q (Ev.lensl (.t rfl) Tryd.underlying47) rfl ?_)
  refine W.q (Ev.move .k) rfl ?_
  refine W.nil ?_
  refine W.then ?_
  refine W.block ?_
  refine W.loop (D := []) (ι := Nat) (fun i => [(83, true, .int (i : Int)), (82, true, .int ((x.parts.map Ex.av).length : Int)), (81, true, .sl 3 (x.parts.map Ex.av)), (1, true, .lit (.pointer (some ⟨b1, 0, none⟩)))]) (fun i => [.box b1 49 x.avx.cells]) (fun i => i ≤ x.parts.length) (fun i => x.parts.length - i) 0 ⟨rfl, rfl, rfl, rfl, trivial⟩ (.refl _) (Nat.zero_le _) ?_
  intro i hi
  dsimp only at hi ⊢
  rcases (show i < x.parts.length ∨ i = x.parts.length from by omega) with hlt | hend
  · have hga := Ex.at_av x.parts i hlt
    have hdm := getD_memG Ex.dflt x.parts i hlt
    generalize hd : x.parts.getD i Ex.dflt = d at hga hdm
    refine W.seq ?_
    refine W.region ?_
    refine W.q (Ev.lti (.t rfl) (.t rfl)) rfl ?_
    refine W.nil ?_
    refine W.then ?_
    refine W.seq ?_
    refine W.is (t := 84) (g := true) (av' := .lit (.bool true)) rfl (congrArg (fun b => AV.lit (.bool b)) (by exact decide_eq_true (by omega))) ?_
    refine W.condT (.t rfl) ?_
    refine W.skip ?_
    refine W.then ?_
    refine W.seq ?_
    refine W.block ?_
    refine W.seq ?_
    refine W.region ?_
    refine W.q (Ev.at (E := 49) (.t rfl) (.t rfl) Tryd.underlying47 ty49 (fun _ => ⟨by omega, hga⟩) rfl rfl) rfl ?_
    (refine W.q (Ev.lden (.t rfl) ag49 ty49 rfl rfl) rfl ?_)
    refine W.alloc ty49 rfl rfl ?_
    intro b6
    (refine W.stb 0 (.t rfl) (.t rfl) rfl ty49 rfl rfl rfl ?_)
    refine W.nil ?_
    refine W.then ?_
    refine W.seq ?_
    refine W.region ?_
    (refine W.q (Ev.ldbn 0 (.t rfl) rfl ag49 ty49 rfl) rfl ?_)
    refine W.callp (ih d hdm) ⟨(.t rfl), trivial⟩ rfl ?_
    refine W.q (Ev.assign (.t rfl)) rfl ?_
    refine W.nil ?_
    refine W.then ?_
    refine W.seq ?_
    refine W.region ?_
    refine W.q (Ev.move (.t rfl)) rfl ?_
    refine W.q (Ev.nei (.t rfl) .k) rfl ?_
    refine W.nil ?_
    refine W.then ?_
    refine W.is (t := 90) (g := true) (av' := .lit (.bool false)) rfl (congrArg (fun b => AV.lit (.bool b)) (by rfl)) ?_
    refine W.condF (.t rfl) ?_
    refine W.skip ?_
    refine W.blk_normal ?_
    refine W.then ?_
    refine W.region ?_
    (refine W.q (Ev.add (.t rfl) .k (fun _ => by omega)) rfl ?_)
    refine W.q (Ev.move (.t rfl)) rfl ?_
    refine W.nil ?_
    refine W.then ?_
    refine W.reach (D := [_]) (i + 1) ⟨rfl, rfl, rfl, rfl, trivial⟩ (List.Perm.swap _ _ []) ⟨by show i + 1 ≤ _; omega, by show _ - (i + 1) < _; omega⟩
  · skip
    refine W.seq ?_
    refine W.region ?_
    refine W.q (Ev.lti (.t rfl) (.t rfl)) rfl ?_
    refine W.nil ?_
    refine W.then ?_
    refine W.seq ?_
    refine W.is (t := 84) (g := true) (av' := .lit (.bool false)) rfl (congrArg (fun b => AV.lit (.bool b)) (by exact decide_eq_false (by omega))) ?_
    refine W.condF (.t rfl) ?_
    refine W.exit ?_
    refine W.then_exit ?_
    refine W.then_exit ?_
    refine W.blk_hit ?_
    refine W.then ?_
    refine W.seq ?_
    refine W.region ?_
    refine W.q (Ev.assign .k) rfl ?_
    refine W.nil ?_
    refine W.then ?_
    refine W.ret ?_
    refine W.retn (M' := []) (D := _) (rs := [.tmp 2]) (avs := [_]) Tryd.results37 ⟨rfl, trivial⟩ rfl (.refl _) ?_
    exact ⟨rfl, rfl⟩

theorem c_fault : ∀ x : Ex, Ex.ok x → x.sz ≤ 16777216 → FnP Tryd.prog 37 [Ex.avx x] (.int 0) := by
  refine Ex.rec' fun x ih hx hz => ?_
  obtain ⟨h1, h2⟩ := (Ex.ok_iff x).1 hx
  exact c_fault_step x h1 hz fun d hd => ih d hd (h2 d hd) (by have := Ex.part_sz hd; omega)

end WFault

end Go.Proofs.YtacaemfkdieocaaDoor
end

section
set_option linter.unusedVariables false
set_option linter.unusedSimpArgs false
set_option maxRecDepth 100000
namespace Go.Proofs.YtacaemfkdieocaaDoor
open Go.Vl

namespace WText
theorem ty3 : Ty Tryd.prog 3 1 8 (.int .i64 0) := Ty.of (by kernel_rfl)
theorem ty9 : Ty Tryd.prog 9 1 16 (.string ⟨#[]⟩) := Ty.of (by kernel_rfl)
theorem ty47 : Ty Tryd.prog 47 1 24 (.slice none 0 0) := Ty.of (by kernel_rfl)
theorem ty49 : Ty Tryd.prog 49 3 40 (.agg #[.int .i64 0, .int .i64 0, .slice none 0 0]) := Ty.of (by kernel_rfl)
theorem ag3 : IsAgg Tryd.prog 3 false := ⟨_, Tryd.underlying3, rfl⟩
theorem ag9 : IsAgg Tryd.prog 9 false := ⟨_, Tryd.underlying9, rfl⟩
theorem ag47 : IsAgg Tryd.prog 47 false := ⟨_, Tryd.underlying47, rfl⟩
theorem ag49 : IsAgg Tryd.prog 49 true := ⟨_, Tryd.underlying49, rfl⟩
theorem fa49_0 : FieldAt Tryd.prog 49 0 0 1 false := ⟨_, _, Tryd.underlying49, rfl, rfl, ty3.size, ag3, by decide⟩
theorem fa49_1 : FieldAt Tryd.prog 49 1 1 1 false := ⟨_, _, Tryd.underlying49, rfl, rfl, ty3.size, ag3, by decide⟩
theorem fa49_2 : FieldAt Tryd.prog 49 2 2 1 false := ⟨_, _, Tryd.underlying49, rfl, rfl, ty47.size, ag47, by decide⟩
theorem ni46 : NotInt Tryd.prog 46 := .inl ⟨_, Tryd.underlying46⟩
theorem c_Join (l : List (List UInt8)) (sep : List UInt8) (hl : l.length ≤ 16777216) (hj : (Ex.joinW sep l).length ≤ 1099511627776) : FnP Tryd.prog 55 [.sl 1 (l.map AV.str), .str sep] (.str (Ex.joinW sep l)) := by
  rw [Ex.joinW_lib] at hj ⊢
  exact joinP (CallOk.of Tryd.func55 (by kernel_rfl) rfl) (fun a c sep w => Tryd.strings_Join_none a c sep w) (fun bk o c xs sep w h1 h2 h3 h4 h5 => Tryd.strings_Join bk o c xs sep w h1 h2 h3 h4 h5) l sep (by omega) (by omega)

theorem c_text_step (x : Ex) (h1 : Ex.ok1 x) (hz : x.sz ≤ 16777216) (hw : Ex.wz x ≤ 1073741824) (ih : ∀ d ∈ x.parts, FnP Tryd.prog 38 [Ex.avx d] (.str (Ex.txt d))) : FnP Tryd.prog 38 [Ex.avx x] (.str (Ex.txt x)) :=  by
  refine FnC.mk Tryd.func38 (by kernel_rfl) rfl Tryd.ntmps38 rfl (fun w0 F => ?_)
  have hpl : (x.parts.map Ex.av).length = x.parts.length := List.length_map ..
  have hse := Ex.sz_eq x
  have hsl := Ex.szs_len x.parts
  obtain ⟨k0, k1, k2, k3, k4, k5, k6, k7⟩ := Ex.ok1_facts h1
  have hwe : Ex.wz x = Ex.sumL (x.parts.map (Ex.ptx1 x.kind)) + x.parts.length + 2 := rfl
  have htl := Ex.ptx_len x
  refine W.seq ?_
  refine W.region ?_
  refine W.box (.t rfl) rfl rfl ?_
  intro b1
  refine W.q (Ev.assign .k) rfl ?_
  refine W.nil ?_
  refine W.then ?_
  refine W.seq ?_
  refine W.region ?_
  refine W.q (Ev.assign .k) rfl ?_
  refine W.nil ?_
  refine W.then ?_
  refine W.seq ?_
  refine W.seq ?_
  refine W.region ?_
  (refine W.q (Ev.fab (.t rfl) fa49_2) rfl ?_)
  (refine W.q (Ev.ldb1 0 (.t rfl) rfl ag47 rfl) rfl ?_)
  (refine W.q (Ev.lensl (.t rfl) Tryd.underlying47) rfl ?_)
  refine W.q (Ev.move .k) rfl ?_
  refine W.nil ?_
  refine W.then ?_
  refine W.block ?_
  refine W.own_nil 9 1 ?_
  refine W.loop (D := []) (ι := Nat × Value) (fun z => [(11, true, .int (z.1 : Int)), (10, true, .int ((x.parts.map Ex.av).length : Int)), (9, true, .sl 3 (x.parts.map Ex.av)), (1, true, .lit (.pointer (some ⟨b1, 0, none⟩))), (3, true, .lit z.2)]) (fun z => [.arr z.2 9 1 (((x.parts.take z.1).map (Ex.ptx1 x.kind)).map AV.str), .box b1 49 x.avx.cells]) (fun z => z.1 ≤ x.parts.length) (fun z => x.parts.length - z.1) (0, .slice none 0 0) ⟨rfl, rfl, rfl, rfl, rfl, trivial⟩ (.refl _) (Nat.zero_le _) ?_
  rintro ⟨i, v⟩ hi
  dsimp only at hi ⊢
  rcases (show i < x.parts.length ∨ i = x.parts.length from by omega) with hlt | hend
  · have hga := Ex.at_av x.parts i hlt
    have hdm := getD_memG Ex.dflt x.parts i hlt
    have hsn : (x.parts.take (i + 1)).map (Ex.ptx1 x.kind) = (x.parts.take i).map (Ex.ptx1 x.kind) ++ [Ex.ptx1 x.kind (x.parts.getD i Ex.dflt)] := by rw [take_getDG Ex.dflt x.parts i hlt, List.map_append]; rfl
    generalize hd : x.parts.getD i Ex.dflt = d at hga hdm hsn
    have hdl := htl d hdm
    refine W.seq ?_
    refine W.region ?_
    refine W.q (Ev.lti (.t rfl) (.t rfl)) rfl ?_
    refine W.nil ?_
    refine W.then ?_
    refine W.seq ?_
    refine W.is (t := 12) (g := true) (av' := .lit (.bool true)) rfl (congrArg (fun b => AV.lit (.bool b)) (by exact decide_eq_true (by omega))) ?_
    refine W.condT (.t rfl) ?_
    refine W.skip ?_
    refine W.then ?_
    refine W.seq ?_
    refine W.block ?_
    refine W.seq ?_
    refine W.region ?_
    refine W.q (Ev.at (E := 49) (.t rfl) (.t rfl) Tryd.underlying47 ty49 (fun _ => ⟨by omega, hga⟩) rfl rfl) rfl ?_
    (refine W.q (Ev.lden (.t rfl) ag49 ty49 rfl rfl) rfl ?_)
    refine W.alloc ty49 rfl rfl ?_
    intro b5
    (refine W.stb 0 (.t rfl) (.t rfl) rfl ty49 rfl rfl rfl ?_)
    refine W.nil ?_
    refine W.then ?_
    refine W.seq ?_
    refine W.region ?_
    (refine W.q (Ev.ldbn 0 (.t rfl) rfl ag49 ty49 rfl) rfl ?_)
    refine W.callp (ih d hdm) ⟨(.t rfl), trivial⟩ rfl ?_
    refine W.q (Ev.assign (.t rfl)) rfl ?_
    refine W.nil ?_
    refine W.then ?_
    refine W.seq ?_
    refine W.seq ?_
    refine W.region ?_
    (refine W.q (Ev.fab (.t rfl) fa49_0) rfl ?_)
    (refine W.q (Ev.ldb1 0 (.t rfl) rfl ag3 rfl) rfl ?_)
    refine W.q (Ev.eqi (.t rfl) .k) rfl ?_
    refine W.q (Ev.move (.t rfl)) rfl ?_
    (refine W.qgT rfl rfl (Ev.fab (.t rfl) fa49_0) rfl ?_)
    (refine W.qgT rfl rfl (Ev.ldb1 2 (.c rfl) rfl ag3 rfl) rfl ?_)
    refine W.qgT rfl rfl (Ev.nei (.c rfl) .k) rfl ?_
    refine W.q (Ev.and (.t rfl) ⟨_, _, rfl, rfl, by ((simp; done))⟩) rfl ?_
    refine W.q (Ev.move (.t rfl)) rfl ?_
    (refine W.qgF rfl rfl (Ev.fab (.t rfl) fa49_0) rfl ?_)
    (refine W.qgF rfl rfl (Ev.ldb1 0 (.c rfl) rfl ag3 rfl) rfl ?_)
    refine W.qgF rfl rfl (Ev.eqi (.c rfl) .k) rfl ?_
    refine W.qgF rfl rfl (Ev.move (.c rfl)) rfl ?_
    (refine W.qgT' rfl rfl (Ev.fab (.t rfl) fa49_0) rfl ?_)
    (refine W.qgT' rfl rfl (Ev.ldb1 2 (.c rfl) rfl ag3 rfl) rfl ?_)
    refine W.qgT' rfl rfl (Ev.gei (.c rfl) .k) rfl ?_
    refine W.qgF rfl rfl (Ev.and (.c rfl) ⟨_, _, rfl, rfl, by ((simp <;> omega; done))⟩) rfl ?_
    refine W.q (Ev.or (.t rfl) ⟨_, _, rfl, rfl, by ((intro hg_ hp_; simp [hp_]; done))⟩) rfl ?_
    refine W.nil ?_
    refine W.then ?_
    refine W.cond (.t rfl) (fun hc_t34 => ?_) (fun hc_t34 => ?_)
    · have hpar : Ex.par x.kind d := by simp at hc_t34; unfold Ex.par; omega
      have hp1 : Ex.ptx1 x.kind d = 40 :: (Ex.txt d ++ [41]) := if_pos hpar
      refine W.region ?_
      refine W.q (Ev.move (.t rfl)) rfl ?_
      refine W.q (Ev.cat .k (.t rfl) (fun _ => by ((simp [-List.length_flatMap]; omega)))) rfl ?_
      refine W.q (Ev.cat (.t rfl) .k (fun _ => by ((simp [-List.length_flatMap]; omega)))) rfl ?_
      refine W.q (Ev.assign (.t rfl)) rfl ?_
      refine W.nil ?_
      refine W.then ?_
      refine W.region ?_
      refine W.q (Ev.move (.t rfl)) rfl ?_
      refine W.q (Ev.move (.t rfl)) rfl ?_
      refine W.bs (es := [_]) Tryd.underlying46 ty9 ⟨rfl, (.t rfl), rfl, rfl, trivial⟩ rfl (by decide) rfl rfl ?_
      (refine W.app 1 (.t rfl) rfl (.sl (.t rfl) (by simp [AV.okc, shV])) Tryd.underlying46 ni46 ty9 rfl rfl (by rw [List.length_map, List.length_map, List.length_take]; simp only [List.length_cons, List.length_nil]; omega) rfl ?_)
      intro v41
      refine W.q (Ev.assign (.t rfl)) rfl ?_
      refine W.nil ?_
      refine W.blk_normal ?_
      refine W.then ?_
      refine W.region ?_
      (refine W.q (Ev.add (.t rfl) .k (fun _ => by omega)) rfl ?_)
      refine W.q (Ev.move (.t rfl)) rfl ?_
      refine W.nil ?_
      refine W.then ?_
      refine W.reach (D := [_]) (i + 1, v41) ⟨rfl, rfl, rfl, rfl, rfl, trivial⟩ (by rw [hsn, hp1, List.map_append]; exact List.perm_append_comm (l₁ := [_])) ⟨by show i + 1 ≤ _; omega, by show _ - (i + 1) < _; omega⟩
    · have hpar : ¬ Ex.par x.kind d := by unfold Ex.par; intro h; have h2 := Bool.eq_false_iff.1 hc_t34; simp at h2; omega
      have hp1 : Ex.ptx1 x.kind d = Ex.txt d := if_neg hpar
      refine W.skip ?_
      refine W.then ?_
      refine W.region ?_
      refine W.q (Ev.move (.t rfl)) rfl ?_
      refine W.q (Ev.move (.t rfl)) rfl ?_
      refine W.bs (es := [_]) Tryd.underlying46 ty9 ⟨rfl, (.t rfl), rfl, rfl, trivial⟩ rfl (by decide) rfl rfl ?_
      (refine W.app 1 (.t rfl) rfl (.sl (.t rfl) (by simp [AV.okc, shV])) Tryd.underlying46 ni46 ty9 rfl rfl (by rw [List.length_map, List.length_map, List.length_take]; simp only [List.length_cons, List.length_nil]; omega) rfl ?_)
      intro v41
      refine W.q (Ev.assign (.t rfl)) rfl ?_
      refine W.nil ?_
      refine W.blk_normal ?_
      refine W.then ?_
      refine W.region ?_
      (refine W.q (Ev.add (.t rfl) .k (fun _ => by omega)) rfl ?_)
      refine W.q (Ev.move (.t rfl)) rfl ?_
      refine W.nil ?_
      refine W.then ?_
      refine W.reach (D := [_]) (i + 1, v41) ⟨rfl, rfl, rfl, rfl, rfl, trivial⟩ (by rw [hsn, hp1, List.map_append]; exact List.perm_append_comm (l₁ := [_])) ⟨by show i + 1 ≤ _; omega, by show _ - (i + 1) < _; omega⟩
  · rw [List.take_of_length_le (show x.parts.length ≤ i from by omega)]
    refine W.seq ?_
    refine W.region ?_
    refine W.q (Ev.lti (.t rfl) (.t rfl)) rfl ?_
    refine W.nil ?_
    refine W.then ?_
    refine W.seq ?_
    refine W.is (t := 12) (g := true) (av' := .lit (.bool false)) rfl (congrArg (fun b => AV.lit (.bool b)) (by exact decide_eq_false (by omega))) ?_
    refine W.condF (.t rfl) ?_
    refine W.exit ?_
    refine W.then_exit ?_
    refine W.then_exit ?_
    refine W.blk_hit ?_
    refine W.then ?_
    refine W.seq ?_
    refine W.seq ?_
    refine W.region ?_
    (refine W.q (Ev.fab (.t rfl) fa49_0) rfl ?_)
    (refine W.q (Ev.ldb1 1 (.t rfl) rfl ag3 rfl) rfl ?_)
    refine W.nil ?_
    refine W.then ?_
    refine W.block ?_
    refine W.seq ?_
    refine W.region ?_
    refine W.q (Ev.eqi (.t rfl) .k) rfl ?_
    refine W.q (Ev.assign (.t rfl)) rfl ?_
    refine W.nil ?_
    refine W.then ?_
    refine W.cond (.t rfl) (fun hc_t45 => ?_) (fun hc_t45 => ?_)
    · have e45 : x.kind = 1 := eq_of_beq hc_t45
      refine W.seq ?_
      refine W.region ?_
      (refine W.q (Ev.fab (.t rfl) fa49_1) rfl ?_)
      (refine W.q (Ev.ldb1 1 (.t rfl) rfl ag3 rfl) rfl ?_)
      (refine W.q (Ev.fab (.t rfl) fa49_1) rfl ?_)
      (refine W.q (Ev.ldb1 1 (.t rfl) rfl ag3 rfl) rfl ?_)
      (refine W.q (Ev.add (.t rfl) .k (fun _ => by omega)) rfl ?_)
      refine W.q (Ev.subs (lo := some (.tmp 48)) (hi := some (.tmp 51)) .k Tryd.underlying9 (.t rfl) (.t rfl) (fun _ => by obtain ⟨h0, h8⟩ := k1; exact ⟨h0, by omega, by show x.type + 1 ≤ 8; omega⟩)) rfl ?_
      refine W.is (t := 52) (g := true) (av' := .str [97 + UInt8.ofNat x.type.toNat]) rfl (congrArg AV.str (Ex.letter8 x.type k1.1 k1.2)) ?_
      refine W.q (Ev.assign (.t rfl)) rfl ?_
      refine W.nil ?_
      refine W.then ?_
      refine W.ret ?_
      refine W.blk_ret ?_
      refine W.then_ret ?_
      refine W.retn (M' := []) (D := _) (rs := [.tmp 2]) (avs := [_]) Tryd.results38 ⟨rfl, trivial⟩ rfl (.refl _) ?_
      refine ⟨?_, rfl⟩
      rw [Ex.txt_eq]
      ((rw [if_pos e45]; rfl))
    · have e45 : x.kind ≠ 1 := beq_eq_false_iff_ne.1 hc_t45
      refine W.seq ?_
      refine W.region ?_
      refine W.q (Ev.eqi (.t rfl) .k) rfl ?_
      refine W.q (Ev.assign (.t rfl)) rfl ?_
      refine W.nil ?_
      refine W.then ?_
      refine W.cond (.t rfl) (fun hc_t53 => ?_) (fun hc_t53 => ?_)
      · have e53 : x.kind = 2 := eq_of_beq hc_t53
        refine W.seq ?_
        refine W.region ?_
        refine W.q (Ev.move (.t rfl)) rfl ?_
        refine W.freezeA (M1 := [_]) (M2 := [_]) (D := []) (v := v) (L' := [(55, true, .sl 1 ((x.parts.map (Ex.ptx1 x.kind)).map AV.str))]) (.refl _) ⟨⟨_, rfl, .one .hit⟩, trivial⟩ (FrzMs.refl _) ?_
        refine W.callp (c_Join (x.parts.map (Ex.ptx1 x.kind)) [] (by rw [List.length_map]; omega) (by have := Ex.join0_le x; omega)) ⟨(.t rfl), .k, trivial⟩ rfl ?_
        refine W.q (Ev.assign (.t rfl)) rfl ?_
        refine W.nil ?_
        refine W.then ?_
        refine W.ret ?_
        refine W.blk_ret ?_
        refine W.then_ret ?_
        refine W.retn (M' := []) (D := _) (rs := [.tmp 2]) (avs := [_]) Tryd.results38 ⟨rfl, trivial⟩ rfl (.refl _) ?_
        refine ⟨?_, rfl⟩
        rw [Ex.txt_eq]
        ((rw [if_neg e45, if_pos e53]; rfl))
      · have e53 : x.kind ≠ 2 := beq_eq_false_iff_ne.1 hc_t53
        refine W.seq ?_
        refine W.region ?_
        refine W.q (Ev.eqi (.t rfl) .k) rfl ?_
        refine W.q (Ev.assign (.t rfl)) rfl ?_
        refine W.nil ?_
        refine W.then ?_
        refine W.cond (.t rfl) (fun hc_t57 => ?_) (fun hc_t57 => ?_)
        · have e57 : x.kind = 3 := eq_of_beq hc_t57
          refine W.seq ?_
          refine W.region ?_
          refine W.q (Ev.move (.t rfl)) rfl ?_
          refine W.freezeA (M1 := [_]) (M2 := [_]) (D := []) (v := v) (L' := [(59, true, .sl 1 ((x.parts.map (Ex.ptx1 x.kind)).map AV.str))]) (.refl _) ⟨⟨_, rfl, .one .hit⟩, trivial⟩ (FrzMs.refl _) ?_
          refine W.callp (c_Join (x.parts.map (Ex.ptx1 x.kind)) [124] (by rw [List.length_map]; omega) (by have := Ex.join1_le x; omega)) ⟨(.t rfl), .k, trivial⟩ rfl ?_
          refine W.q (Ev.assign (.t rfl)) rfl ?_
          refine W.nil ?_
          refine W.then ?_
          refine W.ret ?_
          refine W.blk_ret ?_
          refine W.then_ret ?_
          refine W.retn (M' := []) (D := _) (rs := [.tmp 2]) (avs := [_]) Tryd.results38 ⟨rfl, trivial⟩ rfl (.refl _) ?_
          refine ⟨?_, rfl⟩
          rw [Ex.txt_eq]
          ((rw [if_neg e45, if_neg e53, if_pos e57]; rfl))
        · have e57 : x.kind ≠ 3 := beq_eq_false_iff_ne.1 hc_t57
          have e4 : 4 ≤ x.kind := by omega
          obtain ⟨q, hq⟩ : ∃ q, x.parts = [q] := List.length_eq_one_iff.1 (k6 e4)
          refine W.skip ?_
          refine W.blk_normal ?_
          refine W.then ?_
          refine W.seq ?_
          refine W.region ?_
          (refine W.q (Ev.fab (.t rfl) fa49_0) rfl ?_)
          (refine W.q (Ev.ldb1 1 (.t rfl) rfl ag3 rfl) rfl ?_)
          (refine W.q (Ev.sub (.t rfl) .k (fun _ => by omega)) rfl ?_)
          refine W.q (Ev.assign (.t rfl)) rfl ?_
          refine W.nil ?_
          obtain ⟨j, hj, hj3⟩ : ∃ j : Nat, x.kind - 4 = (j : Int) ∧ j < 3 := ⟨(x.kind - 4).toNat, by omega, by omega⟩
          refine W.is (t := 7) (g := true) (av' := .int (j : Int)) rfl (congrArg AV.int hj) ?_
          refine W.freezeA (M1 := [_]) (M2 := [_]) (D := []) (v := v) (L' := [(3, true, .sl 1 ((x.parts.map (Ex.ptx1 x.kind)).map AV.str))]) (.refl _) ⟨⟨_, rfl, .one .hit⟩, trivial⟩ (FrzMs.refl _) ?_
          have hg0 : ((x.parts.map (Ex.ptx1 x.kind)).map AV.str)[0]? = some (.str (Ex.ptx1 x.kind q)) := by rw [hq]; rfl
          have hql : (Ex.ptx1 x.kind q).length ≤ Ex.wz x := by rw [hwe, hq]; simp [Ex.sumL]; omega
          refine W.then ?_
          refine W.seq ?_
          refine W.drawn (by kernel_rfl) (by kernel_rfl) ?_
          refine DP.q (Ev.move (.t rfl)) rfl ?_
          refine DP.q (Ev.at (E := 9) (.t rfl) .k Tryd.underlying46 ty9 (fun _ => ⟨by decide, hg0⟩) rfl rfl) rfl ?_
          (refine DP.q (Ev.lde1 (.t rfl) ag9) rfl ?_)
          refine DP.q (Ev.move (.t rfl)) rfl ?_
          refine DP.q (Ev.move (.t rfl)) rfl ?_
          (refine DP.q (Ev.add (.t rfl) .k (fun _ => by omega)) rfl ?_)
          refine DP.q (Ev.subs (lo := some (.tmp 67)) (hi := some (.tmp 69)) .k Tryd.underlying9 (.t rfl) (.t rfl) (fun _ => ⟨by omega, by omega, by show (j : Int) + 1 ≤ 3; omega⟩)) rfl ?_
          refine DP.q (Ev.cat (.t rfl) (.t rfl) (fun _ => by ((simp [-List.length_flatMap]; omega)))) rfl ?_
          refine DP.q (Ev.assign (.t rfl)) rfl ?_
          refine DP.nil ?_
          refine W.then ?_
          refine W.ret ?_
          refine W.retn (M' := []) (D := _) (rs := [.tmp 2]) (avs := [_]) Tryd.results38 ⟨rfl, trivial⟩ rfl (.refl _) ?_
          refine ⟨?_, rfl⟩
          rw [Ex.txt_eq]
          ((rw [if_neg e45, if_neg e53, if_neg e57, hq, Ex.sign3 x.kind j hj hj3]; rfl))

theorem c_text : ∀ x : Ex, Ex.ok x → x.sz ≤ 16777216 → (Ex.txt x).length ≤ 1048576 → FnP Tryd.prog 38 [Ex.avx x] (.str (Ex.txt x)) := by
  refine Ex.rec' fun x ih hx hz hl => ?_
  obtain ⟨h1, h2⟩ := (Ex.ok_iff x).1 hx
  have hw := Ex.wz_le x h1
  have hs := Ex.sz_eq x
  have hn := Ex.szs_len x.parts
  exact c_text_step x h1 hz (by omega) fun d hd => ih d hd (h2 d hd) (by have := Ex.part_sz hd; omega) (by have := Ex.part_txt x h1 d hd; omega)

end WText

end Go.Proofs.YtacaemfkdieocaaDoor
end

section
set_option linter.unusedVariables false
set_option linter.unusedSimpArgs false
set_option maxRecDepth 100000
namespace Go.Proofs.YtacaemfkdieocaaDoor
open Go.Vl

namespace WParse3
theorem ty3 : Ty Tryd.prog 3 1 8 (.int .i64 0) := Ty.of (by kernel_rfl)
theorem ty4 : Ty Tryd.prog 4 1 1 (.bool false) := Ty.of (by kernel_rfl)
theorem ty9 : Ty Tryd.prog 9 1 16 (.string ⟨#[]⟩) := Ty.of (by kernel_rfl)
theorem ty49 : Ty Tryd.prog 49 3 40 (.agg #[.int .i64 0, .int .i64 0, .slice none 0 0]) := Ty.of (by kernel_rfl)
theorem ty85 : Ty Tryd.prog 85 2 24 (.agg #[.string ⟨#[]⟩, .bool false]) := Ty.of (by kernel_rfl)
theorem ag3 : IsAgg Tryd.prog 3 false := ⟨_, Tryd.underlying3, rfl⟩
theorem ag4 : IsAgg Tryd.prog 4 false := ⟨_, Tryd.underlying4, rfl⟩
theorem ag9 : IsAgg Tryd.prog 9 false := ⟨_, Tryd.underlying9, rfl⟩
theorem ag49 : IsAgg Tryd.prog 49 true := ⟨_, Tryd.underlying49, rfl⟩
theorem fa49_0 : FieldAt Tryd.prog 49 0 0 1 false := ⟨_, _, Tryd.underlying49, rfl, rfl, ty3.size, ag3, by decide⟩
theorem fa85_0 : FieldAt Tryd.prog 85 0 0 1 false := ⟨_, _, Tryd.underlying85, rfl, rfl, ty9.size, ag9, by decide⟩
theorem fa85_1 : FieldAt Tryd.prog 85 1 1 1 false := ⟨_, _, Tryd.underlying85, rfl, rfl, ty4.size, ag4, by decide⟩
theorem st85 : StructAt Tryd.prog 85 [(0, 1), (1, 1)] := ⟨_, Tryd.underlying85, rfl, ty9.size, rfl, ty4.size, trivial⟩
theorem c_Check (x : Ex) (hx : Ex.ok x) (hz : x.sz ≤ 16777216) (hl : (Ex.txt x).length ≤ 40) : FnP Tryd.prog 26 [x.avx] (.int 0) :=  by
  refine FnC.mk Tryd.func26 (by kernel_rfl) rfl Tryd.ntmps26 rfl (fun w0 F => ?_)
  refine W.seq ?_
  refine W.region ?_
  refine W.box (.t rfl) rfl rfl ?_
  intro b1
  refine W.q (Ev.assign .k) rfl ?_
  refine W.nil ?_
  refine W.then ?_
  refine W.seq ?_
  refine W.seq ?_
  refine W.region ?_
  (refine W.q (Ev.ldbn 0 (.t rfl) rfl ag49 ty49 rfl) rfl ?_)
  refine W.callp (WFault.c_fault x hx hz) ⟨(.t rfl), trivial⟩ rfl ?_
  refine W.q (Ev.assign (.t rfl)) rfl ?_
  refine W.nil ?_
  refine W.then ?_
  refine W.seq ?_
  refine W.region ?_
  refine W.q (Ev.move (.t rfl)) rfl ?_
  refine W.q (Ev.nei (.t rfl) .k) rfl ?_
  refine W.nil ?_
  refine W.then ?_
  refine W.is (t := 7) (g := true) (av' := .lit (.bool false)) rfl (congrArg (fun b => AV.lit (.bool b)) (by rfl)) ?_
  refine W.condF (.t rfl) ?_
  refine W.skip ?_
  refine W.then ?_
  refine W.seq ?_
  refine W.seq ?_
  refine W.region ?_
  (refine W.q (Ev.ldbn 0 (.t rfl) rfl ag49 ty49 rfl) rfl ?_)
  refine W.callp (WText.c_text x hx hz (by omega)) ⟨(.t rfl), trivial⟩ rfl ?_
  refine W.q (Ev.lens (.t rfl) Tryd.underlying9) rfl ?_
  refine W.q (Ev.gti (.t rfl) .k) rfl ?_
  refine W.nil ?_
  refine W.then ?_
  refine W.is (t := 12) (g := true) (av' := .lit (.bool false)) rfl (congrArg (fun b => AV.lit (.bool b)) (by exact decide_eq_false (by omega))) ?_
  refine W.condF (.t rfl) ?_
  refine W.skip ?_
  refine W.then ?_
  refine W.seq ?_
  refine W.region ?_
  refine W.q (Ev.assign .k) rfl ?_
  refine W.nil ?_
  refine W.then ?_
  refine W.ret ?_
  refine W.retn (M' := []) (D := _) (rs := [.tmp 2]) (avs := [_]) Tryd.results26 ⟨rfl, trivial⟩ rfl (.refl _) ?_
  exact ⟨rfl, rfl⟩

theorem c_Parse (s : List It) (a : List (List It)) (hs : It.oks s) (ha : It.oka a) (hl : (It.stx s ++ It.atl a).length ≤ 40) : FnP Tryd.prog 25 [.str (It.stx s ++ It.atl a)] (.tup [(It.al s a).avx, .int 0]) :=  by
  refine FnC.mk Tryd.func25 (by kernel_rfl) rfl Tryd.ntmps25 rfl (fun w0 F => ?_)
  have hok := It.al_ok s a hs ha
  have hlen := It.al_len s a hs ha
  have hsz := It.al_sz s a
  refine W.seq ?_
  refine W.region ?_
  refine W.alloc ty49 rfl rfl ?_
  intro b2
  refine W.q (Ev.assign .k) rfl ?_
  refine W.nil ?_
  refine W.then ?_
  refine W.seq ?_
  refine W.seq ?_
  refine W.region ?_
  refine W.q (Ev.move (.t rfl)) rfl ?_
  refine W.q (Ev.lens (.t rfl) Tryd.underlying9) rfl ?_
  refine W.q (Ev.gti (.t rfl) .k) rfl ?_
  refine W.nil ?_
  refine W.then ?_
  refine W.is (t := 9) (g := true) (av' := .lit (.bool false)) rfl (congrArg (fun b => AV.lit (.bool b)) (by exact decide_eq_false (by omega))) ?_
  refine W.condF (.t rfl) ?_
  refine W.skip ?_
  refine W.then ?_
  refine W.seq ?_
  refine W.region ?_
  refine W.q (Ev.move (.t rfl)) rfl ?_
  refine W.q (Ev.build ty85 st85 rfl (fun hg => ⟨_, _, _, rfl, (.t rfl), rfl, rfl, rfl, rfl⟩)) rfl ?_
  refine W.box (.t rfl) rfl rfl ?_
  intro b13
  refine W.q (Ev.assign (.t rfl)) rfl ?_
  refine W.nil ?_
  refine W.then ?_
  refine W.seq ?_
  refine W.region ?_
  have cA := WParse2.c_top b13 s a hs ha (by omega)
  rw [List.append_nil] at cA
  refine W.q (Ev.move (.t rfl)) rfl ?_
  refine W.call (cA) ⟨(.t rfl), trivial⟩ ((List.Perm.refl _)) rfl ?_
  rintro _ _ ⟨rfl, rfl⟩
  refine W.alloc ty49 rfl rfl ?_
  intro b5
  (refine W.stb 0 (.t rfl) (.t rfl) rfl ty49 rfl rfl rfl ?_)
  refine W.nil ?_
  refine W.then ?_
  refine W.seq ?_
  refine W.seq ?_
  refine W.region ?_
  refine W.q (Ev.move (.t rfl)) rfl ?_
  refine W.q (Ev.nilc (.t rfl)) rfl ?_
  (refine W.q (Ev.fab (.t rfl) fa85_1) rfl ?_)
  (refine W.q (Ev.ldb1 1 (.t rfl) rfl ag4 rfl) rfl ?_)
  refine W.q (Ev.move (.t rfl)) rfl ?_
  refine W.qgF rfl rfl (Ev.move (.t rfl)) rfl ?_
  refine W.qgF rfl rfl (Ev.nilc (.c rfl)) rfl ?_
  (refine W.qgF rfl rfl (Ev.fab (.c rfl) fa85_0) rfl ?_)
  (refine W.qgF rfl rfl (Ev.ldb1 1 (.c rfl) rfl ag9 rfl) rfl ?_)
  refine W.qgF rfl rfl (Ev.nes (.c rfl) .k) rfl ?_
  refine W.q (Ev.or (.t rfl) ⟨_, _, rfl, rfl, by ((simp; done))⟩) rfl ?_
  refine W.nil ?_
  refine W.then ?_
  refine W.is (t := 26) (g := true) (av' := .lit (.bool false)) rfl (congrArg (fun b => AV.lit (.bool b)) (by rfl)) ?_
  refine W.condF (.t rfl) ?_
  refine W.skip ?_
  refine W.then ?_
  refine W.seq ?_
  refine W.seq ?_
  refine W.region ?_
  (refine W.q (Ev.ldbn 0 (.t rfl) rfl ag49 ty49 rfl) rfl ?_)
  refine W.callp (c_Check (It.al s a) hok (by omega) (by omega)) ⟨(.t rfl), trivial⟩ rfl ?_
  refine W.q (Ev.assign (.t rfl)) rfl ?_
  refine W.nil ?_
  refine W.then ?_
  refine W.seq ?_
  refine W.region ?_
  refine W.q (Ev.move (.t rfl)) rfl ?_
  refine W.q (Ev.nei (.t rfl) .k) rfl ?_
  refine W.nil ?_
  refine W.then ?_
  refine W.is (t := 31) (g := true) (av' := .lit (.bool false)) rfl (congrArg (fun b => AV.lit (.bool b)) (by rfl)) ?_
  refine W.condF (.t rfl) ?_
  refine W.skip ?_
  refine W.then ?_
  refine W.seq ?_
  refine W.region ?_
  (refine W.q (Ev.ldbn 0 (.t rfl) rfl ag49 ty49 rfl) rfl ?_)
  (refine W.stb 2 (.t rfl) (.t rfl) rfl ty49 rfl rfl rfl ?_)
  refine W.q (Ev.assign .k) rfl ?_
  refine W.nil ?_
  refine W.then ?_
  refine W.ret ?_
  refine W.retn (M' := []) (D := _) (rs := [.cell 2 49, .tmp 3]) (avs := [_, _]) Tryd.results25 ⟨⟨_, _, _, rfl, by (exact List.mem_cons_of_mem _ (List.mem_cons_of_mem _ List.mem_cons_self)), rfl, by funext w; exact ag49.run w, by funext w; exact ty49.size w⟩, rfl, trivial⟩ rfl (.refl _) ?_
  exact ⟨rfl, rfl⟩

theorem c_exprOf (s : List It) (a : List (List It)) (hs : It.oks s) (ha : It.oka a) (hl : (It.stx s ++ It.atl a).length ≤ 40) : FnP Tryd.prog 16 [.str (It.stx s ++ It.atl a)] (.tup [(It.al s a).avx, .bool true]) :=  by
  refine FnC.mk Tryd.func16 (by kernel_rfl) rfl Tryd.ntmps16 rfl (fun w0 F => ?_)
  have c1 := c_Parse [It.ch 0 []] [] (by simp [It.oks, It.ok]) trivial (by decide)
  refine W.seq ?_
  refine W.region ?_
  refine W.alloc ty49 rfl rfl ?_
  intro b2
  refine W.q (Ev.assign .k) rfl ?_
  refine W.nil ?_
  refine W.then ?_
  refine W.seq ?_
  refine W.region ?_
  refine W.q (Ev.move (.t rfl)) rfl ?_
  refine W.callp (c_Parse s a hs ha hl) ⟨(.t rfl), trivial⟩ rfl ?_
  refine W.q (Ev.move (.t rfl)) rfl ?_
  refine W.q (Ev.extract (.t rfl) rfl) rfl ?_
  refine W.q (Ev.extract (.t rfl) rfl) rfl ?_
  refine W.alloc ty49 rfl rfl ?_
  intro b4
  (refine W.stb 0 (.t rfl) (.t rfl) rfl ty49 rfl rfl rfl ?_)
  refine W.q (Ev.assign (.t rfl)) rfl ?_
  refine W.nil ?_
  refine W.then ?_
  refine W.seq ?_
  refine W.region ?_
  refine W.callp (c1) ⟨.k, trivial⟩ rfl ?_
  refine W.q (Ev.move (.t rfl)) rfl ?_
  refine W.q (Ev.extract (.t rfl) rfl) rfl ?_
  refine W.q (Ev.extract (.t rfl) rfl) rfl ?_
  refine W.alloc ty49 rfl rfl ?_
  intro b6
  (refine W.stb 0 (.t rfl) (.t rfl) rfl ty49 rfl rfl rfl ?_)
  refine W.q (Ev.assign (.t rfl)) rfl ?_
  refine W.nil ?_
  refine W.then ?_
  refine W.seq ?_
  refine W.drawnE (ι := Unit) (fun ee _ => [.box b6 49 [.int 1, .int 0, .sl 3 []], .box b4 49 (It.al s a).avx.cells, .box b2 49 (bif ee 12 then (It.al s a).avx.cells else [.int 0, .int 0, .lit (.slice none 0 0)])]) 14 () (by kernel_rfl) (by kernel_rfl) rfl ?_
  (refine DE.q (fun e c hk => (Ev.ldbn 1 (.t rfl) rfl ag49 ty49 rfl)) rfl (fun _ _ => rfl) (by (exact .inr (fun _ _ => rfl))) ?_)
  refine DE.q (fun e c hk => (Ev.move (.t rfl))) rfl (fun _ _ => rfl) (by (exact .inr (fun _ _ => rfl))) ?_
  refine DE.q (fun e c hk => (Ev.eqi (.t rfl) .k)) rfl (fun _ _ => rfl) (by (exact .inr (fun _ _ => rfl))) ?_
  refine DE.q (fun e c hk => (Ev.move (.t rfl))) rfl (fun _ _ => rfl) (by (exact .inr (fun _ _ => rfl))) ?_
  refine DE.qg rfl (fun _ => rfl) (fun e c hk => (Ev.move (.t rfl))) rfl (fun _ _ => rfl) (by (exact .inr (fun _ _ => rfl))) ?_
  refine DE.qg rfl (fun _ => rfl) (fun e c hk => (Ev.eqi (.c rfl) .k)) rfl (fun _ _ => rfl) (by (exact .inr (fun _ _ => rfl))) ?_
  refine DE.q (fun e c hk => (Ev.and (.t rfl) ⟨_, _, rfl, rfl, by ((simp; done))⟩)) rfl (fun _ _ => rfl) (by (exact .inr (fun _ _ => rfl))) ?_
  refine DE.q (fun e c hk => (Ev.move (.t rfl))) rfl (fun _ _ => rfl) (by (exact .inr (fun _ _ => rfl))) ?_
  (refine DE.qg rfl (fun _ => rfl) (fun e c hk => (Ev.fab (.t rfl) fa49_0)) rfl (fun _ _ => rfl) (by (exact .inr (fun _ _ => rfl))) ?_)
  (refine DE.qg rfl (fun _ => rfl) (fun e c hk => (Ev.ldb1 0 (.c rfl) rfl ag3 rfl)) rfl (fun _ _ => rfl) (by (exact .inr (fun _ _ => rfl))) ?_)
  refine DE.qg rfl (fun _ => rfl) (fun e c hk => (Ev.eqi (.c rfl) .k)) rfl (fun _ _ => rfl) (by (exact .inr (fun _ _ => rfl))) ?_
  refine DE.q (fun e c hk => (Ev.and (.t rfl) ⟨_, _, rfl, rfl, by ((simp; done))⟩)) rfl (fun _ _ => rfl) (by (exact .inr (fun _ _ => rfl))) ?_
  refine DE.eff0 (fun e c hk L_ hs Q h => ?_) ?_
  · have hk_12 := hk.not
    simp only [addE, hk_12, Nat.reduceAdd, Nat.reduceEqDiff, ↓reduceIte, cond_true, cond_false] at h ⊢
    ((refine W.stb 2 (.t (hs _ _ rfl)) (.t (hs _ _ rfl)) rfl ty49 rfl rfl rfl ?_; exact h))
  refine DE.q (fun e c hk => (Ev.assign (.t rfl))) rfl (fun _ _ => rfl) (by (exact .inr (fun _ _ => rfl))) ?_
  refine DE.nil (fun c_ e_ he_ => ?_)
  simp only [he_ 12 (by decide), cond_true, cond_false]
  refine W.then ?_
  refine W.ret ?_
  refine W.retn (M' := []) (D := _) (rs := [.cell 2 49, .tmp 3]) (avs := [_, _]) Tryd.results16 ⟨⟨_, _, _, rfl, by (exact List.mem_cons_of_mem _ (List.mem_cons_of_mem _ List.mem_cons_self)), rfl, by funext w; exact ag49.run w, by funext w; exact ty49.size w⟩, rfl, trivial⟩ rfl (.refl _) ?_
  exact ⟨rfl, rfl⟩

end WParse3

end Go.Proofs.YtacaemfkdieocaaDoor
end

section
set_option linter.unusedVariables false
set_option linter.unusedSimpArgs false
namespace Go.Vl
/-- a change -/
structure Ch where
  kind : Int
  path : List Int
  node : Nd
abbrev cav (c : Ch) : AV := .agg [.int c.kind, .sl 1 (c.path.map AV.int), .str c.node.name, .sl 2 (c.node.attrs.map dav), .str c.node.text, .sl 4 (c.node.parts.map Nd.av)]
abbrev Ch.dfl : Ch := ⟨0, [], Nd.dflt⟩
namespace Nd
abbrev withP (d : Nd) (q : List Nd) : Nd := mk d.name d.attrs d.text q
/-- x instead of what is at a path -/
def setP : List Nd → List Int → Nd → List Nd
  | l, [], _ => l
  | l, i :: p, x => l.set i.toNat (if p = [] then x else withP (l.getD i.toNat dflt) (setP (l.getD i.toNat dflt).parts p x))
/-- x behind all that is at a path -/
def putP : List Nd → List Int → Nd → List Nd
  | l, [], _ => l
  | l, i :: p, x => if p = [] then l ++ [x] else l.set i.toNat (withP (l.getD i.toNat dflt) (putP (l.getD i.toNat dflt).parts p x))
/-- a path behind all of a tree's: where putP puts -/
def endP : List Nd → List Int → Prop
  | _, [] => False
  | l, k :: p => ∃ i : Nat, k = (i : Int) ∧ ((p = [] ∧ i = l.length) ∨ (p ≠ [] ∧ i < l.length ∧ (l.getD i dflt).name ≠ [] ∧ endP (l.getD i dflt).parts p))
end Nd
section app0
open Go Go.Sem
variable {x : Cx} {L : List En} {M : List ME} {ty : TypeId} {pos : String} {aft : Array Edge}
/-- append onto nil: a row of its own that nothing writes -/
theorem Sv.app0 {d : Tmp} {T T' E k bytes : Nat} {z : Value} {o1 o2 : Operand} {xs : List AV} (h1 : Ov true L o1 (.lit (.slice none 0 0))) (h2 : SrcOv x L M o2 k xs) (hT : x.P.underlying T = some (.slice E)) (hT' : NotInt x.P T') (hE : Ty x.P E k bytes z) (hzk : z.cells.size = k)
    (hb1 : Nat.ble 1 bytes = true) (hb : xs.length * bytes ≤ 140737488355328) : Sv x L M ⟨some d, .call ⟨.builtin .append, #[o1, o2], #[T, T']⟩, ty, pos, aft, none⟩ (.sl k xs) := by
  intro a w hs K Q hK
  have hsrc := h2.src hs
  have e1 : a.eval o1 = .slice none 0 0 := h1.lit rfl hs
  have hb1' := Nat.le_of_ble_eq_true hb1
  have h63 : xs.length ≤ maxLen := by
    have : xs.length ≤ xs.length * bytes := Nat.le_mul_of_pos_right _ hb1'
    simp only [maxLen]; omega
  unfold Oper.wp
  by_cases hx : xs = []
  · subst hx
    obtain ⟨hlen, news, hn1, _, _, hn4⟩ := hsrc
    have hf := hn4 w rfl
    obtain ⟨ii, hi1, hi2, hi3, hi4⟩ := hE
    have hlen' : (Builtin.lenOf (a.eval o2)).run x.P w = .ok 0 w := hlen
    have hf' : (Builtin.firstCells k 0 (a.eval o2)).run x.P w = .ok news w := hf
    have hr : (execOp a.eval ⟨some d, .call ⟨.builtin .append, #[o1, o2], #[T, T']⟩, ty, pos, aft, none⟩).run x.P w = .ok (.value (.slice none 0 0)) w := by
      rcases hT' with ⟨e', hd'⟩ | hd' <;>
        simp [execOp, resolve, invoke, builtin, e1, Builtin.append_, run_underlying hT, run_underlying hd', sizeOf, typeInfo, hi1, hi2, hlen', hf']
    rw [hr]
    exact hK _ _ (fun b c T fr hb hc => ⟨hb, hc⟩) hs.mem hs.fr (Rep.slI (es := []) (Nat.le_refl _) (by simp [maxLen]) (.inl rfl))
  · have hpos : 0 < xs.length := List.length_pos_iff.2 hx
    have hold : Src0 x.P w (bl M ++ x.F) k (.slice none 0 0) [] := src0_cells rfl (.inl rfl)
    obtain ⟨cells, hsz, hrE, hrun⟩ := run_append_new (ty := ty) hT hT' hE hzk hold hsrc.to0 rfl (by omega) (by simpa using hb) hb1'
    simp only [Nat.zero_add, List.nil_append] at hrun hrE hsz
    obtain ⟨hg1, hg2⟩ := cap_cut w xs.length 0 E h63
    have hd1 : St x L M a w.drew := hs.same rfl rfl rfl rfl
    obtain ⟨hs', hk, hnew⟩ := hd1.allocI (.cells cells E)
    have hk0 : Keep w (bl M ++ x.F) (w.drew.alloc (.cells cells E)) (bl M ++ x.F) := hk
    have hr : (execOp a.eval ⟨some d, .call ⟨.builtin .append, #[o1, o2], #[T, T']⟩, ty, pos, aft, none⟩).run x.P w = .ok (.value (.slice (some ⟨w.heap.size, 0, none⟩) xs.length (grownCap w xs.length 0 E))) (w.drew.alloc (.cells cells E)) := by
      simp only [execOp, resolve, invoke, builtin, Sem.run_bind, Sem.run_pure, Result.andThen_ok, List.map_toArray, List.map_cons, List.map_nil, e1, hrun]
    rw [hr]
    refine hK _ _ hk0 hs'.mem hs'.fr ?_
    exact Rep.slI hg1 hg2 (.inr ⟨w.heap.size, 0, cells, E, (0, 0), rfl, hnew, alloc_new w.drew _, RepE.keep hk0 _ _ _ (by simpa using hrE)⟩)
theorem DP.app0 {ops : Array Oper} {R : Act → World → Prop} {rest : List Oper} {done : List En} {d : Tmp} {T T' E k bytes : Nat} {z : Value} {o1 o2 : Operand} {xs : List AV} (h1 : Ov true (sel (Oper.looksAt ops ⟨some d, .call ⟨.builtin .append, #[o1, o2], #[T, T']⟩, ty, pos, aft, none⟩) (done ++ L)) o1 (.lit (.slice none 0 0)))
    (h2 : SrcOv x (sel (Oper.looksAt ops ⟨some d, .call ⟨.builtin .append, #[o1, o2], #[T, T']⟩, ty, pos, aft, none⟩) (done ++ L)) M o2 k xs) (hT : x.P.underlying T = some (.slice E)) (hT' : NotInt x.P T') (hE : Ty x.P E k bytes z) (hzk : z.cells.size = k)
    (hb1 : Nat.ble 1 bytes = true) (hb : xs.length * bytes ≤ 140737488355328) (hd : Nat.blt d x.n = true) (next : DP x M ops L R rest ((d, true, .sl k xs) :: done)) :
    DP x M ops L R (⟨some d, .call ⟨.builtin .append, #[o1, o2], #[T, T']⟩, ty, pos, aft, none⟩ :: rest) done := ⟨d, true, _, rfl, hd, .inl ⟨rfl, rfl⟩, fun _ => Sv.app0 h1 h2 hT hT' hE hzk hb1 hb, next⟩
theorem DE.app0 {ι : Type} {Mf : (Nat → Bool) → ι → List ME} {i0 i : Nat} {ops : Array Oper} {R : Act → World → Prop} {rest : List Oper} {done : ι → List En} {d : Tmp} {T T' E k bytes : Nat} {z : Value} {o1 o2 : Operand} {xs : List AV}
    (h1 : ∀ c, Ov true (sel (Oper.looksAt ops ⟨some d, .call ⟨.builtin .append, #[o1, o2], #[T, T']⟩, ty, pos, aft, none⟩) (done c ++ L)) o1 (.lit (.slice none 0 0)))
    (h2 : ∀ e c, SrcOv x (sel (Oper.looksAt ops ⟨some d, .call ⟨.builtin .append, #[o1, o2], #[T, T']⟩, ty, pos, aft, none⟩) (done c ++ L)) (Mf e c) o2 k xs) (hT : x.P.underlying T = some (.slice E)) (hT' : NotInt x.P T') (hE : Ty x.P E k bytes z) (hzk : z.cells.size = k)
    (hb1 : Nat.ble 1 bytes = true) (hb : xs.length * bytes ≤ 140737488355328) (hdn : Nat.blt d x.n = true)
    (hMf : ∀ e c, Mf (addE e i) c = Mf e c) (next : DE x ops L Mf i0 R (i + 1) rest (fun c => (d, true, .sl k xs) :: done c)) :
    DE x ops L Mf i0 R i (⟨some d, .call ⟨.builtin .append, #[o1, o2], #[T, T']⟩, ty, pos, aft, none⟩ :: rest) done :=
  DE.pure rfl hdn (fun _ => .inl ⟨rfl, rfl⟩) (fun e c _ _ => Sv.app0 (h1 c) (h2 e c) hT hT' hE hzk hb1 hb) hMf (.inr fun _ _ => rfl) next
end app0
end Go.Vl
end

section
set_option linter.unusedVariables false
set_option linter.unusedSimpArgs false
set_option maxRecDepth 100000
namespace Go.Proofs.YtacaemfkdieocaaDoor
open Go.Vl

namespace WMatch2
theorem ty3 : Ty Tryd.prog 3 1 8 (.int .i64 0) := Ty.of (by kernel_rfl)
theorem ag3 : IsAgg Tryd.prog 3 false := ⟨_, Tryd.underlying3, rfl⟩
theorem ni22 : NotInt Tryd.prog 22 := .inl ⟨_, Tryd.underlying22⟩
theorem c_WordOf (l : List Int) (n : Nat) (hl : l.length ≤ 1048576) (hn : n ≤ 1000) : FnP Tryd.prog 9 [.sl 1 (l.map AV.int), .int (n : Int)] (.sl 1 ((wordOf l n).map AV.int)) :=  by
  refine FnC.mk Tryd.func9 (by kernel_rfl) rfl Tryd.ntmps9 rfl (fun w0 F => ?_)
  have hll : (l.map AV.int).length = l.length := List.length_map ..
  refine W.seq ?_
  refine W.region ?_
  refine W.q (Ev.assign .k) rfl ?_
  refine W.nil ?_
  refine W.then ?_
  refine W.seq ?_
  refine W.region ?_
  refine W.q (Ev.assign .k) rfl ?_
  refine W.nil ?_
  refine W.then ?_
  refine W.seq ?_
  refine W.seq ?_
  refine W.region ?_
  refine W.q (Ev.assign .k) rfl ?_
  refine W.nil ?_
  refine W.then ?_
  refine W.block ?_
  refine W.own_nil 3 1 ?_
  refine W.loop (D := []) (ι := Nat × Value) (fun z => [(6, true, .int (z.1 : Int)), (0, true, .sl 1 (l.map AV.int)), (1, true, .int (n : Int)), (5, true, .lit z.2)]) (fun z => [.arr z.2 3 1 (((l.take z.1).map (· % 3)).map AV.int)]) (fun z => z.1 ≤ l.length ∧ z.1 ≤ n) (fun z => l.length - z.1) (0, .slice none 0 0) ⟨rfl, rfl, rfl, rfl, trivial⟩ (.refl _) ⟨Nat.zero_le _, Nat.zero_le _⟩ ?_
  rintro ⟨i, v⟩ ⟨hi, hin⟩
  dsimp only at hi hin ⊢
  rcases (show (i < l.length ∧ i < n) ∨ ¬ (i < l.length ∧ i < n) from by omega) with hlt | hge
  · have hgx := getD_mapG AV.int 0 l i hlt.1
    have hts := take_getDG 0 l i hlt.1
    refine W.seq ?_
    refine W.seq ?_
    refine W.region ?_
    refine W.q (Ev.move (.t rfl)) rfl ?_
    refine W.q (Ev.move (.t rfl)) rfl ?_
    (refine W.q (Ev.lensl (.t rfl) Tryd.underlying22) rfl ?_)
    refine W.q (Ev.lti (.t rfl) (.t rfl)) rfl ?_
    refine W.q (Ev.move (.t rfl)) rfl ?_
    refine W.qgT rfl rfl (Ev.move (.t rfl)) rfl ?_
    refine W.qgT rfl rfl (Ev.move (.t rfl)) rfl ?_
    refine W.qgT rfl rfl (Ev.lti (.c rfl) (.c rfl)) rfl ?_
    refine W.q (Ev.and (.t rfl) ⟨_, _, rfl, rfl, by ((simp; done))⟩) rfl ?_
    refine W.nil ?_
    refine W.then ?_
    refine W.is (t := 15) (g := true) (av' := .lit (.bool true)) rfl (congrArg (fun b => AV.lit (.bool b)) (by simp; omega)) ?_
    refine W.condT (.t rfl) ?_
    refine W.skip ?_
    refine W.then ?_
    refine W.seq ?_
    refine W.block ?_
    refine W.region ?_
    refine W.q (Ev.move (.t rfl)) rfl ?_
    refine W.q (Ev.move (.t rfl)) rfl ?_
    refine W.q (Ev.move (.t rfl)) rfl ?_
    refine W.q (Ev.at (E := 3) (.t rfl) (.t rfl) Tryd.underlying22 ty3 (fun _ => ⟨by omega, hgx⟩) rfl rfl) rfl ?_
    (refine W.q (Ev.lde1 (.t rfl) ag3) rfl ?_)
    refine W.callp (Base.c_Picked (l.getD i 0) 3 (by decide) (by decide)) ⟨(.t rfl), .k, trivial⟩ rfl ?_
    refine W.bs (es := [_]) Tryd.underlying22 ty3 ⟨rfl, (.t rfl), rfl, rfl, trivial⟩ rfl (by decide) rfl rfl ?_
    (refine W.app 0 (.t rfl) rfl (.sl (.t rfl) (by ((simp [AV.okc, shV]; done)))) Tryd.underlying22 ni22 ty3 rfl rfl (by simp; omega) rfl ?_)
    intro v25
    refine W.q (Ev.assign (.t rfl)) rfl ?_
    refine W.nil ?_
    refine W.blk_normal ?_
    refine W.then ?_
    refine W.region ?_
    refine W.q (Ev.move (.t rfl)) rfl ?_
    (refine W.q (Ev.add (.t rfl) .k (fun _ => by omega)) rfl ?_)
    refine W.q (Ev.assign (.t rfl)) rfl ?_
    refine W.nil ?_
    refine W.then ?_
    refine W.reach (D := []) (i + 1, v25) ⟨rfl, rfl, rfl, rfl, trivial⟩ (by rw [hts, List.map_append, List.map_append]; exact .refl _) ⟨⟨by show i + 1 ≤ _; omega, by show i + 1 ≤ _; omega⟩, by show _ - (i + 1) < _; omega⟩
  · have hw : (l.take i).map (· % 3) = wordOf l n := by unfold wordOf; congr 1; rcases (show i = n ∨ i = l.length from by omega) with h | h; rw [h]; rw [h, List.take_length, List.take_of_length_le (by omega)]
    rw [hw]
    refine W.seq ?_
    refine W.seq ?_
    refine W.region ?_
    refine W.q (Ev.move (.t rfl)) rfl ?_
    refine W.q (Ev.move (.t rfl)) rfl ?_
    (refine W.q (Ev.lensl (.t rfl) Tryd.underlying22) rfl ?_)
    refine W.q (Ev.lti (.t rfl) (.t rfl)) rfl ?_
    refine W.q (Ev.move (.t rfl)) rfl ?_
    refine W.qgT rfl rfl (Ev.move (.t rfl)) rfl ?_
    refine W.qgT rfl rfl (Ev.move (.t rfl)) rfl ?_
    refine W.qgT rfl rfl (Ev.lti (.c rfl) (.c rfl)) rfl ?_
    refine W.q (Ev.and (.t rfl) ⟨_, _, rfl, rfl, by ((simp; done))⟩) rfl ?_
    refine W.nil ?_
    refine W.then ?_
    refine W.is (t := 15) (g := true) (av' := .lit (.bool false)) rfl (congrArg (fun b => AV.lit (.bool b)) (by simp; omega)) ?_
    refine W.condF (.t rfl) ?_
    refine W.exit ?_
    refine W.then_exit ?_
    refine W.then_exit ?_
    refine W.blk_hit ?_
    refine W.then ?_
    refine W.seq ?_
    refine W.region ?_
    refine W.q (Ev.move (.t rfl)) rfl ?_
    refine W.q (Ev.assign (.t rfl)) rfl ?_
    refine W.nil ?_
    refine W.then ?_
    refine W.ret ?_
    refine W.freezeA (M1 := []) (M2 := []) (D := []) (v := v) (L' := [(4, true, .sl 1 ((wordOf l n).map AV.int))]) (.refl _) ⟨⟨_, rfl, .one .hit⟩, trivial⟩ (FrzMs.refl _) ?_
    refine W.retn (M' := []) (D := _) (rs := [.tmp 4]) (avs := [_]) Tryd.results9 ⟨rfl, trivial⟩ rfl (.refl _) ?_
    exact ⟨rfl, rfl⟩

end WMatch2

end Go.Proofs.YtacaemfkdieocaaDoor
end

section
set_option linter.unusedVariables false
set_option linter.unusedSimpArgs false
set_option maxRecDepth 100000
namespace Go.Proofs.YtacaemfkdieocaaDoor
open Go.Vl

namespace WWords

theorem c_of (t : List UInt8) (s : List It) (a : List (List It)) (hs : It.oks s) (ha : It.oka a) (e : t = It.stx s ++ It.atl a) (hl : t.length ≤ 40) : FnP Tryd.prog 16 [.str t] (.tup [(It.al s a).avx, .bool true]) := by
  subst e
  exact WParse3.c_exprOf s a hs ha hl

end WWords

end Go.Proofs.YtacaemfkdieocaaDoor
end

section
set_option linter.unusedVariables false
set_option linter.unusedSimpArgs false
set_option maxRecDepth 100000
namespace Go.Proofs.YtacaemfkdieocaaDoor
open Go.Vl

namespace WConts
theorem ty3 : Ty Tryd.prog 3 1 8 (.int .i64 0) := Ty.of (by kernel_rfl)
theorem ty22 : Ty Tryd.prog 22 1 24 (.slice none 0 0) := Ty.of (by kernel_rfl)
theorem ag3 : IsAgg Tryd.prog 3 false := ⟨_, Tryd.underlying3, rfl⟩
theorem ag22 : IsAgg Tryd.prog 22 false := ⟨_, Tryd.underlying22, rfl⟩
theorem c_IndexFuncI (l : List Int) (g : Nat) (caps : List Value) (M0 : List ME) (p : Int → Bool) (hg : ∀ d ∈ l, FnC Tryd.prog g ([AV.int d] ++ caps.map .lit) M0 (fun r M => r = .bool (p d) ∧ M = M0)) (hn : l.length ≤ 1099511627776) : FnC Tryd.prog 47 [.sl 1 (l.map AV.int), .lit (.func (.func g) #[] caps.toArray)] M0 (fun r M => r = .int (idxI p l) ∧ M = M0) :=  by
  refine FnC.mk Tryd.func47 (by kernel_rfl) rfl Tryd.ntmps47 rfl (fun w0 F => ?_)
  have hnl : (l.map AV.int).length = l.length := List.length_map ..
  refine W.seq ?_
  refine W.region ?_
  refine W.q (Ev.assign .k) rfl ?_
  refine W.nil ?_
  refine W.then ?_
  refine W.seq ?_
  refine W.seq ?_
  refine W.region ?_
  refine W.q (Ev.move (.t rfl)) rfl ?_
  (refine W.q (Ev.lensl (.t rfl) Tryd.underlying22) rfl ?_)
  refine W.q (Ev.move .k) rfl ?_
  refine W.nil ?_
  refine W.then ?_
  refine W.block ?_
  refine W.loop (D := []) (ι := Nat) (fun i => [(8, true, .int (i : Int)), (7, true, .int ((l.map AV.int).length : Int)), (0, true, .sl 1 (l.map AV.int)), (1, true, .lit (.func (.func g) #[] caps.toArray))]) (fun _ => M0) (fun i => i ≤ l.length ∧ ∀ d ∈ l.take i, p d = false) (fun i => l.length - i) 0 ⟨rfl, rfl, rfl, rfl, trivial⟩ (List.Perm.of_eq (List.append_nil _).symm) ⟨Nat.zero_le _, by simp⟩ ?_
  rintro i ⟨hi1, hi2⟩
  dsimp only at hi1 hi2 ⊢
  rcases (show i < l.length ∨ i = l.length from by omega) with hlt | hend
  · have hga := getD_mapG AV.int 0 l i hlt
    refine W.seq ?_
    refine W.region ?_
    refine W.q (Ev.lti (.t rfl) (.t rfl)) rfl ?_
    refine W.nil ?_
    refine W.then ?_
    refine W.seq ?_
    refine W.is (t := 9) (g := true) (av' := .lit (.bool true)) rfl (congrArg (fun b => AV.lit (.bool b)) (by simp; omega)) ?_
    refine W.condT (.t rfl) ?_
    refine W.skip ?_
    refine W.then ?_
    refine W.seq ?_
    refine W.block ?_
    refine W.seq ?_
    refine W.region ?_
    refine W.q (Ev.move (.t rfl)) rfl ?_
    refine W.q (Ev.assign (.t rfl)) rfl ?_
    refine W.nil ?_
    refine W.then ?_
    refine W.seq ?_
    refine W.region ?_
    refine W.q (Ev.move (.t rfl)) rfl ?_
    refine W.q (Ev.move (.t rfl)) rfl ?_
    refine W.q (Ev.move (.t rfl)) rfl ?_
    refine W.q (Ev.at (E := 3) (.t rfl) (.t rfl) Tryd.underlying22 ty3 (fun _ => ⟨by omega, hga⟩) rfl rfl) rfl ?_
    (refine W.q (Ev.lde1 (.t rfl) ag3) rfl ?_)
    refine W.callv (caps := caps) (avs := [_]) (hg (l.getD i 0) (getD_memG 0 l i hlt)) (.t rfl) ⟨(.t rfl), trivial⟩ rfl ((List.Perm.of_eq (List.append_nil _).symm)) rfl ?_
    rintro _ M' ⟨rfl, hM⟩
    rw [hM, List.append_nil]
    refine W.nil ?_
    refine W.then ?_
    refine W.cond (.t rfl) (fun hc_t16 => ?_) (fun hc_t16 => ?_)
    · have hq := idxI_hit p 0 l i hlt hi2 hc_t16
      refine W.seq ?_
      refine W.region ?_
      refine W.q (Ev.move (.t rfl)) rfl ?_
      refine W.q (Ev.assign (.t rfl)) rfl ?_
      refine W.nil ?_
      refine W.then ?_
      refine W.ret ?_
      refine W.blk_ret ?_
      refine W.then_ret ?_
      refine W.then_ret ?_
      refine W.blk_ret ?_
      refine W.then_ret ?_
      refine W.retn (M' := M0) (D := []) (rs := [.tmp 4]) (avs := [_]) Tryd.results47 ⟨rfl, trivial⟩ rfl (List.Perm.of_eq (List.append_nil _).symm) ?_
      exact ⟨congrArg AV.int (by rw [hq]), rfl⟩
    · have hq : p (l.getD i 0) = false := hc_t16
      refine W.skip ?_
      refine W.blk_normal ?_
      refine W.then ?_
      refine W.region ?_
      (refine W.q (Ev.add (.t rfl) .k (fun _ => by omega)) rfl ?_)
      refine W.q (Ev.move (.t rfl)) rfl ?_
      refine W.nil ?_
      refine W.then ?_
      refine W.reach (D := []) (i + 1) ⟨rfl, rfl, rfl, rfl, trivial⟩ (List.Perm.of_eq (List.append_nil _).symm) ⟨⟨by omega, ?_⟩, by omega⟩
      rw [take_getDG 0 l i hlt]
      intro d hd
      cases List.mem_append.1 hd with
      | inl h => exact hi2 d h
      | inr h => rw [List.mem_singleton.1 h]; exact hq
  · rw [List.take_of_length_le (by omega)] at hi2
    have hq := idxI_miss p l hi2
    refine W.seq ?_
    refine W.region ?_
    refine W.q (Ev.lti (.t rfl) (.t rfl)) rfl ?_
    refine W.nil ?_
    refine W.then ?_
    refine W.seq ?_
    refine W.is (t := 9) (g := true) (av' := .lit (.bool false)) rfl (congrArg (fun b => AV.lit (.bool b)) (by simp; omega)) ?_
    refine W.condF (.t rfl) ?_
    refine W.exit ?_
    refine W.then_exit ?_
    refine W.then_exit ?_
    refine W.blk_hit ?_
    refine W.then ?_
    refine W.seq ?_
    refine W.region ?_
    refine W.q (Ev.assign .k) rfl ?_
    refine W.nil ?_
    refine W.then ?_
    refine W.ret ?_
    refine W.retn (M' := M0) (D := []) (rs := [.tmp 4]) (avs := [_]) Tryd.results47 ⟨rfl, trivial⟩ rfl (List.Perm.of_eq (List.append_nil _).symm) ?_
    exact ⟨congrArg AV.int (by rw [hq]), rfl⟩

theorem c_ContainsFuncI (l : List Int) (g : Nat) (caps : List Value) (M0 : List ME) (p : Int → Bool) (hg : ∀ d ∈ l, FnC Tryd.prog g ([AV.int d] ++ caps.map .lit) M0 (fun r M => r = .bool (p d) ∧ M = M0)) (hn : l.length ≤ 1099511627776) : FnC Tryd.prog 31 [.sl 1 (l.map AV.int), .lit (.func (.func g) #[] caps.toArray)] M0 (fun r M => r = .bool (l.any p) ∧ M = M0) :=  by
  refine FnC.mk Tryd.func31 (by kernel_rfl) rfl Tryd.ntmps31 rfl (fun w0 F => ?_)
  refine W.seq ?_
  refine W.region ?_
  refine W.q (Ev.assign .k) rfl ?_
  refine W.nil ?_
  refine W.then ?_
  refine W.seq ?_
  refine W.region ?_
  refine W.q (Ev.move (.t rfl)) rfl ?_
  refine W.q (Ev.move (.t rfl)) rfl ?_
  refine W.call (c_IndexFuncI l g caps M0 p hg hn) ⟨(.t rfl), (.t rfl), trivial⟩ ((List.Perm.of_eq (List.append_nil _).symm)) rfl ?_
  rintro _ M' ⟨rfl, hM⟩
  rw [hM, List.append_nil]
  refine W.q (Ev.gei (.t rfl) .k) rfl ?_
  refine W.q (Ev.assign (.t rfl)) rfl ?_
  refine W.nil ?_
  refine W.then ?_
  refine W.ret ?_
  refine W.retn (M' := M0) (D := []) (rs := [.tmp 4]) (avs := [_]) Tryd.results31 ⟨rfl, trivial⟩ rfl (List.Perm.of_eq (List.append_nil _).symm) ?_
  exact ⟨congrArg AV.bool (idxI_any p l), rfl⟩

theorem c_IndexFuncR (l : List (List Int)) (g : Nat) (caps : List Value) (M0 : List ME) (p : (List Int) → Bool) (hg : ∀ d ∈ l, FnC Tryd.prog g ([pav d] ++ caps.map .lit) M0 (fun r M => r = .bool (p d) ∧ M = M0)) (hn : l.length ≤ 1099511627776) : FnC Tryd.prog 46 [.sl 1 (l.map pav), .lit (.func (.func g) #[] caps.toArray)] M0 (fun r M => r = .int (idxI p l) ∧ M = M0) :=  by
  refine FnC.mk Tryd.func46 (by kernel_rfl) rfl Tryd.ntmps46 rfl (fun w0 F => ?_)
  have hnl : (l.map pav).length = l.length := List.length_map ..
  refine W.seq ?_
  refine W.region ?_
  refine W.q (Ev.assign .k) rfl ?_
  refine W.nil ?_
  refine W.then ?_
  refine W.seq ?_
  refine W.seq ?_
  refine W.region ?_
  refine W.q (Ev.move (.t rfl)) rfl ?_
  (refine W.q (Ev.lensl (.t rfl) Tryd.underlying25) rfl ?_)
  refine W.q (Ev.move .k) rfl ?_
  refine W.nil ?_
  refine W.then ?_
  refine W.block ?_
  refine W.loop (D := []) (ι := Nat) (fun i => [(8, true, .int (i : Int)), (7, true, .int ((l.map pav).length : Int)), (0, true, .sl 1 (l.map pav)), (1, true, .lit (.func (.func g) #[] caps.toArray))]) (fun _ => M0) (fun i => i ≤ l.length ∧ ∀ d ∈ l.take i, p d = false) (fun i => l.length - i) 0 ⟨rfl, rfl, rfl, rfl, trivial⟩ (List.Perm.of_eq (List.append_nil _).symm) ⟨Nat.zero_le _, by simp⟩ ?_
  rintro i ⟨hi1, hi2⟩
  dsimp only at hi1 hi2 ⊢
  rcases (show i < l.length ∨ i = l.length from by omega) with hlt | hend
  · have hga := getD_mapG pav [] l i hlt
    refine W.seq ?_
    refine W.region ?_
    refine W.q (Ev.lti (.t rfl) (.t rfl)) rfl ?_
    refine W.nil ?_
    refine W.then ?_
    refine W.seq ?_
    refine W.is (t := 9) (g := true) (av' := .lit (.bool true)) rfl (congrArg (fun b => AV.lit (.bool b)) (by simp; omega)) ?_
    refine W.condT (.t rfl) ?_
    refine W.skip ?_
    refine W.then ?_
    refine W.seq ?_
    refine W.block ?_
    refine W.seq ?_
    refine W.region ?_
    refine W.q (Ev.move (.t rfl)) rfl ?_
    refine W.q (Ev.assign (.t rfl)) rfl ?_
    refine W.nil ?_
    refine W.then ?_
    refine W.seq ?_
    refine W.region ?_
    refine W.q (Ev.move (.t rfl)) rfl ?_
    refine W.q (Ev.move (.t rfl)) rfl ?_
    refine W.q (Ev.move (.t rfl)) rfl ?_
    refine W.q (Ev.at (E := 22) (.t rfl) (.t rfl) Tryd.underlying25 ty22 (fun _ => ⟨by omega, hga⟩) rfl rfl) rfl ?_
    (refine W.q (Ev.lde1 (.t rfl) ag22) rfl ?_)
    refine W.callv (caps := caps) (avs := [_]) (hg (l.getD i []) (getD_memG [] l i hlt)) (.t rfl) ⟨(.t rfl), trivial⟩ rfl ((List.Perm.of_eq (List.append_nil _).symm)) rfl ?_
    rintro _ M' ⟨rfl, hM⟩
    rw [hM, List.append_nil]
    refine W.nil ?_
    refine W.then ?_
    refine W.cond (.t rfl) (fun hc_t16 => ?_) (fun hc_t16 => ?_)
    · have hq := idxI_hit p [] l i hlt hi2 hc_t16
      refine W.seq ?_
      refine W.region ?_
      refine W.q (Ev.move (.t rfl)) rfl ?_
      refine W.q (Ev.assign (.t rfl)) rfl ?_
      refine W.nil ?_
      refine W.then ?_
      refine W.ret ?_
      refine W.blk_ret ?_
      refine W.then_ret ?_
      refine W.then_ret ?_
      refine W.blk_ret ?_
      refine W.then_ret ?_
      refine W.retn (M' := M0) (D := []) (rs := [.tmp 4]) (avs := [_]) Tryd.results46 ⟨rfl, trivial⟩ rfl (List.Perm.of_eq (List.append_nil _).symm) ?_
      exact ⟨congrArg AV.int (by rw [hq]), rfl⟩
    · have hq : p (l.getD i []) = false := hc_t16
      refine W.skip ?_
      refine W.blk_normal ?_
      refine W.then ?_
      refine W.region ?_
      (refine W.q (Ev.add (.t rfl) .k (fun _ => by omega)) rfl ?_)
      refine W.q (Ev.move (.t rfl)) rfl ?_
      refine W.nil ?_
      refine W.then ?_
      refine W.reach (D := []) (i + 1) ⟨rfl, rfl, rfl, rfl, trivial⟩ (List.Perm.of_eq (List.append_nil _).symm) ⟨⟨by omega, ?_⟩, by omega⟩
      rw [take_getDG [] l i hlt]
      intro d hd
      cases List.mem_append.1 hd with
      | inl h => exact hi2 d h
      | inr h => rw [List.mem_singleton.1 h]; exact hq
  · rw [List.take_of_length_le (by omega)] at hi2
    have hq := idxI_miss p l hi2
    refine W.seq ?_
    refine W.region ?_
    refine W.q (Ev.lti (.t rfl) (.t rfl)) rfl ?_
    refine W.nil ?_
    refine W.then ?_
    refine W.seq ?_
    refine W.is (t := 9) (g := true) (av' := .lit (.bool false)) rfl (congrArg (fun b => AV.lit (.bool b)) (by simp; omega)) ?_
    refine W.condF (.t rfl) ?_
    refine W.exit ?_
    refine W.then_exit ?_
    refine W.then_exit ?_
    refine W.blk_hit ?_
    refine W.then ?_
    refine W.seq ?_
    refine W.region ?_
    refine W.q (Ev.assign .k) rfl ?_
    refine W.nil ?_
    refine W.then ?_
    refine W.ret ?_
    refine W.retn (M' := M0) (D := []) (rs := [.tmp 4]) (avs := [_]) Tryd.results46 ⟨rfl, trivial⟩ rfl (List.Perm.of_eq (List.append_nil _).symm) ?_
    exact ⟨congrArg AV.int (by rw [hq]), rfl⟩

theorem c_ContainsFuncR (l : List (List Int)) (g : Nat) (caps : List Value) (M0 : List ME) (p : (List Int) → Bool) (hg : ∀ d ∈ l, FnC Tryd.prog g ([pav d] ++ caps.map .lit) M0 (fun r M => r = .bool (p d) ∧ M = M0)) (hn : l.length ≤ 1099511627776) : FnC Tryd.prog 29 [.sl 1 (l.map pav), .lit (.func (.func g) #[] caps.toArray)] M0 (fun r M => r = .bool (l.any p) ∧ M = M0) :=  by
  refine FnC.mk Tryd.func29 (by kernel_rfl) rfl Tryd.ntmps29 rfl (fun w0 F => ?_)
  refine W.seq ?_
  refine W.region ?_
  refine W.q (Ev.assign .k) rfl ?_
  refine W.nil ?_
  refine W.then ?_
  refine W.seq ?_
  refine W.region ?_
  refine W.q (Ev.move (.t rfl)) rfl ?_
  refine W.q (Ev.move (.t rfl)) rfl ?_
  refine W.call (c_IndexFuncR l g caps M0 p hg hn) ⟨(.t rfl), (.t rfl), trivial⟩ ((List.Perm.of_eq (List.append_nil _).symm)) rfl ?_
  rintro _ M' ⟨rfl, hM⟩
  rw [hM, List.append_nil]
  refine W.q (Ev.gei (.t rfl) .k) rfl ?_
  refine W.q (Ev.assign (.t rfl)) rfl ?_
  refine W.nil ?_
  refine W.then ?_
  refine W.ret ?_
  refine W.retn (M' := M0) (D := []) (rs := [.tmp 4]) (avs := [_]) Tryd.results29 ⟨rfl, trivial⟩ rfl (List.Perm.of_eq (List.append_nil _).symm) ?_
  exact ⟨congrArg AV.bool (idxI_any p l), rfl⟩

end WConts

end Go.Proofs.YtacaemfkdieocaaDoor
end
