/-
  Items, sequences and alternatives that are read.
-/
import Derived.Test.YthhkionhimbekaaWParse1
import Derived.Test.YthhkionhimbekaaWIndex
set_option linter.unusedVariables false
set_option linter.unusedSimpArgs false
set_option maxRecDepth 100000
namespace Go.Proofs.Ythhkionhimbekaa
open Go.Vl

namespace WParse2
theorem ty3 : Ty Try.prog 3 1 8 (.int .i64 0) := Ty.of (by kernel_rfl)
theorem ty4 : Ty Try.prog 4 1 1 (.bool false) := Ty.of (by kernel_rfl)
theorem ty9 : Ty Try.prog 9 1 16 (.string ⟨#[]⟩) := Ty.of (by kernel_rfl)
theorem ty26 : Ty Try.prog 26 1 24 (.slice none 0 0) := Ty.of (by kernel_rfl)
theorem ty28 : Ty Try.prog 28 3 40 (.agg #[.int .i64 0, .int .i64 0, .slice none 0 0]) := Ty.of (by kernel_rfl)
theorem ag4 : IsAgg Try.prog 4 false := ⟨_, Try.underlying4, rfl⟩
theorem ag9 : IsAgg Try.prog 9 false := ⟨_, Try.underlying9, rfl⟩
theorem ag28 : IsAgg Try.prog 28 true := ⟨_, Try.underlying28, rfl⟩
theorem fa51_0 : FieldAt Try.prog 51 0 0 1 false := ⟨_, _, Try.underlying51, rfl, rfl, ty9.size, ag9, by decide⟩
theorem fa51_1 : FieldAt Try.prog 51 1 1 1 false := ⟨_, _, Try.underlying51, rfl, rfl, ty4.size, ag4, by decide⟩
theorem st28 : StructAt Try.prog 28 [(0, 1), (1, 1), (2, 1)] := ⟨_, Try.underlying28, rfl, ty3.size, rfl, ty3.size, rfl, ty26.size, trivial⟩
theorem ni26 : NotInt Try.prog 26 := .inl ⟨_, Try.underlying26⟩
theorem c_item_ch (b n : Nat) (sf : List Nat) (r : List UInt8) (hn : n < 8) (hsf : ∀ k ∈ sf, k < 3) (hr : It.endI r) : FnC Try.prog 37 [.lit (.pointer (some ⟨b, 0, none⟩))] [.box b 51 [.str (It.tx (.ch n sf) ++ r), .bool false]] (fun x M => x = (It.ev (.ch n sf)).avx ∧ M = [.box b 51 [.str (r), .bool false]]) :=  by
  refine FnC.mk Try.func37 (by kernel_rfl) rfl Try.ntmps37 rfl (fun w0 F => ?_)
  rw [It.tx, List.cons_append]
  have hcn := It.ch_nat n hn
  generalize 97 + UInt8.ofNat n = c0 at hcn ⊢
  refine W.seq ?_
  refine W.region ?_
  refine W.alloc ty28 rfl rfl ?_
  intro b2
  refine W.nil ?_
  refine W.then ?_
  refine W.seq ?_
  refine W.region ?_
  refine W.q (Ev.move (.t rfl)) rfl ?_
  refine W.q (Ev.nilc (.t rfl)) rfl ?_
  first | refine W.q (Ev.fae (.t rfl) fa51_0 rfl) rfl ?_ | refine W.q (Ev.fab (.t rfl) fa51_0) rfl ?_ | refine W.q (Ev.faa (.t rfl) fa51_0) rfl ?_
  first | refine W.q (Ev.lde1 (.t rfl) ag9) rfl ?_ | refine W.q (Ev.ldb1 0 (.t rfl) rfl ag9 rfl) rfl ?_ | refine W.q (Ev.ldb1 1 (.t rfl) rfl ag9 rfl) rfl ?_ | refine W.q (Ev.ldb1 2 (.t rfl) rfl ag9 rfl) rfl ?_ | refine W.q (Ev.ldb1 3 (.t rfl) rfl ag9 rfl) rfl ?_
  refine W.q (Ev.ats (b := c0) (.t rfl) .k Try.underlying9 (fun _ => ⟨by decide, rfl⟩)) rfl ?_
  refine W.q (Ev.assign (.t rfl)) rfl ?_
  refine W.nil ?_
  refine W.then ?_
  refine W.seq ?_
  refine W.region ?_
  refine W.q (Ev.move (.t rfl)) rfl ?_
  refine W.q (Ev.move (.t rfl)) rfl ?_
  refine W.q (Ev.nilc (.t rfl)) rfl ?_
  first | refine W.q (Ev.fae (.t rfl) fa51_0 rfl) rfl ?_ | refine W.q (Ev.fab (.t rfl) fa51_0) rfl ?_ | refine W.q (Ev.faa (.t rfl) fa51_0) rfl ?_
  first | refine W.q (Ev.lde1 (.t rfl) ag9) rfl ?_ | refine W.q (Ev.ldb1 0 (.t rfl) rfl ag9 rfl) rfl ?_ | refine W.q (Ev.ldb1 1 (.t rfl) rfl ag9 rfl) rfl ?_ | refine W.q (Ev.ldb1 2 (.t rfl) rfl ag9 rfl) rfl ?_ | refine W.q (Ev.ldb1 3 (.t rfl) rfl ag9 rfl) rfl ?_
  refine W.q (Ev.subs (lo := some (.const (.int .i64 1))) (hi := none) (.t rfl) Try.underlying9 (Ov.k (g := true) (L := [])) rfl (fun _ => by simp only [List.length_cons]; omega)) rfl ?_
  refine W.is (t := 16) (g := true) (av' := .str (sf.map sg ++ r)) rfl (congrArg AV.str (It.tail1 _ _)) ?_
  refine W.q (Ev.nilc (.t rfl)) rfl ?_
  first | refine W.q (Ev.fae (.t rfl) fa51_0 rfl) rfl ?_ | refine W.q (Ev.fab (.t rfl) fa51_0) rfl ?_ | refine W.q (Ev.faa (.t rfl) fa51_0) rfl ?_
  first | refine W.stb 0 (.t rfl) (.t rfl) rfl ty9 rfl rfl rfl ?_ | refine W.stb 1 (.t rfl) (.t rfl) rfl ty9 rfl rfl rfl ?_ | refine W.stb 2 (.t rfl) (.t rfl) rfl ty9 rfl rfl rfl ?_ | refine W.stb 3 (.t rfl) (.t rfl) rfl ty9 rfl rfl rfl ?_
  refine W.nil ?_
  refine W.then ?_
  refine W.seq ?_
  refine W.region ?_
  refine W.alloc ty28 rfl rfl ?_
  intro b4
  refine W.nil ?_
  refine W.then ?_
  refine W.seq ?_
  refine W.block ?_
  refine W.seq ?_
  refine W.region ?_
  refine W.q (Ev.move (.t rfl)) rfl ?_
  refine W.q (Ev.gei (.t rfl) .k) rfl ?_
  refine W.q (Ev.move (.t rfl)) rfl ?_
  refine W.qgT rfl rfl (Ev.move (.t rfl)) rfl ?_
  refine W.qgT rfl rfl (Ev.lei (.c rfl) .k) rfl ?_
  refine W.q (Ev.and (.t rfl) ⟨_, _, rfl, rfl, by first | (simp; done) | (intro hg_ hp_; simp [hp_]; done) | (simp <;> omega; done) | (simp_all; done) | grind⟩) rfl ?_
  refine W.q (Ev.assign (.t rfl)) rfl ?_
  refine W.nil ?_
  refine W.then ?_
  refine W.is (t := 22) (g := true) (av' := .lit (.bool true)) rfl (congrArg (fun b => AV.lit (.bool b)) (by simp; omega)) ?_
  refine W.condT (.t rfl) ?_
  refine W.region ?_
  refine W.q (Ev.move (.t rfl)) rfl ?_
  refine W.q (Ev.subw (.t rfl) .k) rfl ?_
  refine W.is (t := 30) (g := true) (av' := .lit (.int .u8 (n : Int))) rfl (congrArg (fun z => AV.lit (.int .u8 z)) (by rw [hcn]; simp [IntKind.wrap, IntKind.signed, IntKind.bits]; omega)) ?_
  first | refine W.q (Ev.conv64 (.t rfl) ⟨_, Try.underlying5⟩ Try.underlying3 (fun _ => by omega)) rfl ?_ | refine W.q (Ev.conv (.t rfl) ⟨_, Try.underlying5⟩ Try.underlying3) rfl ?_
  refine W.q (Ev.build ty28 st28 rfl (fun hg => ⟨_, _, _, rfl, .k, rfl, rfl, rfl, _, _, _, rfl, (.t rfl), rfl, rfl, rfl, rfl⟩)) rfl ?_
  refine W.nils (t := 32) (g := true) (cs' := [.int 1, .int (n : Int), .sl 3 []]) rfl ⟨.inl rfl, .inl rfl, .inr ⟨rfl, 3, rfl⟩, trivial⟩ ?_
  first | refine W.stb 0 (.t rfl) (.t rfl) rfl ty28 rfl rfl rfl ?_ | refine W.stb 1 (.t rfl) (.t rfl) rfl ty28 rfl rfl rfl ?_ | refine W.stb 2 (.t rfl) (.t rfl) rfl ty28 rfl rfl rfl ?_ | refine W.stb 3 (.t rfl) (.t rfl) rfl ty28 rfl rfl rfl ?_
  refine W.nil ?_
  refine W.blk_normal ?_
  refine W.then ?_
  refine W.seq ?_
  refine W.block ?_
  refine W.loop (D := []) (ι := Nat) (fun k => [(0, true, .lit (.pointer (some ⟨b, 0, none⟩))), (4, true, .lit (.pointer (some ⟨b4, 0, none⟩))), (2, true, .lit (.pointer (some ⟨b2, 0, none⟩)))]) (fun k => [.box b4 28 (Ex.sfe (.mk 1 (n : Int) []) (sf.take k)).avx.cells, .box b2 28 [.int 0, .int 0, .lit (.slice none 0 0)], .box b 51 [.str ((sf.drop k).map sg ++ r), .bool false]]) (fun k => k ≤ sf.length) (fun k => sf.length - k) 0 ⟨rfl, rfl, rfl, trivial⟩ (.refl _) (Nat.zero_le _) ?_
  intro k hk
  dsimp only at hk ⊢
  rcases (show k < sf.length ∨ (k = sf.length ∧ r = []) ∨ (k = sf.length ∧ ∃ c t, r = c :: t) from by
    rcases Nat.lt_or_ge k sf.length with h | h
    · exact .inl h
    · cases r with
      | nil => exact .inr (.inl ⟨by omega, rfl⟩)
      | cons c t => exact .inr (.inr ⟨by omega, c, t, rfl⟩)) with hlt | ⟨hend, hr0⟩ | ⟨hend, c, t, hr0⟩
  · rw [It.sfdrop sf k hlt r]
    have hk3 := hsf _ (getD_memG 0 sf k hlt)
    have hsn := Ex.sfe_snoc (.mk 1 (n : Int) []) sf k hlt
    generalize hkk : sf.getD k 0 = kk at hk3 hsn ⊢
    refine W.seq ?_
    refine W.seq ?_
    refine W.region ?_
    refine W.q (Ev.move (.t rfl)) rfl ?_
    refine W.q (Ev.nilc (.t rfl)) rfl ?_
    first | refine W.q (Ev.fae (.t rfl) fa51_0 rfl) rfl ?_ | refine W.q (Ev.fab (.t rfl) fa51_0) rfl ?_ | refine W.q (Ev.faa (.t rfl) fa51_0) rfl ?_
    first | refine W.q (Ev.lde1 (.t rfl) ag9) rfl ?_ | refine W.q (Ev.ldb1 0 (.t rfl) rfl ag9 rfl) rfl ?_ | refine W.q (Ev.ldb1 1 (.t rfl) rfl ag9 rfl) rfl ?_ | refine W.q (Ev.ldb1 2 (.t rfl) rfl ag9 rfl) rfl ?_ | refine W.q (Ev.ldb1 3 (.t rfl) rfl ag9 rfl) rfl ?_
    refine W.q (Ev.nes (.t rfl) .k) rfl ?_
    refine W.nil ?_
    refine W.then ?_
    refine W.is (t := 54) (g := true) (av' := .lit (.bool true)) rfl (congrArg (fun b => AV.lit (.bool b)) (by rfl)) ?_
    refine W.condT (.t rfl) ?_
    refine W.skip ?_
    refine W.then ?_
    refine W.block ?_
    refine W.seq ?_
    refine W.region ?_
    refine W.q (Ev.move (.t rfl)) rfl ?_
    refine W.q (Ev.nilc (.t rfl)) rfl ?_
    first | refine W.q (Ev.fae (.t rfl) fa51_0 rfl) rfl ?_ | refine W.q (Ev.fab (.t rfl) fa51_0) rfl ?_ | refine W.q (Ev.faa (.t rfl) fa51_0) rfl ?_
    first | refine W.q (Ev.lde1 (.t rfl) ag9) rfl ?_ | refine W.q (Ev.ldb1 0 (.t rfl) rfl ag9 rfl) rfl ?_ | refine W.q (Ev.ldb1 1 (.t rfl) rfl ag9 rfl) rfl ?_ | refine W.q (Ev.ldb1 2 (.t rfl) rfl ag9 rfl) rfl ?_ | refine W.q (Ev.ldb1 3 (.t rfl) rfl ag9 rfl) rfl ?_
    refine W.q (Ev.ats (b := sg kk) (.t rfl) .k Try.underlying9 (fun _ => ⟨by decide, rfl⟩)) rfl ?_
    refine W.callp (WIndex.c_IndexByte [42, 43, 63] (sg kk)) ⟨.k, (.t rfl), trivial⟩ rfl ?_
    refine W.q (Ev.assign (.t rfl)) rfl ?_
    refine W.nil ?_
    refine W.then ?_
    refine W.seq ?_
    refine W.seq ?_
    refine W.region ?_
    refine W.q (Ev.move (.t rfl)) rfl ?_
    refine W.q (Ev.lti (.t rfl) .k) rfl ?_
    refine W.nil ?_
    refine W.then ?_
    refine W.is (t := 62) (g := true) (av' := .lit (.bool false)) rfl (congrArg (fun b => AV.lit (.bool b)) (by rw [It.sg_idx kk hk3]; exact decide_eq_false (by omega))) ?_
    refine W.condF (.t rfl) ?_
    refine W.skip ?_
    refine W.then ?_
    refine W.seq ?_
    refine W.region ?_
    refine W.q (Ev.move (.t rfl)) rfl ?_
    refine W.q (Ev.move (.t rfl)) rfl ?_
    refine W.q (Ev.nilc (.t rfl)) rfl ?_
    first | refine W.q (Ev.fae (.t rfl) fa51_0 rfl) rfl ?_ | refine W.q (Ev.fab (.t rfl) fa51_0) rfl ?_ | refine W.q (Ev.faa (.t rfl) fa51_0) rfl ?_
    first | refine W.q (Ev.lde1 (.t rfl) ag9) rfl ?_ | refine W.q (Ev.ldb1 0 (.t rfl) rfl ag9 rfl) rfl ?_ | refine W.q (Ev.ldb1 1 (.t rfl) rfl ag9 rfl) rfl ?_ | refine W.q (Ev.ldb1 2 (.t rfl) rfl ag9 rfl) rfl ?_ | refine W.q (Ev.ldb1 3 (.t rfl) rfl ag9 rfl) rfl ?_
    refine W.q (Ev.subs (lo := some (.const (.int .i64 1))) (hi := none) (.t rfl) Try.underlying9 (Ov.k (g := true) (L := [])) rfl (fun _ => by simp only [List.length_cons]; omega)) rfl ?_
    refine W.is (t := 68) (g := true) (av' := .str ((sf.drop (k + 1)).map sg ++ r)) rfl (congrArg AV.str (It.tail1 _ _)) ?_
    refine W.q (Ev.nilc (.t rfl)) rfl ?_
    first | refine W.q (Ev.fae (.t rfl) fa51_0 rfl) rfl ?_ | refine W.q (Ev.fab (.t rfl) fa51_0) rfl ?_ | refine W.q (Ev.faa (.t rfl) fa51_0) rfl ?_
    first | refine W.stb 0 (.t rfl) (.t rfl) rfl ty9 rfl rfl rfl ?_ | refine W.stb 1 (.t rfl) (.t rfl) rfl ty9 rfl rfl rfl ?_ | refine W.stb 2 (.t rfl) (.t rfl) rfl ty9 rfl rfl rfl ?_ | refine W.stb 3 (.t rfl) (.t rfl) rfl ty9 rfl rfl rfl ?_
    refine W.nil ?_
    refine W.then ?_
    refine W.region ?_
    refine W.q (Ev.move (.t rfl)) rfl ?_
    refine W.is (t := 71) (g := true) (av' := .int (kk : Int)) rfl (congrArg AV.int (It.sg_idx kk hk3)) ?_
    first | refine W.q (Ev.add .k (.t rfl) (fun _ => by omega)) rfl ?_ | refine W.q (Ev.addw .k (.t rfl)) rfl ?_
    first | refine W.q (Ev.lden (.t rfl) ag28 ty28 rfl rfl) rfl ?_ | refine W.q (Ev.ldbn 0 (.t rfl) rfl ag28 ty28 rfl) rfl ?_ | refine W.q (Ev.ldbn 1 (.t rfl) rfl ag28 ty28 rfl) rfl ?_ | refine W.q (Ev.ldbn 2 (.t rfl) rfl ag28 ty28 rfl) rfl ?_ | refine W.q (Ev.ldbn 3 (.t rfl) rfl ag28 ty28 rfl) rfl ?_
    refine W.bs (es := [_]) Try.underlying26 ty28 ⟨rfl, (.t rfl), rfl, rfl, trivial⟩ rfl (by decide) rfl rfl ?_
    refine W.q (Ev.build ty28 st28 rfl (fun hg => ⟨_, _, _, rfl, (.t rfl), rfl, rfl, rfl, _, _, _, rfl, (.t rfl), rfl, rfl, rfl, rfl⟩)) rfl ?_
    first | refine W.stb 0 (.t rfl) (.t rfl) rfl ty28 rfl rfl rfl ?_ | refine W.stb 1 (.t rfl) (.t rfl) rfl ty28 rfl rfl rfl ?_ | refine W.stb 2 (.t rfl) (.t rfl) rfl ty28 rfl rfl rfl ?_ | refine W.stb 3 (.t rfl) (.t rfl) rfl ty28 rfl rfl rfl ?_
    refine W.nil ?_
    refine W.blk_normal ?_
    refine W.then ?_
    refine W.reach (D := []) (k + 1) ⟨rfl, rfl, rfl, trivial⟩ (by rw [hsn, Ex.avx_one]; exact .refl _) ⟨by show k + 1 ≤ _; omega, by show _ - (k + 1) < _; omega⟩
  · subst hr0
    rw [hend, List.drop_length, List.take_length]
    refine W.seq ?_
    refine W.seq ?_
    refine W.region ?_
    refine W.q (Ev.move (.t rfl)) rfl ?_
    refine W.q (Ev.nilc (.t rfl)) rfl ?_
    first | refine W.q (Ev.fae (.t rfl) fa51_0 rfl) rfl ?_ | refine W.q (Ev.fab (.t rfl) fa51_0) rfl ?_ | refine W.q (Ev.faa (.t rfl) fa51_0) rfl ?_
    first | refine W.q (Ev.lde1 (.t rfl) ag9) rfl ?_ | refine W.q (Ev.ldb1 0 (.t rfl) rfl ag9 rfl) rfl ?_ | refine W.q (Ev.ldb1 1 (.t rfl) rfl ag9 rfl) rfl ?_ | refine W.q (Ev.ldb1 2 (.t rfl) rfl ag9 rfl) rfl ?_ | refine W.q (Ev.ldb1 3 (.t rfl) rfl ag9 rfl) rfl ?_
    refine W.q (Ev.nes (.t rfl) .k) rfl ?_
    refine W.nil ?_
    refine W.then ?_
    refine W.is (t := 54) (g := true) (av' := .lit (.bool false)) rfl (congrArg (fun b => AV.lit (.bool b)) (by rfl)) ?_
    refine W.condF (.t rfl) ?_
    refine W.exit ?_
    refine W.then_exit ?_
    refine W.then_exit ?_
    refine W.blk_hit ?_
    refine W.then ?_
    refine W.seq ?_
    refine W.region ?_
    first | refine W.q (Ev.lden (.t rfl) ag28 ty28 rfl rfl) rfl ?_ | refine W.q (Ev.ldbn 0 (.t rfl) rfl ag28 ty28 rfl) rfl ?_ | refine W.q (Ev.ldbn 1 (.t rfl) rfl ag28 ty28 rfl) rfl ?_ | refine W.q (Ev.ldbn 2 (.t rfl) rfl ag28 ty28 rfl) rfl ?_ | refine W.q (Ev.ldbn 3 (.t rfl) rfl ag28 ty28 rfl) rfl ?_
    first | refine W.stb 0 (.t rfl) (.t rfl) rfl ty28 rfl rfl rfl ?_ | refine W.stb 1 (.t rfl) (.t rfl) rfl ty28 rfl rfl rfl ?_ | refine W.stb 2 (.t rfl) (.t rfl) rfl ty28 rfl rfl rfl ?_ | refine W.stb 3 (.t rfl) (.t rfl) rfl ty28 rfl rfl rfl ?_
    refine W.nil ?_
    refine W.then ?_
    refine W.ret ?_
    refine W.retn (M' := [_]) (D := _) (rs := [.cell 2 28]) (avs := [_]) Try.results37 ⟨⟨_, _, _, rfl, by first | exact List.mem_cons_self | exact List.mem_cons_of_mem _ List.mem_cons_self | exact List.mem_cons_of_mem _ (List.mem_cons_of_mem _ List.mem_cons_self) | exact List.mem_cons_of_mem _ (List.mem_cons_of_mem _ (List.mem_cons_of_mem _ List.mem_cons_self)) | exact List.mem_cons_of_mem _ (List.mem_cons_of_mem _ (List.mem_cons_of_mem _ (List.mem_cons_of_mem _ List.mem_cons_self))), rfl, by funext w; exact ag28.run w, by funext w; exact ty28.size w⟩, trivial⟩ rfl (List.perm_middle (l₁ := [_, _])) ?_
    exact ⟨by rw [It.ev]; rfl, rfl⟩
  · subst hr0
    rw [hend, List.drop_length, List.take_length]
    have hc3 := hr c t rfl
    refine W.seq ?_
    refine W.seq ?_
    refine W.region ?_
    refine W.q (Ev.move (.t rfl)) rfl ?_
    refine W.q (Ev.nilc (.t rfl)) rfl ?_
    first | refine W.q (Ev.fae (.t rfl) fa51_0 rfl) rfl ?_ | refine W.q (Ev.fab (.t rfl) fa51_0) rfl ?_ | refine W.q (Ev.faa (.t rfl) fa51_0) rfl ?_
    first | refine W.q (Ev.lde1 (.t rfl) ag9) rfl ?_ | refine W.q (Ev.ldb1 0 (.t rfl) rfl ag9 rfl) rfl ?_ | refine W.q (Ev.ldb1 1 (.t rfl) rfl ag9 rfl) rfl ?_ | refine W.q (Ev.ldb1 2 (.t rfl) rfl ag9 rfl) rfl ?_ | refine W.q (Ev.ldb1 3 (.t rfl) rfl ag9 rfl) rfl ?_
    refine W.q (Ev.nes (.t rfl) .k) rfl ?_
    refine W.nil ?_
    refine W.then ?_
    refine W.is (t := 54) (g := true) (av' := .lit (.bool true)) rfl (congrArg (fun b => AV.lit (.bool b)) (by rfl)) ?_
    refine W.condT (.t rfl) ?_
    refine W.skip ?_
    refine W.then ?_
    refine W.block ?_
    refine W.seq ?_
    refine W.region ?_
    refine W.q (Ev.move (.t rfl)) rfl ?_
    refine W.q (Ev.nilc (.t rfl)) rfl ?_
    first | refine W.q (Ev.fae (.t rfl) fa51_0 rfl) rfl ?_ | refine W.q (Ev.fab (.t rfl) fa51_0) rfl ?_ | refine W.q (Ev.faa (.t rfl) fa51_0) rfl ?_
    first | refine W.q (Ev.lde1 (.t rfl) ag9) rfl ?_ | refine W.q (Ev.ldb1 0 (.t rfl) rfl ag9 rfl) rfl ?_ | refine W.q (Ev.ldb1 1 (.t rfl) rfl ag9 rfl) rfl ?_ | refine W.q (Ev.ldb1 2 (.t rfl) rfl ag9 rfl) rfl ?_ | refine W.q (Ev.ldb1 3 (.t rfl) rfl ag9 rfl) rfl ?_
    refine W.q (Ev.ats (b := c) (.t rfl) .k Try.underlying9 (fun _ => ⟨by decide, rfl⟩)) rfl ?_
    refine W.callp (WIndex.c_IndexByte [42, 43, 63] c) ⟨.k, (.t rfl), trivial⟩ rfl ?_
    refine W.q (Ev.assign (.t rfl)) rfl ?_
    refine W.nil ?_
    refine W.then ?_
    refine W.seq ?_
    refine W.seq ?_
    refine W.region ?_
    refine W.q (Ev.move (.t rfl)) rfl ?_
    refine W.q (Ev.lti (.t rfl) .k) rfl ?_
    refine W.nil ?_
    refine W.then ?_
    refine W.is (t := 62) (g := true) (av' := .lit (.bool true)) rfl (congrArg (fun b => AV.lit (.bool b)) (by rw [It.idx_no c hc3]; rfl)) ?_
    refine W.condT (.t rfl) ?_
    refine W.exit ?_
    refine W.then_exit ?_
    refine W.blk_miss rfl ?_
    refine W.then_exit ?_
    refine W.blk_hit ?_
    refine W.then ?_
    refine W.seq ?_
    refine W.region ?_
    first | refine W.q (Ev.lden (.t rfl) ag28 ty28 rfl rfl) rfl ?_ | refine W.q (Ev.ldbn 0 (.t rfl) rfl ag28 ty28 rfl) rfl ?_ | refine W.q (Ev.ldbn 1 (.t rfl) rfl ag28 ty28 rfl) rfl ?_ | refine W.q (Ev.ldbn 2 (.t rfl) rfl ag28 ty28 rfl) rfl ?_ | refine W.q (Ev.ldbn 3 (.t rfl) rfl ag28 ty28 rfl) rfl ?_
    first | refine W.stb 0 (.t rfl) (.t rfl) rfl ty28 rfl rfl rfl ?_ | refine W.stb 1 (.t rfl) (.t rfl) rfl ty28 rfl rfl rfl ?_ | refine W.stb 2 (.t rfl) (.t rfl) rfl ty28 rfl rfl rfl ?_ | refine W.stb 3 (.t rfl) (.t rfl) rfl ty28 rfl rfl rfl ?_
    refine W.nil ?_
    refine W.then ?_
    refine W.ret ?_
    refine W.retn (M' := [_]) (D := _) (rs := [.cell 2 28]) (avs := [_]) Try.results37 ⟨⟨_, _, _, rfl, by first | exact List.mem_cons_self | exact List.mem_cons_of_mem _ List.mem_cons_self | exact List.mem_cons_of_mem _ (List.mem_cons_of_mem _ List.mem_cons_self) | exact List.mem_cons_of_mem _ (List.mem_cons_of_mem _ (List.mem_cons_of_mem _ List.mem_cons_self)) | exact List.mem_cons_of_mem _ (List.mem_cons_of_mem _ (List.mem_cons_of_mem _ (List.mem_cons_of_mem _ List.mem_cons_self))), rfl, by funext w; exact ag28.run w, by funext w; exact ty28.size w⟩, trivial⟩ rfl (List.perm_middle (l₁ := [_, _])) ?_
    exact ⟨by rw [It.ev]; rfl, rfl⟩

theorem c_item_gr (b : Nat) (s : List It) (a : List (List It)) (sf : List Nat) (r : List UInt8) (hA : ∀ r, It.endA r → FnC Try.prog 19 [.lit (.pointer (some ⟨b, 0, none⟩))] [.box b 51 [.str (It.stx (s) ++ (It.atl (a) ++ r)), .bool false]] (fun x M => x = (It.al (s) (a)).avx ∧ M = [.box b 51 [.str (r), .bool false]])) (hsf : ∀ k ∈ sf, k < 3) (hr : It.endI r) : FnC Try.prog 37 [.lit (.pointer (some ⟨b, 0, none⟩))] [.box b 51 [.str (It.tx (.gr s a sf) ++ r), .bool false]] (fun x M => x = (It.ev (.gr s a sf)).avx ∧ M = [.box b 51 [.str (r), .bool false]]) :=  by
  refine FnC.mk Try.func37 (by kernel_rfl) rfl Try.ntmps37 rfl (fun w0 F => ?_)
  rw [It.tx, show (40 :: (It.stx s ++ (It.atl a ++ 41 :: sf.map sg)) ++ r : List UInt8) = 40 :: (It.stx s ++ (It.atl a ++ (41 :: (sf.map sg ++ r)))) from by simp]
  refine W.seq ?_
  refine W.region ?_
  refine W.alloc ty28 rfl rfl ?_
  intro b2
  refine W.nil ?_
  refine W.then ?_
  refine W.seq ?_
  refine W.region ?_
  refine W.q (Ev.move (.t rfl)) rfl ?_
  refine W.q (Ev.nilc (.t rfl)) rfl ?_
  first | refine W.q (Ev.fae (.t rfl) fa51_0 rfl) rfl ?_ | refine W.q (Ev.fab (.t rfl) fa51_0) rfl ?_ | refine W.q (Ev.faa (.t rfl) fa51_0) rfl ?_
  first | refine W.q (Ev.lde1 (.t rfl) ag9) rfl ?_ | refine W.q (Ev.ldb1 0 (.t rfl) rfl ag9 rfl) rfl ?_ | refine W.q (Ev.ldb1 1 (.t rfl) rfl ag9 rfl) rfl ?_ | refine W.q (Ev.ldb1 2 (.t rfl) rfl ag9 rfl) rfl ?_ | refine W.q (Ev.ldb1 3 (.t rfl) rfl ag9 rfl) rfl ?_
  refine W.q (Ev.ats (b := 40) (.t rfl) .k Try.underlying9 (fun _ => ⟨by decide, rfl⟩)) rfl ?_
  refine W.q (Ev.assign (.t rfl)) rfl ?_
  refine W.nil ?_
  refine W.then ?_
  refine W.seq ?_
  refine W.region ?_
  refine W.q (Ev.move (.t rfl)) rfl ?_
  refine W.q (Ev.move (.t rfl)) rfl ?_
  refine W.q (Ev.nilc (.t rfl)) rfl ?_
  first | refine W.q (Ev.fae (.t rfl) fa51_0 rfl) rfl ?_ | refine W.q (Ev.fab (.t rfl) fa51_0) rfl ?_ | refine W.q (Ev.faa (.t rfl) fa51_0) rfl ?_
  first | refine W.q (Ev.lde1 (.t rfl) ag9) rfl ?_ | refine W.q (Ev.ldb1 0 (.t rfl) rfl ag9 rfl) rfl ?_ | refine W.q (Ev.ldb1 1 (.t rfl) rfl ag9 rfl) rfl ?_ | refine W.q (Ev.ldb1 2 (.t rfl) rfl ag9 rfl) rfl ?_ | refine W.q (Ev.ldb1 3 (.t rfl) rfl ag9 rfl) rfl ?_
  refine W.q (Ev.subs (lo := some (.const (.int .i64 1))) (hi := none) (.t rfl) Try.underlying9 (Ov.k (g := true) (L := [])) rfl (fun _ => by simp only [List.length_cons]; omega)) rfl ?_
  refine W.is (t := 16) (g := true) (av' := .str (It.stx s ++ (It.atl a ++ (41 :: (sf.map sg ++ r))))) rfl (congrArg AV.str (It.tail1 _ _)) ?_
  refine W.q (Ev.nilc (.t rfl)) rfl ?_
  first | refine W.q (Ev.fae (.t rfl) fa51_0 rfl) rfl ?_ | refine W.q (Ev.fab (.t rfl) fa51_0) rfl ?_ | refine W.q (Ev.faa (.t rfl) fa51_0) rfl ?_
  first | refine W.stb 0 (.t rfl) (.t rfl) rfl ty9 rfl rfl rfl ?_ | refine W.stb 1 (.t rfl) (.t rfl) rfl ty9 rfl rfl rfl ?_ | refine W.stb 2 (.t rfl) (.t rfl) rfl ty9 rfl rfl rfl ?_ | refine W.stb 3 (.t rfl) (.t rfl) rfl ty9 rfl rfl rfl ?_
  refine W.nil ?_
  refine W.then ?_
  refine W.seq ?_
  refine W.region ?_
  refine W.alloc ty28 rfl rfl ?_
  intro b4
  refine W.nil ?_
  refine W.then ?_
  refine W.seq ?_
  refine W.block ?_
  refine W.seq ?_
  refine W.region ?_
  refine W.q (Ev.move (.t rfl)) rfl ?_
  refine W.q (Ev.gei (.t rfl) .k) rfl ?_
  refine W.q (Ev.move (.t rfl)) rfl ?_
  refine W.qgT rfl rfl (Ev.move (.t rfl)) rfl ?_
  refine W.qgT rfl rfl (Ev.lei (.c rfl) .k) rfl ?_
  refine W.q (Ev.and (.t rfl) ⟨_, _, rfl, rfl, by first | (simp; done) | (intro hg_ hp_; simp [hp_]; done) | (simp <;> omega; done) | (simp_all; done) | grind⟩) rfl ?_
  refine W.q (Ev.assign (.t rfl)) rfl ?_
  refine W.nil ?_
  refine W.then ?_
  refine W.is (t := 22) (g := true) (av' := .lit (.bool false)) rfl (congrArg (fun b => AV.lit (.bool b)) (by rfl)) ?_
  refine W.condF (.t rfl) ?_
  refine W.seq ?_
  refine W.region ?_
  refine W.q (Ev.move (.t rfl)) rfl ?_
  refine W.q (Ev.eqi (.t rfl) .k) rfl ?_
  refine W.q (Ev.assign (.t rfl)) rfl ?_
  refine W.nil ?_
  refine W.then ?_
  refine W.is (t := 33) (g := true) (av' := .lit (.bool true)) rfl (congrArg (fun b => AV.lit (.bool b)) (by rfl)) ?_
  refine W.condT (.t rfl) ?_
  refine W.seq ?_
  refine W.region ?_
  refine W.q (Ev.move (.t rfl)) rfl ?_
  refine W.call (hA _ (It.endA_close (sf.map sg ++ r))) ⟨(.t rfl), trivial⟩ ((List.perm_middle (l₁ := [_, _]))) rfl ?_
  rintro _ _ ⟨rfl, rfl⟩
  first | refine W.stb 0 (.t rfl) (.t rfl) rfl ty28 rfl rfl rfl ?_ | refine W.stb 1 (.t rfl) (.t rfl) rfl ty28 rfl rfl rfl ?_ | refine W.stb 2 (.t rfl) (.t rfl) rfl ty28 rfl rfl rfl ?_ | refine W.stb 3 (.t rfl) (.t rfl) rfl ty28 rfl rfl rfl ?_
  refine W.nil ?_
  refine W.then ?_
  refine W.region ?_
  refine W.q (Ev.move (.t rfl)) rfl ?_
  refine W.q (Ev.move (.t rfl)) rfl ?_
  refine W.q (Ev.nilc (.t rfl)) rfl ?_
  first | refine W.q (Ev.fae (.t rfl) fa51_1 rfl) rfl ?_ | refine W.q (Ev.fab (.t rfl) fa51_1) rfl ?_ | refine W.q (Ev.faa (.t rfl) fa51_1) rfl ?_
  first | refine W.q (Ev.lde1 (.t rfl) ag4) rfl ?_ | refine W.q (Ev.ldb1 0 (.t rfl) rfl ag4 rfl) rfl ?_ | refine W.q (Ev.ldb1 1 (.t rfl) rfl ag4 rfl) rfl ?_ | refine W.q (Ev.ldb1 2 (.t rfl) rfl ag4 rfl) rfl ?_ | refine W.q (Ev.ldb1 3 (.t rfl) rfl ag4 rfl) rfl ?_
  refine W.q (Ev.move (.t rfl)) rfl ?_
  refine W.gyes rfl rfl ?_
  refine W.q (Ev.move (.t rfl)) rfl ?_
  refine W.gyes rfl rfl ?_
  refine W.call (WParse1.c_takesT b 41 (sf.map sg ++ r)) ⟨(.t rfl), .k, trivial⟩ (.refl _) rfl ?_
  rintro _ _ ⟨rfl, rfl⟩
  refine W.gyes rfl rfl ?_
  refine W.q (Ev.not (.t rfl)) rfl ?_
  refine W.q (Ev.or (.t rfl) ⟨_, _, rfl, rfl, by first | (simp; done) | (intro hg_ hp_; simp [hp_]; done) | (simp <;> omega; done) | (simp_all; done) | grind⟩) rfl ?_
  refine W.q (Ev.nilc (.t rfl)) rfl ?_
  first | refine W.q (Ev.fae (.t rfl) fa51_1 rfl) rfl ?_ | refine W.q (Ev.fab (.t rfl) fa51_1) rfl ?_ | refine W.q (Ev.faa (.t rfl) fa51_1) rfl ?_
  first | refine W.stb 0 (.t rfl) (.t rfl) rfl ty4 rfl rfl rfl ?_ | refine W.stb 1 (.t rfl) (.t rfl) rfl ty4 rfl rfl rfl ?_ | refine W.stb 2 (.t rfl) (.t rfl) rfl ty4 rfl rfl rfl ?_ | refine W.stb 3 (.t rfl) (.t rfl) rfl ty4 rfl rfl rfl ?_
  refine W.nil ?_
  refine W.blk_normal ?_
  refine W.then ?_
  refine W.seq ?_
  refine W.block ?_
  refine W.loop (D := []) (ι := Nat) (fun k => [(0, true, .lit (.pointer (some ⟨b, 0, none⟩))), (4, true, .lit (.pointer (some ⟨b4, 0, none⟩))), (2, true, .lit (.pointer (some ⟨b2, 0, none⟩)))]) (fun k => [.box b4 28 (Ex.sfe (It.al s a) (sf.take k)).avx.cells, .box b2 28 [.int 0, .int 0, .lit (.slice none 0 0)], .box b 51 [.str ((sf.drop k).map sg ++ r), .bool false]]) (fun k => k ≤ sf.length) (fun k => sf.length - k) 0 ⟨rfl, rfl, rfl, trivial⟩ ((List.perm_append_comm (l₁ := [_]))) (Nat.zero_le _) ?_
  intro k hk
  dsimp only at hk ⊢
  rcases (show k < sf.length ∨ (k = sf.length ∧ r = []) ∨ (k = sf.length ∧ ∃ c t, r = c :: t) from by
    rcases Nat.lt_or_ge k sf.length with h | h
    · exact .inl h
    · cases r with
      | nil => exact .inr (.inl ⟨by omega, rfl⟩)
      | cons c t => exact .inr (.inr ⟨by omega, c, t, rfl⟩)) with hlt | ⟨hend, hr0⟩ | ⟨hend, c, t, hr0⟩
  · rw [It.sfdrop sf k hlt r]
    have hk3 := hsf _ (getD_memG 0 sf k hlt)
    have hsn := Ex.sfe_snoc (It.al s a) sf k hlt
    generalize hkk : sf.getD k 0 = kk at hk3 hsn ⊢
    refine W.seq ?_
    refine W.seq ?_
    refine W.region ?_
    refine W.q (Ev.move (.t rfl)) rfl ?_
    refine W.q (Ev.nilc (.t rfl)) rfl ?_
    first | refine W.q (Ev.fae (.t rfl) fa51_0 rfl) rfl ?_ | refine W.q (Ev.fab (.t rfl) fa51_0) rfl ?_ | refine W.q (Ev.faa (.t rfl) fa51_0) rfl ?_
    first | refine W.q (Ev.lde1 (.t rfl) ag9) rfl ?_ | refine W.q (Ev.ldb1 0 (.t rfl) rfl ag9 rfl) rfl ?_ | refine W.q (Ev.ldb1 1 (.t rfl) rfl ag9 rfl) rfl ?_ | refine W.q (Ev.ldb1 2 (.t rfl) rfl ag9 rfl) rfl ?_ | refine W.q (Ev.ldb1 3 (.t rfl) rfl ag9 rfl) rfl ?_
    refine W.q (Ev.nes (.t rfl) .k) rfl ?_
    refine W.nil ?_
    refine W.then ?_
    refine W.is (t := 54) (g := true) (av' := .lit (.bool true)) rfl (congrArg (fun b => AV.lit (.bool b)) (by rfl)) ?_
    refine W.condT (.t rfl) ?_
    refine W.skip ?_
    refine W.then ?_
    refine W.block ?_
    refine W.seq ?_
    refine W.region ?_
    refine W.q (Ev.move (.t rfl)) rfl ?_
    refine W.q (Ev.nilc (.t rfl)) rfl ?_
    first | refine W.q (Ev.fae (.t rfl) fa51_0 rfl) rfl ?_ | refine W.q (Ev.fab (.t rfl) fa51_0) rfl ?_ | refine W.q (Ev.faa (.t rfl) fa51_0) rfl ?_
    first | refine W.q (Ev.lde1 (.t rfl) ag9) rfl ?_ | refine W.q (Ev.ldb1 0 (.t rfl) rfl ag9 rfl) rfl ?_ | refine W.q (Ev.ldb1 1 (.t rfl) rfl ag9 rfl) rfl ?_ | refine W.q (Ev.ldb1 2 (.t rfl) rfl ag9 rfl) rfl ?_ | refine W.q (Ev.ldb1 3 (.t rfl) rfl ag9 rfl) rfl ?_
    refine W.q (Ev.ats (b := sg kk) (.t rfl) .k Try.underlying9 (fun _ => ⟨by decide, rfl⟩)) rfl ?_
    refine W.callp (WIndex.c_IndexByte [42, 43, 63] (sg kk)) ⟨.k, (.t rfl), trivial⟩ rfl ?_
    refine W.q (Ev.assign (.t rfl)) rfl ?_
    refine W.nil ?_
    refine W.then ?_
    refine W.seq ?_
    refine W.seq ?_
    refine W.region ?_
    refine W.q (Ev.move (.t rfl)) rfl ?_
    refine W.q (Ev.lti (.t rfl) .k) rfl ?_
    refine W.nil ?_
    refine W.then ?_
    refine W.is (t := 62) (g := true) (av' := .lit (.bool false)) rfl (congrArg (fun b => AV.lit (.bool b)) (by rw [It.sg_idx kk hk3]; exact decide_eq_false (by omega))) ?_
    refine W.condF (.t rfl) ?_
    refine W.skip ?_
    refine W.then ?_
    refine W.seq ?_
    refine W.region ?_
    refine W.q (Ev.move (.t rfl)) rfl ?_
    refine W.q (Ev.move (.t rfl)) rfl ?_
    refine W.q (Ev.nilc (.t rfl)) rfl ?_
    first | refine W.q (Ev.fae (.t rfl) fa51_0 rfl) rfl ?_ | refine W.q (Ev.fab (.t rfl) fa51_0) rfl ?_ | refine W.q (Ev.faa (.t rfl) fa51_0) rfl ?_
    first | refine W.q (Ev.lde1 (.t rfl) ag9) rfl ?_ | refine W.q (Ev.ldb1 0 (.t rfl) rfl ag9 rfl) rfl ?_ | refine W.q (Ev.ldb1 1 (.t rfl) rfl ag9 rfl) rfl ?_ | refine W.q (Ev.ldb1 2 (.t rfl) rfl ag9 rfl) rfl ?_ | refine W.q (Ev.ldb1 3 (.t rfl) rfl ag9 rfl) rfl ?_
    refine W.q (Ev.subs (lo := some (.const (.int .i64 1))) (hi := none) (.t rfl) Try.underlying9 (Ov.k (g := true) (L := [])) rfl (fun _ => by simp only [List.length_cons]; omega)) rfl ?_
    refine W.is (t := 68) (g := true) (av' := .str ((sf.drop (k + 1)).map sg ++ r)) rfl (congrArg AV.str (It.tail1 _ _)) ?_
    refine W.q (Ev.nilc (.t rfl)) rfl ?_
    first | refine W.q (Ev.fae (.t rfl) fa51_0 rfl) rfl ?_ | refine W.q (Ev.fab (.t rfl) fa51_0) rfl ?_ | refine W.q (Ev.faa (.t rfl) fa51_0) rfl ?_
    first | refine W.stb 0 (.t rfl) (.t rfl) rfl ty9 rfl rfl rfl ?_ | refine W.stb 1 (.t rfl) (.t rfl) rfl ty9 rfl rfl rfl ?_ | refine W.stb 2 (.t rfl) (.t rfl) rfl ty9 rfl rfl rfl ?_ | refine W.stb 3 (.t rfl) (.t rfl) rfl ty9 rfl rfl rfl ?_
    refine W.nil ?_
    refine W.then ?_
    refine W.region ?_
    refine W.q (Ev.move (.t rfl)) rfl ?_
    refine W.is (t := 71) (g := true) (av' := .int (kk : Int)) rfl (congrArg AV.int (It.sg_idx kk hk3)) ?_
    first | refine W.q (Ev.add .k (.t rfl) (fun _ => by omega)) rfl ?_ | refine W.q (Ev.addw .k (.t rfl)) rfl ?_
    first | refine W.q (Ev.lden (.t rfl) ag28 ty28 rfl rfl) rfl ?_ | refine W.q (Ev.ldbn 0 (.t rfl) rfl ag28 ty28 rfl) rfl ?_ | refine W.q (Ev.ldbn 1 (.t rfl) rfl ag28 ty28 rfl) rfl ?_ | refine W.q (Ev.ldbn 2 (.t rfl) rfl ag28 ty28 rfl) rfl ?_ | refine W.q (Ev.ldbn 3 (.t rfl) rfl ag28 ty28 rfl) rfl ?_
    refine W.bs (es := [_]) Try.underlying26 ty28 ⟨rfl, (.t rfl), rfl, rfl, trivial⟩ rfl (by decide) rfl rfl ?_
    refine W.q (Ev.build ty28 st28 rfl (fun hg => ⟨_, _, _, rfl, (.t rfl), rfl, rfl, rfl, _, _, _, rfl, (.t rfl), rfl, rfl, rfl, rfl⟩)) rfl ?_
    first | refine W.stb 0 (.t rfl) (.t rfl) rfl ty28 rfl rfl rfl ?_ | refine W.stb 1 (.t rfl) (.t rfl) rfl ty28 rfl rfl rfl ?_ | refine W.stb 2 (.t rfl) (.t rfl) rfl ty28 rfl rfl rfl ?_ | refine W.stb 3 (.t rfl) (.t rfl) rfl ty28 rfl rfl rfl ?_
    refine W.nil ?_
    refine W.blk_normal ?_
    refine W.then ?_
    refine W.reach (D := []) (k + 1) ⟨rfl, rfl, rfl, trivial⟩ (by rw [hsn, Ex.avx_one]; exact .refl _) ⟨by show k + 1 ≤ _; omega, by show _ - (k + 1) < _; omega⟩
  · subst hr0
    rw [hend, List.drop_length, List.take_length]
    refine W.seq ?_
    refine W.seq ?_
    refine W.region ?_
    refine W.q (Ev.move (.t rfl)) rfl ?_
    refine W.q (Ev.nilc (.t rfl)) rfl ?_
    first | refine W.q (Ev.fae (.t rfl) fa51_0 rfl) rfl ?_ | refine W.q (Ev.fab (.t rfl) fa51_0) rfl ?_ | refine W.q (Ev.faa (.t rfl) fa51_0) rfl ?_
    first | refine W.q (Ev.lde1 (.t rfl) ag9) rfl ?_ | refine W.q (Ev.ldb1 0 (.t rfl) rfl ag9 rfl) rfl ?_ | refine W.q (Ev.ldb1 1 (.t rfl) rfl ag9 rfl) rfl ?_ | refine W.q (Ev.ldb1 2 (.t rfl) rfl ag9 rfl) rfl ?_ | refine W.q (Ev.ldb1 3 (.t rfl) rfl ag9 rfl) rfl ?_
    refine W.q (Ev.nes (.t rfl) .k) rfl ?_
    refine W.nil ?_
    refine W.then ?_
    refine W.is (t := 54) (g := true) (av' := .lit (.bool false)) rfl (congrArg (fun b => AV.lit (.bool b)) (by rfl)) ?_
    refine W.condF (.t rfl) ?_
    refine W.exit ?_
    refine W.then_exit ?_
    refine W.then_exit ?_
    refine W.blk_hit ?_
    refine W.then ?_
    refine W.seq ?_
    refine W.region ?_
    first | refine W.q (Ev.lden (.t rfl) ag28 ty28 rfl rfl) rfl ?_ | refine W.q (Ev.ldbn 0 (.t rfl) rfl ag28 ty28 rfl) rfl ?_ | refine W.q (Ev.ldbn 1 (.t rfl) rfl ag28 ty28 rfl) rfl ?_ | refine W.q (Ev.ldbn 2 (.t rfl) rfl ag28 ty28 rfl) rfl ?_ | refine W.q (Ev.ldbn 3 (.t rfl) rfl ag28 ty28 rfl) rfl ?_
    first | refine W.stb 0 (.t rfl) (.t rfl) rfl ty28 rfl rfl rfl ?_ | refine W.stb 1 (.t rfl) (.t rfl) rfl ty28 rfl rfl rfl ?_ | refine W.stb 2 (.t rfl) (.t rfl) rfl ty28 rfl rfl rfl ?_ | refine W.stb 3 (.t rfl) (.t rfl) rfl ty28 rfl rfl rfl ?_
    refine W.nil ?_
    refine W.then ?_
    refine W.ret ?_
    refine W.retn (M' := [_]) (D := _) (rs := [.cell 2 28]) (avs := [_]) Try.results37 ⟨⟨_, _, _, rfl, by first | exact List.mem_cons_self | exact List.mem_cons_of_mem _ List.mem_cons_self | exact List.mem_cons_of_mem _ (List.mem_cons_of_mem _ List.mem_cons_self) | exact List.mem_cons_of_mem _ (List.mem_cons_of_mem _ (List.mem_cons_of_mem _ List.mem_cons_self)) | exact List.mem_cons_of_mem _ (List.mem_cons_of_mem _ (List.mem_cons_of_mem _ (List.mem_cons_of_mem _ List.mem_cons_self))), rfl, by funext w; exact ag28.run w, by funext w; exact ty28.size w⟩, trivial⟩ rfl (List.perm_middle (l₁ := [_, _])) ?_
    exact ⟨by rw [It.ev]; rfl, rfl⟩
  · subst hr0
    rw [hend, List.drop_length, List.take_length]
    have hc3 := hr c t rfl
    refine W.seq ?_
    refine W.seq ?_
    refine W.region ?_
    refine W.q (Ev.move (.t rfl)) rfl ?_
    refine W.q (Ev.nilc (.t rfl)) rfl ?_
    first | refine W.q (Ev.fae (.t rfl) fa51_0 rfl) rfl ?_ | refine W.q (Ev.fab (.t rfl) fa51_0) rfl ?_ | refine W.q (Ev.faa (.t rfl) fa51_0) rfl ?_
    first | refine W.q (Ev.lde1 (.t rfl) ag9) rfl ?_ | refine W.q (Ev.ldb1 0 (.t rfl) rfl ag9 rfl) rfl ?_ | refine W.q (Ev.ldb1 1 (.t rfl) rfl ag9 rfl) rfl ?_ | refine W.q (Ev.ldb1 2 (.t rfl) rfl ag9 rfl) rfl ?_ | refine W.q (Ev.ldb1 3 (.t rfl) rfl ag9 rfl) rfl ?_
    refine W.q (Ev.nes (.t rfl) .k) rfl ?_
    refine W.nil ?_
    refine W.then ?_
    refine W.is (t := 54) (g := true) (av' := .lit (.bool true)) rfl (congrArg (fun b => AV.lit (.bool b)) (by rfl)) ?_
    refine W.condT (.t rfl) ?_
    refine W.skip ?_
    refine W.then ?_
    refine W.block ?_
    refine W.seq ?_
    refine W.region ?_
    refine W.q (Ev.move (.t rfl)) rfl ?_
    refine W.q (Ev.nilc (.t rfl)) rfl ?_
    first | refine W.q (Ev.fae (.t rfl) fa51_0 rfl) rfl ?_ | refine W.q (Ev.fab (.t rfl) fa51_0) rfl ?_ | refine W.q (Ev.faa (.t rfl) fa51_0) rfl ?_
    first | refine W.q (Ev.lde1 (.t rfl) ag9) rfl ?_ | refine W.q (Ev.ldb1 0 (.t rfl) rfl ag9 rfl) rfl ?_ | refine W.q (Ev.ldb1 1 (.t rfl) rfl ag9 rfl) rfl ?_ | refine W.q (Ev.ldb1 2 (.t rfl) rfl ag9 rfl) rfl ?_ | refine W.q (Ev.ldb1 3 (.t rfl) rfl ag9 rfl) rfl ?_
    refine W.q (Ev.ats (b := c) (.t rfl) .k Try.underlying9 (fun _ => ⟨by decide, rfl⟩)) rfl ?_
    refine W.callp (WIndex.c_IndexByte [42, 43, 63] c) ⟨.k, (.t rfl), trivial⟩ rfl ?_
    refine W.q (Ev.assign (.t rfl)) rfl ?_
    refine W.nil ?_
    refine W.then ?_
    refine W.seq ?_
    refine W.seq ?_
    refine W.region ?_
    refine W.q (Ev.move (.t rfl)) rfl ?_
    refine W.q (Ev.lti (.t rfl) .k) rfl ?_
    refine W.nil ?_
    refine W.then ?_
    refine W.is (t := 62) (g := true) (av' := .lit (.bool true)) rfl (congrArg (fun b => AV.lit (.bool b)) (by rw [It.idx_no c hc3]; rfl)) ?_
    refine W.condT (.t rfl) ?_
    refine W.exit ?_
    refine W.then_exit ?_
    refine W.blk_miss rfl ?_
    refine W.then_exit ?_
    refine W.blk_hit ?_
    refine W.then ?_
    refine W.seq ?_
    refine W.region ?_
    first | refine W.q (Ev.lden (.t rfl) ag28 ty28 rfl rfl) rfl ?_ | refine W.q (Ev.ldbn 0 (.t rfl) rfl ag28 ty28 rfl) rfl ?_ | refine W.q (Ev.ldbn 1 (.t rfl) rfl ag28 ty28 rfl) rfl ?_ | refine W.q (Ev.ldbn 2 (.t rfl) rfl ag28 ty28 rfl) rfl ?_ | refine W.q (Ev.ldbn 3 (.t rfl) rfl ag28 ty28 rfl) rfl ?_
    first | refine W.stb 0 (.t rfl) (.t rfl) rfl ty28 rfl rfl rfl ?_ | refine W.stb 1 (.t rfl) (.t rfl) rfl ty28 rfl rfl rfl ?_ | refine W.stb 2 (.t rfl) (.t rfl) rfl ty28 rfl rfl rfl ?_ | refine W.stb 3 (.t rfl) (.t rfl) rfl ty28 rfl rfl rfl ?_
    refine W.nil ?_
    refine W.then ?_
    refine W.ret ?_
    refine W.retn (M' := [_]) (D := _) (rs := [.cell 2 28]) (avs := [_]) Try.results37 ⟨⟨_, _, _, rfl, by first | exact List.mem_cons_self | exact List.mem_cons_of_mem _ List.mem_cons_self | exact List.mem_cons_of_mem _ (List.mem_cons_of_mem _ List.mem_cons_self) | exact List.mem_cons_of_mem _ (List.mem_cons_of_mem _ (List.mem_cons_of_mem _ List.mem_cons_self)) | exact List.mem_cons_of_mem _ (List.mem_cons_of_mem _ (List.mem_cons_of_mem _ (List.mem_cons_of_mem _ List.mem_cons_self))), rfl, by funext w; exact ag28.run w, by funext w; exact ty28.size w⟩, trivial⟩ rfl (List.perm_middle (l₁ := [_, _])) ?_
    exact ⟨by rw [It.ev]; rfl, rfl⟩

theorem c_seq (b : Nat) (s : List It) (r : List UInt8) (hs : It.oks s) (hz : Ex.szs (It.sev s) ≤ 16777216) (hI : ∀ i ∈ s, ∀ r, It.endI r → FnC Try.prog 37 [.lit (.pointer (some ⟨b, 0, none⟩))] [.box b 51 [.str (It.tx (i) ++ r), .bool false]] (fun x M => x = (It.ev (i)).avx ∧ M = [.box b 51 [.str (r), .bool false]])) (hr : It.endS r) : FnC Try.prog 25 [.lit (.pointer (some ⟨b, 0, none⟩))] [.box b 51 [.str (It.stx (s) ++ r), .bool false]] (fun x M => x = (It.sq (s)).avx ∧ M = [.box b 51 [.str (r), .bool false]]) :=  by
  refine FnC.mk Try.func25 (by kernel_rfl) rfl Try.ntmps25 rfl (fun w0 F => ?_)
  have hsm : (It.sev s).length = s.length := by rw [It.sev_map, List.length_map]
  have hsz := Ex.szs_len (It.sev s)
  refine W.seq ?_
  refine W.region ?_
  refine W.alloc ty28 rfl rfl ?_
  intro b2
  refine W.nil ?_
  refine W.then ?_
  refine W.seq ?_
  refine W.region ?_
  refine W.q (Ev.assign .k) rfl ?_
  refine W.nil ?_
  refine W.then ?_
  refine W.seq ?_
  refine W.block ?_
  refine W.own_nil 28 3 ?_
  refine W.loop (D := []) (ι := Nat × Value) (fun z => [(0, true, .lit (.pointer (some ⟨b, 0, none⟩))), (2, true, .lit (.pointer (some ⟨b2, 0, none⟩))), (3, true, .lit z.2)]) (fun z => [.box b 51 [.str (It.stx (s.drop z.1) ++ r), .bool false], .arr z.2 28 3 (((It.sev s).take z.1).map Ex.av), .box b2 28 [.int 0, .int 0, .lit (.slice none 0 0)]]) (fun z => z.1 ≤ s.length) (fun z => s.length - z.1) (0, .slice none 0 0) ⟨rfl, rfl, rfl, trivial⟩ (List.perm_middle (l₁ := [_, _])) (Nat.zero_le _) ?_
  rintro ⟨k, v⟩ hk
  dsimp only at hk ⊢
  rcases (show k < s.length ∨ (k = s.length ∧ r = []) ∨ (k = s.length ∧ ∃ c t, r = c :: t) from by
    rcases Nat.lt_or_ge k s.length with h | h
    · exact .inl h
    · cases r with
      | nil => exact .inr (.inl ⟨by omega, rfl⟩)
      | cons c t => exact .inr (.inr ⟨by omega, c, t, rfl⟩)) with hlt | ⟨hend, hr0⟩ | ⟨hend, c, t, hr0⟩
  · have him := getD_memG (It.ch 0 []) s k hlt
    have hok := (It.oks_iff s).1 hs
    have hdr := It.drop_cons s k hlt
    have hsn : (It.sev s).take (k + 1) = (It.sev s).take k ++ [(s.getD k (It.ch 0 [])).ev] := by rw [It.sev_map, ← List.map_take, take_getDG (It.ch 0 []) s k hlt, List.map_append, ← List.map_take]; rfl
    have hei : It.endI (It.stx (s.drop (k + 1)) ++ r) := It.endI_stx _ ((It.oks_iff _).2 fun j hj => hok j (List.mem_of_mem_drop hj)) hr
    generalize s.getD k (It.ch 0 []) = i at him hdr hsn
    have cI := hI i him _ hei
    obtain ⟨c0, t0, ht0, hc0⟩ := It.tx_head i (hok i him)
    rw [hdr, List.append_assoc]
    rw [ht0, List.cons_append] at cI ⊢
    have hcn : c0 ≠ 124 ∧ c0 ≠ 41 := by rcases hc0 with h | rfl; constructor <;> (rintro rfl; simp at h); decide
    have h124 := It.u8ne (n := 124) (by decide) hcn.1
    have h41 := It.u8ne (n := 41) (by decide) hcn.2
    refine W.seq ?_
    refine W.seq ?_
    refine W.region ?_
    refine W.q (Ev.move (.t rfl)) rfl ?_
    refine W.q (Ev.nilc (.t rfl)) rfl ?_
    first | refine W.q (Ev.fae (.t rfl) fa51_1 rfl) rfl ?_ | refine W.q (Ev.fab (.t rfl) fa51_1) rfl ?_ | refine W.q (Ev.faa (.t rfl) fa51_1) rfl ?_
    first | refine W.q (Ev.lde1 (.t rfl) ag4) rfl ?_ | refine W.q (Ev.ldb1 0 (.t rfl) rfl ag4 rfl) rfl ?_ | refine W.q (Ev.ldb1 1 (.t rfl) rfl ag4 rfl) rfl ?_ | refine W.q (Ev.ldb1 2 (.t rfl) rfl ag4 rfl) rfl ?_ | refine W.q (Ev.ldb1 3 (.t rfl) rfl ag4 rfl) rfl ?_
    refine W.q (Ev.not (.t rfl)) rfl ?_
    refine W.q (Ev.move (.t rfl)) rfl ?_
    refine W.qgT rfl rfl (Ev.move (.t rfl)) rfl ?_
    refine W.qgT rfl rfl (Ev.nilc (.c rfl)) rfl ?_
    first | refine W.qgT rfl rfl (Ev.fae (.c rfl) fa51_0 rfl) rfl ?_ | refine W.qgT rfl rfl (Ev.fab (.c rfl) fa51_0) rfl ?_ | refine W.qgT rfl rfl (Ev.faa (.c rfl) fa51_0) rfl ?_
    first | refine W.qgT rfl rfl (Ev.lde1 (.c rfl) ag9) rfl ?_ | refine W.qgT rfl rfl (Ev.ldb1 0 (.c rfl) rfl ag9 rfl) rfl ?_ | refine W.qgT rfl rfl (Ev.ldb1 1 (.c rfl) rfl ag9 rfl) rfl ?_ | refine W.qgT rfl rfl (Ev.ldb1 2 (.c rfl) rfl ag9 rfl) rfl ?_ | refine W.qgT rfl rfl (Ev.ldb1 3 (.c rfl) rfl ag9 rfl) rfl ?_
    refine W.qgT rfl rfl (Ev.nes (.c rfl) .k) rfl ?_
    refine W.q (Ev.and (.t rfl) ⟨_, _, rfl, rfl, by first | (simp; done) | (intro hg_ hp_; simp [hp_]; done) | (simp <;> omega; done) | (simp_all; done) | grind⟩) rfl ?_
    refine W.q (Ev.move (.t rfl)) rfl ?_
    refine W.qgT rfl rfl (Ev.move (.t rfl)) rfl ?_
    refine W.qgT rfl rfl (Ev.nilc (.c rfl)) rfl ?_
    first | refine W.qgT rfl rfl (Ev.fae (.c rfl) fa51_0 rfl) rfl ?_ | refine W.qgT rfl rfl (Ev.fab (.c rfl) fa51_0) rfl ?_ | refine W.qgT rfl rfl (Ev.faa (.c rfl) fa51_0) rfl ?_
    first | refine W.qgT rfl rfl (Ev.lde1 (.c rfl) ag9) rfl ?_ | refine W.qgT rfl rfl (Ev.ldb1 0 (.c rfl) rfl ag9 rfl) rfl ?_ | refine W.qgT rfl rfl (Ev.ldb1 1 (.c rfl) rfl ag9 rfl) rfl ?_ | refine W.qgT rfl rfl (Ev.ldb1 2 (.c rfl) rfl ag9 rfl) rfl ?_ | refine W.qgT rfl rfl (Ev.ldb1 3 (.c rfl) rfl ag9 rfl) rfl ?_
    refine W.qgT rfl rfl (Ev.ats (b := c0) (.c rfl) .k Try.underlying9 (fun _ => ⟨by decide, rfl⟩)) rfl ?_
    refine W.qgT rfl rfl (Ev.nei (.c rfl) .k) rfl ?_
    refine W.q (Ev.and (.t rfl) ⟨_, _, rfl, rfl, by first | (simp; done) | (intro hg_ hp_; simp [hp_]; done) | (simp <;> omega; done) | (simp_all; done) | grind⟩) rfl ?_
    refine W.q (Ev.move (.t rfl)) rfl ?_
    refine W.qgT rfl rfl (Ev.move (.t rfl)) rfl ?_
    refine W.qgT rfl rfl (Ev.nilc (.c rfl)) rfl ?_
    first | refine W.qgT rfl rfl (Ev.fae (.c rfl) fa51_0 rfl) rfl ?_ | refine W.qgT rfl rfl (Ev.fab (.c rfl) fa51_0) rfl ?_ | refine W.qgT rfl rfl (Ev.faa (.c rfl) fa51_0) rfl ?_
    first | refine W.qgT rfl rfl (Ev.lde1 (.c rfl) ag9) rfl ?_ | refine W.qgT rfl rfl (Ev.ldb1 0 (.c rfl) rfl ag9 rfl) rfl ?_ | refine W.qgT rfl rfl (Ev.ldb1 1 (.c rfl) rfl ag9 rfl) rfl ?_ | refine W.qgT rfl rfl (Ev.ldb1 2 (.c rfl) rfl ag9 rfl) rfl ?_ | refine W.qgT rfl rfl (Ev.ldb1 3 (.c rfl) rfl ag9 rfl) rfl ?_
    refine W.qgT rfl rfl (Ev.ats (b := c0) (.c rfl) .k Try.underlying9 (fun _ => ⟨by decide, rfl⟩)) rfl ?_
    refine W.qgT rfl rfl (Ev.nei (.c rfl) .k) rfl ?_
    refine W.q (Ev.and (.t rfl) ⟨_, _, rfl, rfl, by first | (simp; done) | (intro hg_ hp_; simp [hp_]; done) | (simp <;> omega; done) | (simp_all; done) | grind⟩) rfl ?_
    refine W.nil ?_
    refine W.then ?_
    refine W.is (t := 31) (g := true) (av' := .lit (.bool true)) rfl (congrArg (fun b => AV.lit (.bool b)) (by simp; omega)) ?_
    refine W.condT (.t rfl) ?_
    refine W.skip ?_
    refine W.then ?_
    refine W.block ?_
    refine W.region ?_
    refine W.q (Ev.move (.t rfl)) rfl ?_
    refine W.q (Ev.move (.t rfl)) rfl ?_
    refine W.call (cI) ⟨(.t rfl), trivial⟩ (.refl _) rfl ?_
    rintro _ _ ⟨rfl, rfl⟩
    refine W.bs (es := [_]) Try.underlying26 ty28 ⟨rfl, (.t rfl), rfl, rfl, trivial⟩ rfl (by decide) rfl rfl ?_
    first | refine W.app 0 (.t rfl) rfl (.sl (.t rfl) (by simp [AV.okc, shV])) Try.underlying26 ni26 ty28 rfl rfl (by rw [List.length_map, List.length_take]; simp only [List.length_cons, List.length_nil]; omega) rfl ?_ | refine W.app 1 (.t rfl) rfl (.sl (.t rfl) (by simp [AV.okc, shV])) Try.underlying26 ni26 ty28 rfl rfl (by rw [List.length_map, List.length_take]; simp only [List.length_cons, List.length_nil]; omega) rfl ?_ | refine W.app 2 (.t rfl) rfl (.sl (.t rfl) (by simp [AV.okc, shV])) Try.underlying26 ni26 ty28 rfl rfl (by rw [List.length_map, List.length_take]; simp only [List.length_cons, List.length_nil]; omega) rfl ?_ | refine W.app 3 (.t rfl) rfl (.sl (.t rfl) (by simp [AV.okc, shV])) Try.underlying26 ni26 ty28 rfl rfl (by rw [List.length_map, List.length_take]; simp only [List.length_cons, List.length_nil]; omega) rfl ?_ | refine W.app 0 (.t rfl) rfl (.arr 0 (.t rfl) rfl (by simp [AV.okc, shV])) Try.underlying26 ni26 ty28 rfl rfl (by rw [List.length_map, List.length_take]; simp only [List.length_cons, List.length_nil]; omega) rfl ?_ | refine W.app 0 (.t rfl) rfl (.arr 1 (.t rfl) rfl (by simp [AV.okc, shV])) Try.underlying26 ni26 ty28 rfl rfl (by rw [List.length_map, List.length_take]; simp only [List.length_cons, List.length_nil]; omega) rfl ?_ | refine W.app 0 (.t rfl) rfl (.arr 2 (.t rfl) rfl (by simp [AV.okc, shV])) Try.underlying26 ni26 ty28 rfl rfl (by rw [List.length_map, List.length_take]; simp only [List.length_cons, List.length_nil]; omega) rfl ?_ | refine W.app 0 (.t rfl) rfl (.arr 3 (.t rfl) rfl (by simp [AV.okc, shV])) Try.underlying26 ni26 ty28 rfl rfl (by rw [List.length_map, List.length_take]; simp only [List.length_cons, List.length_nil]; omega) rfl ?_ | refine W.app 1 (.t rfl) rfl (.arr 0 (.t rfl) rfl (by simp [AV.okc, shV])) Try.underlying26 ni26 ty28 rfl rfl (by rw [List.length_map, List.length_take]; simp only [List.length_cons, List.length_nil]; omega) rfl ?_ | refine W.app 1 (.t rfl) rfl (.arr 1 (.t rfl) rfl (by simp [AV.okc, shV])) Try.underlying26 ni26 ty28 rfl rfl (by rw [List.length_map, List.length_take]; simp only [List.length_cons, List.length_nil]; omega) rfl ?_ | refine W.app 1 (.t rfl) rfl (.arr 2 (.t rfl) rfl (by simp [AV.okc, shV])) Try.underlying26 ni26 ty28 rfl rfl (by rw [List.length_map, List.length_take]; simp only [List.length_cons, List.length_nil]; omega) rfl ?_ | refine W.app 1 (.t rfl) rfl (.arr 3 (.t rfl) rfl (by simp [AV.okc, shV])) Try.underlying26 ni26 ty28 rfl rfl (by rw [List.length_map, List.length_take]; simp only [List.length_cons, List.length_nil]; omega) rfl ?_ | refine W.app 2 (.t rfl) rfl (.arr 0 (.t rfl) rfl (by simp [AV.okc, shV])) Try.underlying26 ni26 ty28 rfl rfl (by rw [List.length_map, List.length_take]; simp only [List.length_cons, List.length_nil]; omega) rfl ?_ | refine W.app 2 (.t rfl) rfl (.arr 1 (.t rfl) rfl (by simp [AV.okc, shV])) Try.underlying26 ni26 ty28 rfl rfl (by rw [List.length_map, List.length_take]; simp only [List.length_cons, List.length_nil]; omega) rfl ?_ | refine W.app 2 (.t rfl) rfl (.arr 2 (.t rfl) rfl (by simp [AV.okc, shV])) Try.underlying26 ni26 ty28 rfl rfl (by rw [List.length_map, List.length_take]; simp only [List.length_cons, List.length_nil]; omega) rfl ?_ | refine W.app 2 (.t rfl) rfl (.arr 3 (.t rfl) rfl (by simp [AV.okc, shV])) Try.underlying26 ni26 ty28 rfl rfl (by rw [List.length_map, List.length_take]; simp only [List.length_cons, List.length_nil]; omega) rfl ?_ | refine W.app 3 (.t rfl) rfl (.arr 0 (.t rfl) rfl (by simp [AV.okc, shV])) Try.underlying26 ni26 ty28 rfl rfl (by rw [List.length_map, List.length_take]; simp only [List.length_cons, List.length_nil]; omega) rfl ?_ | refine W.app 3 (.t rfl) rfl (.arr 1 (.t rfl) rfl (by simp [AV.okc, shV])) Try.underlying26 ni26 ty28 rfl rfl (by rw [List.length_map, List.length_take]; simp only [List.length_cons, List.length_nil]; omega) rfl ?_ | refine W.app 3 (.t rfl) rfl (.arr 2 (.t rfl) rfl (by simp [AV.okc, shV])) Try.underlying26 ni26 ty28 rfl rfl (by rw [List.length_map, List.length_take]; simp only [List.length_cons, List.length_nil]; omega) rfl ?_ | refine W.app 3 (.t rfl) rfl (.arr 3 (.t rfl) rfl (by simp [AV.okc, shV])) Try.underlying26 ni26 ty28 rfl rfl (by rw [List.length_map, List.length_take]; simp only [List.length_cons, List.length_nil]; omega) rfl ?_
    intro v36
    refine W.q (Ev.assign (.t rfl)) rfl ?_
    refine W.nil ?_
    refine W.blk_normal ?_
    refine W.then ?_
    refine W.reach (D := []) (k + 1, v36) ⟨rfl, rfl, rfl, trivial⟩ (by rw [hsn, Ex.map_snoc]; exact .refl _) ⟨by show k + 1 ≤ _; omega, by show _ - (k + 1) < _; omega⟩
  · subst hr0
    rw [hend, List.drop_length, show (It.stx [] ++ [] : List UInt8) = [] from rfl, List.take_of_length_le (show (It.sev s).length ≤ s.length from by omega)]
    refine W.seq ?_
    refine W.seq ?_
    refine W.region ?_
    refine W.q (Ev.move (.t rfl)) rfl ?_
    refine W.q (Ev.nilc (.t rfl)) rfl ?_
    first | refine W.q (Ev.fae (.t rfl) fa51_1 rfl) rfl ?_ | refine W.q (Ev.fab (.t rfl) fa51_1) rfl ?_ | refine W.q (Ev.faa (.t rfl) fa51_1) rfl ?_
    first | refine W.q (Ev.lde1 (.t rfl) ag4) rfl ?_ | refine W.q (Ev.ldb1 0 (.t rfl) rfl ag4 rfl) rfl ?_ | refine W.q (Ev.ldb1 1 (.t rfl) rfl ag4 rfl) rfl ?_ | refine W.q (Ev.ldb1 2 (.t rfl) rfl ag4 rfl) rfl ?_ | refine W.q (Ev.ldb1 3 (.t rfl) rfl ag4 rfl) rfl ?_
    refine W.q (Ev.not (.t rfl)) rfl ?_
    refine W.q (Ev.move (.t rfl)) rfl ?_
    refine W.qgT rfl rfl (Ev.move (.t rfl)) rfl ?_
    refine W.qgT rfl rfl (Ev.nilc (.c rfl)) rfl ?_
    first | refine W.qgT rfl rfl (Ev.fae (.c rfl) fa51_0 rfl) rfl ?_ | refine W.qgT rfl rfl (Ev.fab (.c rfl) fa51_0) rfl ?_ | refine W.qgT rfl rfl (Ev.faa (.c rfl) fa51_0) rfl ?_
    first | refine W.qgT rfl rfl (Ev.lde1 (.c rfl) ag9) rfl ?_ | refine W.qgT rfl rfl (Ev.ldb1 0 (.c rfl) rfl ag9 rfl) rfl ?_ | refine W.qgT rfl rfl (Ev.ldb1 1 (.c rfl) rfl ag9 rfl) rfl ?_ | refine W.qgT rfl rfl (Ev.ldb1 2 (.c rfl) rfl ag9 rfl) rfl ?_ | refine W.qgT rfl rfl (Ev.ldb1 3 (.c rfl) rfl ag9 rfl) rfl ?_
    refine W.qgT rfl rfl (Ev.nes (.c rfl) .k) rfl ?_
    refine W.q (Ev.and (.t rfl) ⟨_, _, rfl, rfl, by first | (simp; done) | (intro hg_ hp_; simp [hp_]; done) | (simp <;> omega; done) | (simp_all; done) | grind⟩) rfl ?_
    refine W.q (Ev.move (.t rfl)) rfl ?_
    refine W.is (t := 16) (g := true) (av' := .bool false) rfl rfl ?_
    refine W.gnob rfl rfl (by simp) rfl ?_
    refine W.gnob rfl rfl (by simp) rfl ?_
    refine W.gnob rfl rfl (by simp) rfl ?_
    refine W.gnob rfl rfl (by simp) rfl ?_
    refine W.gnob rfl rfl (by simp) rfl ?_
    refine W.gnob rfl rfl (by simp) rfl ?_
    refine W.q (Ev.and (.t rfl) ⟨_, _, rfl, rfl, by first | (simp; done) | (intro hg_ hp_; simp [hp_]; done) | (simp <;> omega; done) | (simp_all; done) | grind⟩) rfl ?_
    refine W.q (Ev.move (.t rfl)) rfl ?_
    refine W.is (t := 24) (g := true) (av' := .bool false) rfl rfl ?_
    refine W.gnob rfl rfl (by simp) rfl ?_
    refine W.gnob rfl rfl (by simp) rfl ?_
    refine W.gnob rfl rfl (by simp) rfl ?_
    refine W.gnob rfl rfl (by simp) rfl ?_
    refine W.gnob rfl rfl (by simp) rfl ?_
    refine W.gnob rfl rfl (by simp) rfl ?_
    refine W.q (Ev.and (.t rfl) ⟨_, _, rfl, rfl, by first | (simp; done) | (intro hg_ hp_; simp [hp_]; done) | (simp <;> omega; done) | (simp_all; done) | grind⟩) rfl ?_
    refine W.nil ?_
    refine W.then ?_
    refine W.is (t := 31) (g := true) (av' := .lit (.bool false)) rfl (congrArg (fun b => AV.lit (.bool b)) (by rfl)) ?_
    refine W.condF (.t rfl) ?_
    refine W.exit ?_
    refine W.then_exit ?_
    refine W.then_exit ?_
    refine W.blk_hit ?_
    refine W.then ?_
    refine W.seq ?_
    refine W.region ?_
    refine W.q (Ev.move (.t rfl)) rfl ?_
    refine W.freezeA (M1 := [_, _]) (M2 := [_, _]) (D := []) (v := v) (L' := [(37, true, .sl 3 ((It.sev s).map Ex.av))]) (List.perm_middle (l₁ := [_])) ⟨⟨_, rfl, .one .hit⟩, trivial⟩ (FrzMs.refl _) ?_
    refine W.callp (WParse1.c_together 2 (It.sev s) hz) ⟨.k, (.t rfl), trivial⟩ rfl ?_
    first | refine W.stb 0 (.t rfl) (.t rfl) rfl ty28 rfl rfl rfl ?_ | refine W.stb 1 (.t rfl) (.t rfl) rfl ty28 rfl rfl rfl ?_ | refine W.stb 2 (.t rfl) (.t rfl) rfl ty28 rfl rfl rfl ?_ | refine W.stb 3 (.t rfl) (.t rfl) rfl ty28 rfl rfl rfl ?_
    refine W.nil ?_
    refine W.then ?_
    refine W.ret ?_
    refine W.retn (M' := [_]) (D := _) (rs := [.cell 2 28]) (avs := [_]) Try.results25 ⟨⟨_, _, _, rfl, by first | exact List.mem_cons_self | exact List.mem_cons_of_mem _ List.mem_cons_self | exact List.mem_cons_of_mem _ (List.mem_cons_of_mem _ List.mem_cons_self) | exact List.mem_cons_of_mem _ (List.mem_cons_of_mem _ (List.mem_cons_of_mem _ List.mem_cons_self)) | exact List.mem_cons_of_mem _ (List.mem_cons_of_mem _ (List.mem_cons_of_mem _ (List.mem_cons_of_mem _ List.mem_cons_self))), rfl, by funext w; exact ag28.run w, by funext w; exact ty28.size w⟩, trivial⟩ rfl (.refl _) ?_
    exact ⟨rfl, rfl⟩
  · subst hr0
    rw [hend, List.drop_length, show (It.stx [] ++ c :: t : List UInt8) = c :: t from rfl, List.take_of_length_le (show (It.sev s).length ≤ s.length from by omega)]
    have hcc : ((c.toNat : Nat) : Int) = 124 ∨ ((c.toNat : Nat) : Int) = 41 := by
      rcases hr with h | ⟨t2, h | h⟩
      · cases h
      · rw [(List.cons.inj h).1]; exact .inr rfl
      · rw [(List.cons.inj h).1]; exact .inl rfl
    refine W.seq ?_
    refine W.seq ?_
    refine W.region ?_
    refine W.q (Ev.move (.t rfl)) rfl ?_
    refine W.q (Ev.nilc (.t rfl)) rfl ?_
    first | refine W.q (Ev.fae (.t rfl) fa51_1 rfl) rfl ?_ | refine W.q (Ev.fab (.t rfl) fa51_1) rfl ?_ | refine W.q (Ev.faa (.t rfl) fa51_1) rfl ?_
    first | refine W.q (Ev.lde1 (.t rfl) ag4) rfl ?_ | refine W.q (Ev.ldb1 0 (.t rfl) rfl ag4 rfl) rfl ?_ | refine W.q (Ev.ldb1 1 (.t rfl) rfl ag4 rfl) rfl ?_ | refine W.q (Ev.ldb1 2 (.t rfl) rfl ag4 rfl) rfl ?_ | refine W.q (Ev.ldb1 3 (.t rfl) rfl ag4 rfl) rfl ?_
    refine W.q (Ev.not (.t rfl)) rfl ?_
    refine W.q (Ev.move (.t rfl)) rfl ?_
    refine W.qgT rfl rfl (Ev.move (.t rfl)) rfl ?_
    refine W.qgT rfl rfl (Ev.nilc (.c rfl)) rfl ?_
    first | refine W.qgT rfl rfl (Ev.fae (.c rfl) fa51_0 rfl) rfl ?_ | refine W.qgT rfl rfl (Ev.fab (.c rfl) fa51_0) rfl ?_ | refine W.qgT rfl rfl (Ev.faa (.c rfl) fa51_0) rfl ?_
    first | refine W.qgT rfl rfl (Ev.lde1 (.c rfl) ag9) rfl ?_ | refine W.qgT rfl rfl (Ev.ldb1 0 (.c rfl) rfl ag9 rfl) rfl ?_ | refine W.qgT rfl rfl (Ev.ldb1 1 (.c rfl) rfl ag9 rfl) rfl ?_ | refine W.qgT rfl rfl (Ev.ldb1 2 (.c rfl) rfl ag9 rfl) rfl ?_ | refine W.qgT rfl rfl (Ev.ldb1 3 (.c rfl) rfl ag9 rfl) rfl ?_
    refine W.qgT rfl rfl (Ev.nes (.c rfl) .k) rfl ?_
    refine W.q (Ev.and (.t rfl) ⟨_, _, rfl, rfl, by first | (simp; done) | (intro hg_ hp_; simp [hp_]; done) | (simp <;> omega; done) | (simp_all; done) | grind⟩) rfl ?_
    refine W.q (Ev.move (.t rfl)) rfl ?_
    refine W.qgT rfl rfl (Ev.move (.t rfl)) rfl ?_
    refine W.qgT rfl rfl (Ev.nilc (.c rfl)) rfl ?_
    first | refine W.qgT rfl rfl (Ev.fae (.c rfl) fa51_0 rfl) rfl ?_ | refine W.qgT rfl rfl (Ev.fab (.c rfl) fa51_0) rfl ?_ | refine W.qgT rfl rfl (Ev.faa (.c rfl) fa51_0) rfl ?_
    first | refine W.qgT rfl rfl (Ev.lde1 (.c rfl) ag9) rfl ?_ | refine W.qgT rfl rfl (Ev.ldb1 0 (.c rfl) rfl ag9 rfl) rfl ?_ | refine W.qgT rfl rfl (Ev.ldb1 1 (.c rfl) rfl ag9 rfl) rfl ?_ | refine W.qgT rfl rfl (Ev.ldb1 2 (.c rfl) rfl ag9 rfl) rfl ?_ | refine W.qgT rfl rfl (Ev.ldb1 3 (.c rfl) rfl ag9 rfl) rfl ?_
    refine W.qgT rfl rfl (Ev.ats (b := c) (.c rfl) .k Try.underlying9 (fun _ => ⟨by decide, rfl⟩)) rfl ?_
    refine W.qgT rfl rfl (Ev.nei (.c rfl) .k) rfl ?_
    refine W.q (Ev.and (.t rfl) ⟨_, _, rfl, rfl, by first | (simp; done) | (intro hg_ hp_; simp [hp_]; done) | (simp <;> omega; done) | (simp_all; done) | grind⟩) rfl ?_
    refine W.q (Ev.move (.t rfl)) rfl ?_
    refine W.qgT rfl rfl (Ev.move (.t rfl)) rfl ?_
    refine W.qgT rfl rfl (Ev.nilc (.c rfl)) rfl ?_
    first | refine W.qgT rfl rfl (Ev.fae (.c rfl) fa51_0 rfl) rfl ?_ | refine W.qgT rfl rfl (Ev.fab (.c rfl) fa51_0) rfl ?_ | refine W.qgT rfl rfl (Ev.faa (.c rfl) fa51_0) rfl ?_
    first | refine W.qgT rfl rfl (Ev.lde1 (.c rfl) ag9) rfl ?_ | refine W.qgT rfl rfl (Ev.ldb1 0 (.c rfl) rfl ag9 rfl) rfl ?_ | refine W.qgT rfl rfl (Ev.ldb1 1 (.c rfl) rfl ag9 rfl) rfl ?_ | refine W.qgT rfl rfl (Ev.ldb1 2 (.c rfl) rfl ag9 rfl) rfl ?_ | refine W.qgT rfl rfl (Ev.ldb1 3 (.c rfl) rfl ag9 rfl) rfl ?_
    refine W.qgT rfl rfl (Ev.ats (b := c) (.c rfl) .k Try.underlying9 (fun _ => ⟨by decide, rfl⟩)) rfl ?_
    refine W.qgT rfl rfl (Ev.nei (.c rfl) .k) rfl ?_
    refine W.q (Ev.and (.t rfl) ⟨_, _, rfl, rfl, by first | (simp; done) | (intro hg_ hp_; simp [hp_]; done) | (simp <;> omega; done) | (simp_all; done) | grind⟩) rfl ?_
    refine W.nil ?_
    refine W.then ?_
    refine W.is (t := 31) (g := true) (av' := .lit (.bool false)) rfl (congrArg (fun b => AV.lit (.bool b)) (by rcases hcc with h | h <;> rw [h] <;> simp)) ?_
    refine W.condF (.t rfl) ?_
    refine W.exit ?_
    refine W.then_exit ?_
    refine W.then_exit ?_
    refine W.blk_hit ?_
    refine W.then ?_
    refine W.seq ?_
    refine W.region ?_
    refine W.q (Ev.move (.t rfl)) rfl ?_
    refine W.freezeA (M1 := [_, _]) (M2 := [_, _]) (D := []) (v := v) (L' := [(37, true, .sl 3 ((It.sev s).map Ex.av))]) (List.perm_middle (l₁ := [_])) ⟨⟨_, rfl, .one .hit⟩, trivial⟩ (FrzMs.refl _) ?_
    refine W.callp (WParse1.c_together 2 (It.sev s) hz) ⟨.k, (.t rfl), trivial⟩ rfl ?_
    first | refine W.stb 0 (.t rfl) (.t rfl) rfl ty28 rfl rfl rfl ?_ | refine W.stb 1 (.t rfl) (.t rfl) rfl ty28 rfl rfl rfl ?_ | refine W.stb 2 (.t rfl) (.t rfl) rfl ty28 rfl rfl rfl ?_ | refine W.stb 3 (.t rfl) (.t rfl) rfl ty28 rfl rfl rfl ?_
    refine W.nil ?_
    refine W.then ?_
    refine W.ret ?_
    refine W.retn (M' := [_]) (D := _) (rs := [.cell 2 28]) (avs := [_]) Try.results25 ⟨⟨_, _, _, rfl, by first | exact List.mem_cons_self | exact List.mem_cons_of_mem _ List.mem_cons_self | exact List.mem_cons_of_mem _ (List.mem_cons_of_mem _ List.mem_cons_self) | exact List.mem_cons_of_mem _ (List.mem_cons_of_mem _ (List.mem_cons_of_mem _ List.mem_cons_self)) | exact List.mem_cons_of_mem _ (List.mem_cons_of_mem _ (List.mem_cons_of_mem _ (List.mem_cons_of_mem _ List.mem_cons_self))), rfl, by funext w; exact ag28.run w, by funext w; exact ty28.size w⟩, trivial⟩ rfl (.refl _) ?_
    exact ⟨rfl, rfl⟩

theorem c_alt (b : Nat) (s : List It) (a : List (List It)) (r : List UInt8) (hz : Ex.szs (It.sq s :: It.aev a) ≤ 16777216) (hS : ∀ t, (t = s ∨ t ∈ a) → ∀ r, It.endS r → FnC Try.prog 25 [.lit (.pointer (some ⟨b, 0, none⟩))] [.box b 51 [.str (It.stx (t) ++ r), .bool false]] (fun x M => x = (It.sq (t)).avx ∧ M = [.box b 51 [.str (r), .bool false]])) (hr : It.endA r) : FnC Try.prog 19 [.lit (.pointer (some ⟨b, 0, none⟩))] [.box b 51 [.str (It.stx (s) ++ (It.atl (a) ++ r)), .bool false]] (fun x M => x = (It.al (s) (a)).avx ∧ M = [.box b 51 [.str (r), .bool false]]) :=  by
  refine FnC.mk Try.func19 (by kernel_rfl) rfl Try.ntmps19 rfl (fun w0 F => ?_)
  have ham : (It.aev a).length = a.length := by rw [It.aev_map, List.length_map]
  have hsz := Ex.szs_len (It.sq s :: It.aev a)
  rw [List.length_cons] at hsz
  refine W.seq ?_
  refine W.region ?_
  refine W.alloc ty28 rfl rfl ?_
  intro b2
  refine W.nil ?_
  refine W.then ?_
  refine W.seq ?_
  refine W.region ?_
  refine W.q (Ev.move (.t rfl)) rfl ?_
  refine W.call (hS s (.inl rfl) _ (It.endS_atl a hr)) ⟨(.t rfl), trivial⟩ ((List.Perm.swap _ _ [])) rfl ?_
  rintro _ _ ⟨rfl, rfl⟩
  refine W.bso (es := [_]) Try.underlying26 ty28 ⟨rfl, (.t rfl), rfl, rfl, trivial⟩ rfl (by decide) rfl rfl ?_
  intro v6
  refine W.q (Ev.assign (.t rfl)) rfl ?_
  refine W.nil ?_
  refine W.then ?_
  refine W.seq ?_
  refine W.block ?_
  refine W.loop (D := []) (ι := Nat × Value) (fun z => [(0, true, .lit (.pointer (some ⟨b, 0, none⟩))), (2, true, .lit (.pointer (some ⟨b2, 0, none⟩))), (3, true, .lit z.2)]) (fun z => [.box b 51 [.str (It.atl (a.drop z.1) ++ r), .bool false], .arr z.2 28 3 (([It.sq s] ++ (It.aev a).take z.1).map Ex.av), .box b2 28 [.int 0, .int 0, .lit (.slice none 0 0)]]) (fun z => z.1 ≤ a.length) (fun z => a.length - z.1) (0, v6) ⟨rfl, rfl, rfl, trivial⟩ (by have e : ([It.sq s] ++ (It.aev a).take 0).map Ex.av = [(It.sq s).avx] := (by rw [List.take_zero]; show [(It.sq s).av] = _; rw [Ex.av_eq]); dsimp only; rw [e]; exact List.Perm.swap _ _ _) (Nat.zero_le _) ?_
  rintro ⟨k, v⟩ hk
  dsimp only at hk ⊢
  rcases (show k < a.length ∨ k = a.length from by omega) with hlt | hend
  · have htm := getD_memG [] a k hlt
    have hdr := It.atl_drop a k hlt
    have hsn : (It.aev a).take (k + 1) = (It.aev a).take k ++ [It.sq (a.getD k [])] := by rw [It.aev_map, ← List.map_take, take_getDG [] a k hlt, List.map_append, ← List.map_take]; rfl
    generalize a.getD k [] = u at htm hdr hsn
    rw [hdr, List.cons_append, List.append_assoc]
    refine W.seq ?_
    refine W.seq ?_
    refine W.region ?_
    refine W.q (Ev.move (.t rfl)) rfl ?_
    refine W.call (WParse1.c_takesT b 124 _) ⟨(.t rfl), .k, trivial⟩ (.refl _) rfl ?_
    rintro _ _ ⟨rfl, rfl⟩
    refine W.nil ?_
    refine W.then ?_
    refine W.is (t := 8) (g := true) (av' := .lit (.bool true)) rfl (congrArg (fun b => AV.lit (.bool b)) (by rfl)) ?_
    refine W.condT (.t rfl) ?_
    refine W.skip ?_
    refine W.then ?_
    refine W.block ?_
    refine W.region ?_
    refine W.q (Ev.move (.t rfl)) rfl ?_
    refine W.q (Ev.move (.t rfl)) rfl ?_
    refine W.call (hS u (.inr htm) _ (It.endS_atl _ hr)) ⟨(.t rfl), trivial⟩ (.refl _) rfl ?_
    rintro _ _ ⟨rfl, rfl⟩
    refine W.bs (es := [_]) Try.underlying26 ty28 ⟨rfl, (.t rfl), rfl, rfl, trivial⟩ rfl (by decide) rfl rfl ?_
    first | refine W.app 0 (.t rfl) rfl (.sl (.t rfl) (by simp [AV.okc, shV])) Try.underlying26 ni26 ty28 rfl rfl (by rw [List.length_map, List.length_append, List.length_take]; simp only [List.length_cons, List.length_nil]; omega) rfl ?_ | refine W.app 1 (.t rfl) rfl (.sl (.t rfl) (by simp [AV.okc, shV])) Try.underlying26 ni26 ty28 rfl rfl (by rw [List.length_map, List.length_append, List.length_take]; simp only [List.length_cons, List.length_nil]; omega) rfl ?_ | refine W.app 2 (.t rfl) rfl (.sl (.t rfl) (by simp [AV.okc, shV])) Try.underlying26 ni26 ty28 rfl rfl (by rw [List.length_map, List.length_append, List.length_take]; simp only [List.length_cons, List.length_nil]; omega) rfl ?_ | refine W.app 3 (.t rfl) rfl (.sl (.t rfl) (by simp [AV.okc, shV])) Try.underlying26 ni26 ty28 rfl rfl (by rw [List.length_map, List.length_append, List.length_take]; simp only [List.length_cons, List.length_nil]; omega) rfl ?_ | refine W.app 0 (.t rfl) rfl (.arr 0 (.t rfl) rfl (by simp [AV.okc, shV])) Try.underlying26 ni26 ty28 rfl rfl (by rw [List.length_map, List.length_append, List.length_take]; simp only [List.length_cons, List.length_nil]; omega) rfl ?_ | refine W.app 0 (.t rfl) rfl (.arr 1 (.t rfl) rfl (by simp [AV.okc, shV])) Try.underlying26 ni26 ty28 rfl rfl (by rw [List.length_map, List.length_append, List.length_take]; simp only [List.length_cons, List.length_nil]; omega) rfl ?_ | refine W.app 0 (.t rfl) rfl (.arr 2 (.t rfl) rfl (by simp [AV.okc, shV])) Try.underlying26 ni26 ty28 rfl rfl (by rw [List.length_map, List.length_append, List.length_take]; simp only [List.length_cons, List.length_nil]; omega) rfl ?_ | refine W.app 0 (.t rfl) rfl (.arr 3 (.t rfl) rfl (by simp [AV.okc, shV])) Try.underlying26 ni26 ty28 rfl rfl (by rw [List.length_map, List.length_append, List.length_take]; simp only [List.length_cons, List.length_nil]; omega) rfl ?_ | refine W.app 1 (.t rfl) rfl (.arr 0 (.t rfl) rfl (by simp [AV.okc, shV])) Try.underlying26 ni26 ty28 rfl rfl (by rw [List.length_map, List.length_append, List.length_take]; simp only [List.length_cons, List.length_nil]; omega) rfl ?_ | refine W.app 1 (.t rfl) rfl (.arr 1 (.t rfl) rfl (by simp [AV.okc, shV])) Try.underlying26 ni26 ty28 rfl rfl (by rw [List.length_map, List.length_append, List.length_take]; simp only [List.length_cons, List.length_nil]; omega) rfl ?_ | refine W.app 1 (.t rfl) rfl (.arr 2 (.t rfl) rfl (by simp [AV.okc, shV])) Try.underlying26 ni26 ty28 rfl rfl (by rw [List.length_map, List.length_append, List.length_take]; simp only [List.length_cons, List.length_nil]; omega) rfl ?_ | refine W.app 1 (.t rfl) rfl (.arr 3 (.t rfl) rfl (by simp [AV.okc, shV])) Try.underlying26 ni26 ty28 rfl rfl (by rw [List.length_map, List.length_append, List.length_take]; simp only [List.length_cons, List.length_nil]; omega) rfl ?_ | refine W.app 2 (.t rfl) rfl (.arr 0 (.t rfl) rfl (by simp [AV.okc, shV])) Try.underlying26 ni26 ty28 rfl rfl (by rw [List.length_map, List.length_append, List.length_take]; simp only [List.length_cons, List.length_nil]; omega) rfl ?_ | refine W.app 2 (.t rfl) rfl (.arr 1 (.t rfl) rfl (by simp [AV.okc, shV])) Try.underlying26 ni26 ty28 rfl rfl (by rw [List.length_map, List.length_append, List.length_take]; simp only [List.length_cons, List.length_nil]; omega) rfl ?_ | refine W.app 2 (.t rfl) rfl (.arr 2 (.t rfl) rfl (by simp [AV.okc, shV])) Try.underlying26 ni26 ty28 rfl rfl (by rw [List.length_map, List.length_append, List.length_take]; simp only [List.length_cons, List.length_nil]; omega) rfl ?_ | refine W.app 2 (.t rfl) rfl (.arr 3 (.t rfl) rfl (by simp [AV.okc, shV])) Try.underlying26 ni26 ty28 rfl rfl (by rw [List.length_map, List.length_append, List.length_take]; simp only [List.length_cons, List.length_nil]; omega) rfl ?_ | refine W.app 3 (.t rfl) rfl (.arr 0 (.t rfl) rfl (by simp [AV.okc, shV])) Try.underlying26 ni26 ty28 rfl rfl (by rw [List.length_map, List.length_append, List.length_take]; simp only [List.length_cons, List.length_nil]; omega) rfl ?_ | refine W.app 3 (.t rfl) rfl (.arr 1 (.t rfl) rfl (by simp [AV.okc, shV])) Try.underlying26 ni26 ty28 rfl rfl (by rw [List.length_map, List.length_append, List.length_take]; simp only [List.length_cons, List.length_nil]; omega) rfl ?_ | refine W.app 3 (.t rfl) rfl (.arr 2 (.t rfl) rfl (by simp [AV.okc, shV])) Try.underlying26 ni26 ty28 rfl rfl (by rw [List.length_map, List.length_append, List.length_take]; simp only [List.length_cons, List.length_nil]; omega) rfl ?_ | refine W.app 3 (.t rfl) rfl (.arr 3 (.t rfl) rfl (by simp [AV.okc, shV])) Try.underlying26 ni26 ty28 rfl rfl (by rw [List.length_map, List.length_append, List.length_take]; simp only [List.length_cons, List.length_nil]; omega) rfl ?_
    intro v13
    refine W.q (Ev.assign (.t rfl)) rfl ?_
    refine W.nil ?_
    refine W.blk_normal ?_
    refine W.then ?_
    refine W.reach (D := []) (k + 1, v13) ⟨rfl, rfl, rfl, trivial⟩ (by rw [hsn, ← List.append_assoc, Ex.map_snoc]; exact .refl _) ⟨by show k + 1 ≤ _; omega, by show _ - (k + 1) < _; omega⟩
  · rw [hend, List.drop_length, show (It.atl [] ++ r : List UInt8) = r from rfl, List.take_of_length_le (show (It.aev a).length ≤ a.length from by omega), show [It.sq s] ++ It.aev a = It.sq s :: It.aev a from rfl]
    refine W.seq ?_
    refine W.seq ?_
    refine W.region ?_
    refine W.q (Ev.move (.t rfl)) rfl ?_
    refine W.call (WParse1.c_takesF b 124 r (fun t e => by rcases hr with h | ⟨t2, h⟩ <;> (rw [h] at e; cases e))) ⟨(.t rfl), .k, trivial⟩ (.refl _) rfl ?_
    rintro _ _ ⟨rfl, rfl⟩
    refine W.nil ?_
    refine W.then ?_
    refine W.is (t := 8) (g := true) (av' := .lit (.bool false)) rfl (congrArg (fun b => AV.lit (.bool b)) (by rfl)) ?_
    refine W.condF (.t rfl) ?_
    refine W.exit ?_
    refine W.then_exit ?_
    refine W.then_exit ?_
    refine W.blk_hit ?_
    refine W.then ?_
    refine W.seq ?_
    refine W.region ?_
    refine W.q (Ev.move (.t rfl)) rfl ?_
    refine W.freezeA (M1 := [_, _]) (M2 := [_, _]) (D := []) (v := v) (L' := [(14, true, .sl 3 ((It.sq s :: It.aev a).map Ex.av))]) (List.perm_middle (l₁ := [_])) ⟨⟨_, rfl, .one .hit⟩, trivial⟩ (FrzMs.refl _) ?_
    refine W.callp (WParse1.c_together 3 (It.sq s :: It.aev a) hz) ⟨.k, (.t rfl), trivial⟩ rfl ?_
    first | refine W.stb 0 (.t rfl) (.t rfl) rfl ty28 rfl rfl rfl ?_ | refine W.stb 1 (.t rfl) (.t rfl) rfl ty28 rfl rfl rfl ?_ | refine W.stb 2 (.t rfl) (.t rfl) rfl ty28 rfl rfl rfl ?_ | refine W.stb 3 (.t rfl) (.t rfl) rfl ty28 rfl rfl rfl ?_
    refine W.nil ?_
    refine W.then ?_
    refine W.ret ?_
    refine W.retn (M' := [.box b 51 [.str (r), .bool false]]) (D := _) (rs := [.cell 2 28]) (avs := [_]) Try.results19 ⟨⟨_, _, _, rfl, by first | exact List.mem_cons_self | exact List.mem_cons_of_mem _ List.mem_cons_self | exact List.mem_cons_of_mem _ (List.mem_cons_of_mem _ List.mem_cons_self) | exact List.mem_cons_of_mem _ (List.mem_cons_of_mem _ (List.mem_cons_of_mem _ List.mem_cons_self)) | exact List.mem_cons_of_mem _ (List.mem_cons_of_mem _ (List.mem_cons_of_mem _ (List.mem_cons_of_mem _ List.mem_cons_self))), rfl, by funext w; exact ag28.run w, by funext w; exact ty28.size w⟩, trivial⟩ rfl (.refl _) ?_
    exact ⟨rfl, rfl⟩

theorem c_item (b : Nat) : ∀ i : It, It.ok i → (It.tx i).length ≤ 1048576 → ∀ r, It.endI r → FnC Try.prog 37 [.lit (.pointer (some ⟨b, 0, none⟩))] [.box b 51 [.str (It.tx (i) ++ r), .bool false]] (fun x M => x = (It.ev (i)).avx ∧ M = [.box b 51 [.str (r), .bool false]]) := by
  suffices H : ∀ n, ∀ i : It, It.sz i ≤ n → It.ok i → (It.tx i).length ≤ 1048576 → ∀ r, It.endI r → FnC Try.prog 37 [.lit (.pointer (some ⟨b, 0, none⟩))] [.box b 51 [.str (It.tx (i) ++ r), .bool false]] (fun x M => x = (It.ev (i)).avx ∧ M = [.box b 51 [.str (r), .bool false]]) from fun i => H _ i (Nat.le_refl _)
  intro n
  induction n with
  | zero => intro i hi; cases i <;> simp only [It.sz] at hi <;> omega
  | succ n ih =>
    intro i hi hok hz r hr
    cases i with
    | ch m sf => simp only [It.ok] at hok; exact c_item_ch b m sf r hok.1 hok.2 hr
    | gr s a sf =>
      simp only [It.sz] at hi
      simp only [It.ok] at hok
      have hal := It.al_big s a
      have hle : (It.stx s ++ It.atl a).length ≤ 1048576 := by rw [It.tx] at hz; simp only [List.length_cons, List.length_append] at hz ⊢; omega
      refine c_item_gr b s a sf r (fun r hr => c_alt b s a r (by omega) (fun t ht r hr => ?_) hr) hok.2 hr
      have hto : It.oks t := ht.elim (fun e => e ▸ hok.1.1) fun hm => (It.oka_iff a).1 hok.1.2 t hm
      have htz : It.szs t ≤ n := ht.elim (fun e => by subst e; omega) fun hm => by have := It.szs_mem hm; omega
      have htl := It.al_mem ht
      have hts := It.sev_big t
      exact c_seq b t r hto (by omega) (fun i hi' r hr => ih i (by have := It.sz_mem hi'; omega) ((It.oks_iff t).1 hto i hi') (by have := It.stx_mem hi'; omega) r hr) hr
theorem c_top (b : Nat) (s : List It) (a : List (List It)) (hs : It.oks s) (ha : It.oka a) (hz : (It.stx s ++ It.atl a).length ≤ 1048576) : FnC Try.prog 19 [.lit (.pointer (some ⟨b, 0, none⟩))] [.box b 51 [.str (It.stx (s) ++ (It.atl (a) ++ [])), .bool false]] (fun x M => x = (It.al (s) (a)).avx ∧ M = [.box b 51 [.str ([]), .bool false]]) := by
  have hal := It.al_big s a
  refine c_alt b s a [] (by omega) (fun t ht r hr => ?_) (.inl rfl)
  have hto : It.oks t := ht.elim (fun e => e ▸ hs) fun hm => (It.oka_iff a).1 ha t hm
  have htl := It.al_mem ht
  have hts := It.sev_big t
  exact c_seq b t r hto (by omega) (fun i hi' r hr => c_item b i ((It.oks_iff t).1 hto i hi') (by have := It.stx_mem hi'; omega) r hr) hr

end WParse2

end Go.Proofs.Ythhkionhimbekaa
