/-
  What a parser takes; parts that are together.
-/
import Derived.Test.YthhkionhimbekaaExprP
import Derived.Test.YthhkionhimbekaaBase
set_option linter.unusedVariables false
set_option linter.unusedSimpArgs false
set_option maxRecDepth 100000
namespace Go.Proofs.Ythhkionhimbekaa
open Go.Vl

namespace WParse1
theorem ty3 : Ty Try.prog 3 1 8 (.int .i64 0) := Ty.of (by kernel_rfl)
theorem ty9 : Ty Try.prog 9 1 16 (.string ⟨#[]⟩) := Ty.of (by kernel_rfl)
theorem ty26 : Ty Try.prog 26 1 24 (.slice none 0 0) := Ty.of (by kernel_rfl)
theorem ty28 : Ty Try.prog 28 3 40 (.agg #[.int .i64 0, .int .i64 0, .slice none 0 0]) := Ty.of (by kernel_rfl)
theorem ag3 : IsAgg Try.prog 3 false := ⟨_, Try.underlying3, rfl⟩
theorem ag9 : IsAgg Try.prog 9 false := ⟨_, Try.underlying9, rfl⟩
theorem ag26 : IsAgg Try.prog 26 false := ⟨_, Try.underlying26, rfl⟩
theorem ag28 : IsAgg Try.prog 28 true := ⟨_, Try.underlying28, rfl⟩
theorem fa28_0 : FieldAt Try.prog 28 0 0 1 false := ⟨_, _, Try.underlying28, rfl, rfl, ty3.size, ag3, by decide⟩
theorem fa28_2 : FieldAt Try.prog 28 2 2 1 false := ⟨_, _, Try.underlying28, rfl, rfl, ty26.size, ag26, by decide⟩
theorem fa51_0 : FieldAt Try.prog 51 0 0 1 false := ⟨_, _, Try.underlying51, rfl, rfl, ty9.size, ag9, by decide⟩
theorem st28 : StructAt Try.prog 28 [(0, 1), (1, 1), (2, 1)] := ⟨_, Try.underlying28, rfl, ty3.size, rfl, ty3.size, rfl, ty26.size, trivial⟩
theorem ni26 : NotInt Try.prog 26 := .inl ⟨_, Try.underlying26⟩
theorem c_takesT (b : Nat) (c : UInt8) (r : List UInt8) : FnC Try.prog 26 [.lit (.pointer (some ⟨b, 0, none⟩)), .u8 c] [.box b 51 [.str (c :: r), .bool false]] (fun x M => x = .bool true ∧ M = [.box b 51 [.str (r), .bool false]]) :=  by
  refine FnC.mk Try.func26 (by kernel_rfl) rfl Try.ntmps26 rfl (fun w0 F => ?_)
  refine W.seq ?_
  refine W.region ?_
  refine W.q (Ev.assign .k) rfl ?_
  refine W.nil ?_
  refine W.then ?_
  refine W.seq ?_
  refine W.seq ?_
  refine W.region ?_
  refine W.q (Ev.move (.t rfl)) rfl ?_
  refine W.q (Ev.nilc (.t rfl)) rfl ?_
  first | refine W.q (Ev.fae (.t rfl) fa51_0 rfl) rfl ?_ | refine W.q (Ev.fab (.t rfl) fa51_0) rfl ?_ | refine W.q (Ev.faa (.t rfl) fa51_0) rfl ?_
  first | refine W.q (Ev.lde1 (.t rfl) ag9) rfl ?_ | refine W.q (Ev.ldb1 0 (.t rfl) rfl ag9 rfl) rfl ?_ | refine W.q (Ev.ldb1 1 (.t rfl) rfl ag9 rfl) rfl ?_ | refine W.q (Ev.ldb1 2 (.t rfl) rfl ag9 rfl) rfl ?_ | refine W.q (Ev.ldb1 3 (.t rfl) rfl ag9 rfl) rfl ?_
  refine W.q (Ev.eqs (.t rfl) .k) rfl ?_
  refine W.q (Ev.move (.t rfl)) rfl ?_
  refine W.qgF rfl rfl (Ev.move (.t rfl)) rfl ?_
  refine W.qgF rfl rfl (Ev.nilc (.c rfl)) rfl ?_
  first | refine W.qgF rfl rfl (Ev.fae (.c rfl) fa51_0 rfl) rfl ?_ | refine W.qgF rfl rfl (Ev.fab (.c rfl) fa51_0) rfl ?_ | refine W.qgF rfl rfl (Ev.faa (.c rfl) fa51_0) rfl ?_
  first | refine W.qgF rfl rfl (Ev.lde1 (.c rfl) ag9) rfl ?_ | refine W.qgF rfl rfl (Ev.ldb1 0 (.c rfl) rfl ag9 rfl) rfl ?_ | refine W.qgF rfl rfl (Ev.ldb1 1 (.c rfl) rfl ag9 rfl) rfl ?_ | refine W.qgF rfl rfl (Ev.ldb1 2 (.c rfl) rfl ag9 rfl) rfl ?_ | refine W.qgF rfl rfl (Ev.ldb1 3 (.c rfl) rfl ag9 rfl) rfl ?_
  refine W.qgF rfl rfl (Ev.ats (b := c) (.c rfl) .k Try.underlying9 (fun _ => ⟨by decide, rfl⟩)) rfl ?_
  refine W.qgF rfl rfl (Ev.move (.t rfl)) rfl ?_
  refine W.qgF rfl rfl (Ev.nei (.c rfl) (.c rfl)) rfl ?_
  refine W.q (Ev.or (.t rfl) ⟨_, _, rfl, rfl, by first | (simp; done) | (intro hg_ hp_; simp [hp_]; done) | (simp <;> omega; done) | (simp_all; done) | grind⟩) rfl ?_
  refine W.nil ?_
  refine W.then ?_
  refine W.is (t := 18) (g := true) (av' := .lit (.bool false)) rfl (congrArg (fun b => AV.lit (.bool b)) (by simp)) ?_
  refine W.condF (.t rfl) ?_
  refine W.skip ?_
  refine W.then ?_
  refine W.seq ?_
  refine W.region ?_
  refine W.q (Ev.move (.t rfl)) rfl ?_
  refine W.q (Ev.move (.t rfl)) rfl ?_
  refine W.q (Ev.nilc (.t rfl)) rfl ?_
  first | refine W.q (Ev.fae (.t rfl) fa51_0 rfl) rfl ?_ | refine W.q (Ev.fab (.t rfl) fa51_0) rfl ?_ | refine W.q (Ev.faa (.t rfl) fa51_0) rfl ?_
  first | refine W.q (Ev.lde1 (.t rfl) ag9) rfl ?_ | refine W.q (Ev.ldb1 0 (.t rfl) rfl ag9 rfl) rfl ?_ | refine W.q (Ev.ldb1 1 (.t rfl) rfl ag9 rfl) rfl ?_ | refine W.q (Ev.ldb1 2 (.t rfl) rfl ag9 rfl) rfl ?_ | refine W.q (Ev.ldb1 3 (.t rfl) rfl ag9 rfl) rfl ?_
  refine W.q (Ev.subs (lo := some (.const (.int .i64 1))) (hi := none) (.t rfl) Try.underlying9 (Ov.k (g := true) (L := [])) rfl (fun _ => by simp only [List.length_cons]; omega)) rfl ?_
  refine W.is (t := 24) (g := true) (av' := .str (r)) rfl (congrArg AV.str (It.tail1 _ _)) ?_
  refine W.q (Ev.nilc (.t rfl)) rfl ?_
  first | refine W.q (Ev.fae (.t rfl) fa51_0 rfl) rfl ?_ | refine W.q (Ev.fab (.t rfl) fa51_0) rfl ?_ | refine W.q (Ev.faa (.t rfl) fa51_0) rfl ?_
  first | refine W.stb 0 (.t rfl) (.t rfl) rfl ty9 rfl rfl rfl ?_ | refine W.stb 1 (.t rfl) (.t rfl) rfl ty9 rfl rfl rfl ?_ | refine W.stb 2 (.t rfl) (.t rfl) rfl ty9 rfl rfl rfl ?_ | refine W.stb 3 (.t rfl) (.t rfl) rfl ty9 rfl rfl rfl ?_
  refine W.nil ?_
  refine W.then ?_
  refine W.seq ?_
  refine W.region ?_
  refine W.q (Ev.assign .k) rfl ?_
  refine W.nil ?_
  refine W.then ?_
  refine W.ret ?_
  refine W.retn (M' := [_]) (rs := [.tmp 4]) (avs := [_]) Try.results26 ⟨rfl, trivial⟩ rfl (.refl _) ?_
  exact ⟨rfl, rfl⟩

theorem c_takesD (b : Nat) (c d : UInt8) (r : List UInt8) (hcd : d ≠ c) : FnC Try.prog 26 [.lit (.pointer (some ⟨b, 0, none⟩)), .u8 c] [.box b 51 [.str (d :: r), .bool false]] (fun x M => x = .bool false ∧ M = [.box b 51 [.str (d :: r), .bool false]]) :=  by
  refine FnC.mk Try.func26 (by kernel_rfl) rfl Try.ntmps26 rfl (fun w0 F => ?_)
  have hn : ((d.toNat : Nat) : Int) ≠ (c.toNat : Int) := fun h => hcd (UInt8.toNat_inj.1 (by omega))
  refine W.seq ?_
  refine W.region ?_
  refine W.q (Ev.assign .k) rfl ?_
  refine W.nil ?_
  refine W.then ?_
  refine W.seq ?_
  refine W.seq ?_
  refine W.region ?_
  refine W.q (Ev.move (.t rfl)) rfl ?_
  refine W.q (Ev.nilc (.t rfl)) rfl ?_
  first | refine W.q (Ev.fae (.t rfl) fa51_0 rfl) rfl ?_ | refine W.q (Ev.fab (.t rfl) fa51_0) rfl ?_ | refine W.q (Ev.faa (.t rfl) fa51_0) rfl ?_
  first | refine W.q (Ev.lde1 (.t rfl) ag9) rfl ?_ | refine W.q (Ev.ldb1 0 (.t rfl) rfl ag9 rfl) rfl ?_ | refine W.q (Ev.ldb1 1 (.t rfl) rfl ag9 rfl) rfl ?_ | refine W.q (Ev.ldb1 2 (.t rfl) rfl ag9 rfl) rfl ?_ | refine W.q (Ev.ldb1 3 (.t rfl) rfl ag9 rfl) rfl ?_
  refine W.q (Ev.eqs (.t rfl) .k) rfl ?_
  refine W.q (Ev.move (.t rfl)) rfl ?_
  refine W.qgF rfl rfl (Ev.move (.t rfl)) rfl ?_
  refine W.qgF rfl rfl (Ev.nilc (.c rfl)) rfl ?_
  first | refine W.qgF rfl rfl (Ev.fae (.c rfl) fa51_0 rfl) rfl ?_ | refine W.qgF rfl rfl (Ev.fab (.c rfl) fa51_0) rfl ?_ | refine W.qgF rfl rfl (Ev.faa (.c rfl) fa51_0) rfl ?_
  first | refine W.qgF rfl rfl (Ev.lde1 (.c rfl) ag9) rfl ?_ | refine W.qgF rfl rfl (Ev.ldb1 0 (.c rfl) rfl ag9 rfl) rfl ?_ | refine W.qgF rfl rfl (Ev.ldb1 1 (.c rfl) rfl ag9 rfl) rfl ?_ | refine W.qgF rfl rfl (Ev.ldb1 2 (.c rfl) rfl ag9 rfl) rfl ?_ | refine W.qgF rfl rfl (Ev.ldb1 3 (.c rfl) rfl ag9 rfl) rfl ?_
  refine W.qgF rfl rfl (Ev.ats (b := d) (.c rfl) .k Try.underlying9 (fun _ => ⟨by decide, rfl⟩)) rfl ?_
  refine W.qgF rfl rfl (Ev.move (.t rfl)) rfl ?_
  refine W.qgF rfl rfl (Ev.nei (.c rfl) (.c rfl)) rfl ?_
  refine W.q (Ev.or (.t rfl) ⟨_, _, rfl, rfl, by first | (simp; done) | (intro hg_ hp_; simp [hp_]; done) | (simp <;> omega; done) | (simp_all; done) | grind⟩) rfl ?_
  refine W.nil ?_
  refine W.then ?_
  refine W.is (t := 18) (g := true) (av' := .lit (.bool true)) rfl (congrArg (fun b => AV.lit (.bool b)) (by simp; omega)) ?_
  refine W.condT (.t rfl) ?_
  refine W.seq ?_
  refine W.region ?_
  refine W.q (Ev.assign .k) rfl ?_
  refine W.nil ?_
  refine W.then ?_
  refine W.ret ?_
  refine W.then_ret ?_
  refine W.retn (M' := [_]) (rs := [.tmp 4]) (avs := [_]) Try.results26 ⟨rfl, trivial⟩ rfl (.refl _) ?_
  exact ⟨rfl, rfl⟩

theorem c_takesN (b : Nat) (c : UInt8) : FnC Try.prog 26 [.lit (.pointer (some ⟨b, 0, none⟩)), .u8 c] [.box b 51 [.str ([]), .bool false]] (fun x M => x = .bool false ∧ M = [.box b 51 [.str ([]), .bool false]]) :=  by
  refine FnC.mk Try.func26 (by kernel_rfl) rfl Try.ntmps26 rfl (fun w0 F => ?_)
  refine W.seq ?_
  refine W.region ?_
  refine W.q (Ev.assign .k) rfl ?_
  refine W.nil ?_
  refine W.then ?_
  refine W.seq ?_
  refine W.seq ?_
  refine W.region ?_
  refine W.q (Ev.move (.t rfl)) rfl ?_
  refine W.q (Ev.nilc (.t rfl)) rfl ?_
  first | refine W.q (Ev.fae (.t rfl) fa51_0 rfl) rfl ?_ | refine W.q (Ev.fab (.t rfl) fa51_0) rfl ?_ | refine W.q (Ev.faa (.t rfl) fa51_0) rfl ?_
  first | refine W.q (Ev.lde1 (.t rfl) ag9) rfl ?_ | refine W.q (Ev.ldb1 0 (.t rfl) rfl ag9 rfl) rfl ?_ | refine W.q (Ev.ldb1 1 (.t rfl) rfl ag9 rfl) rfl ?_ | refine W.q (Ev.ldb1 2 (.t rfl) rfl ag9 rfl) rfl ?_ | refine W.q (Ev.ldb1 3 (.t rfl) rfl ag9 rfl) rfl ?_
  refine W.q (Ev.eqs (.t rfl) .k) rfl ?_
  refine W.q (Ev.move (.t rfl)) rfl ?_
  refine W.gnob rfl rfl (by simp) rfl ?_
  refine W.gnob rfl rfl (by simp) rfl ?_
  refine W.gnob rfl rfl (by simp) rfl ?_
  refine W.gnob rfl rfl (by simp) rfl ?_
  refine W.gnob rfl rfl (by simp) rfl ?_
  refine W.gnob rfl rfl (by simp) rfl ?_
  refine W.gnob rfl rfl (by simp) rfl ?_
  refine W.q (Ev.or (.t rfl) ⟨_, _, rfl, rfl, by first | (simp; done) | (intro hg_ hp_; simp [hp_]; done) | (simp <;> omega; done) | (simp_all; done) | grind⟩) rfl ?_
  refine W.nil ?_
  refine W.then ?_
  refine W.is (t := 18) (g := true) (av' := .lit (.bool true)) rfl (congrArg (fun b => AV.lit (.bool b)) (by simp)) ?_
  refine W.condT (.t rfl) ?_
  refine W.seq ?_
  refine W.region ?_
  refine W.q (Ev.assign .k) rfl ?_
  refine W.nil ?_
  refine W.then ?_
  refine W.ret ?_
  refine W.then_ret ?_
  refine W.retn (M' := [_]) (rs := [.tmp 4]) (avs := [_]) Try.results26 ⟨rfl, trivial⟩ rfl (.refl _) ?_
  exact ⟨rfl, rfl⟩

theorem c_takesF (b : Nat) (c : UInt8) (r : List UInt8) (h : ∀ t, r ≠ c :: t) : FnC Try.prog 26 [.lit (.pointer (some ⟨b, 0, none⟩)), .u8 c] [.box b 51 [.str (r), .bool false]] (fun x M => x = .bool false ∧ M = [.box b 51 [.str (r), .bool false]]) := by
  cases r with
  | nil => exact c_takesN b c
  | cons d t => exact c_takesD b c d t (fun e => h t (by rw [e]))

theorem c_together (k : Int) (l : List Ex) (hl : Ex.szs l ≤ 16777216) : FnP Try.prog 27 [.int k, .sl 3 (l.map Ex.av)] (Ex.tog k l).avx :=  by
  refine FnC.mk Try.func27 (by kernel_rfl) rfl Try.ntmps27 rfl (fun w0 F => ?_)
  have hll : (l.map Ex.av).length = l.length := List.length_map ..
  have hsl := Ex.szs_len l
  have hfs := Ex.flat_szs k l
  have hfl := Ex.szs_len (Ex.flat k l)
  refine W.seq ?_
  refine W.region ?_
  refine W.alloc ty28 rfl rfl ?_
  intro b4
  refine W.nil ?_
  refine W.then ?_
  refine W.seq ?_
  refine W.seq ?_
  refine W.region ?_
  refine W.q (Ev.move (.t rfl)) rfl ?_
  first | refine W.q (Ev.lensl (.t rfl) Try.underlying26) rfl ?_ | refine W.q (Ev.lenar (i := 0) (.t rfl) rfl Try.underlying26) rfl ?_ | refine W.q (Ev.lenar (i := 1) (.t rfl) rfl Try.underlying26) rfl ?_ | refine W.q (Ev.lenar (i := 2) (.t rfl) rfl Try.underlying26) rfl ?_ | refine W.q (Ev.lenar (i := 3) (.t rfl) rfl Try.underlying26) rfl ?_ | refine W.q (Ev.lenar (i := 4) (.t rfl) rfl Try.underlying26) rfl ?_
  refine W.q (Ev.eqi (.t rfl) .k) rfl ?_
  refine W.nil ?_
  refine W.then ?_
  refine W.cond (.t rfl) (fun hc_t10 => ?_) (fun hc_t10 => ?_)
  · obtain ⟨x1, hx1⟩ : ∃ x, l = [x] := List.length_eq_one_iff.1 (by have := eq_of_beq hc_t10; omega)
    subst hx1
    refine W.seq ?_
    refine W.region ?_
    refine W.q (Ev.move (.t rfl)) rfl ?_
    refine W.q (Ev.at (E := 28) (.t rfl) .k Try.underlying26 ty28 (e := x1.avx) (fun _ => ⟨by decide, by show (List.map Ex.av [x1])[0]? = _; rw [← Ex.av_eq]; rfl⟩) rfl rfl) rfl ?_
    first | refine W.q (Ev.lden (.t rfl) ag28 ty28 rfl rfl) rfl ?_ | refine W.q (Ev.ldbn 0 (.t rfl) rfl ag28 ty28 rfl) rfl ?_ | refine W.q (Ev.ldbn 1 (.t rfl) rfl ag28 ty28 rfl) rfl ?_ | refine W.q (Ev.ldbn 2 (.t rfl) rfl ag28 ty28 rfl) rfl ?_ | refine W.q (Ev.ldbn 3 (.t rfl) rfl ag28 ty28 rfl) rfl ?_ | refine W.q (Ev.ldbn 4 (.t rfl) rfl ag28 ty28 rfl) rfl ?_
    first | refine W.stb 0 (.t rfl) (.t rfl) rfl ty28 rfl rfl rfl ?_ | refine W.stb 1 (.t rfl) (.t rfl) rfl ty28 rfl rfl rfl ?_ | refine W.stb 2 (.t rfl) (.t rfl) rfl ty28 rfl rfl rfl ?_ | refine W.stb 3 (.t rfl) (.t rfl) rfl ty28 rfl rfl rfl ?_ | refine W.stb 4 (.t rfl) (.t rfl) rfl ty28 rfl rfl rfl ?_
    refine W.nil ?_
    refine W.then ?_
    refine W.ret ?_
    refine W.then_ret ?_
    refine W.retn (M' := []) (D := _) (rs := [.cell 4 28]) (avs := [_]) Try.results27 ⟨⟨_, _, _, rfl, by first | exact List.mem_cons_self | exact List.mem_cons_of_mem _ List.mem_cons_self | exact List.mem_cons_of_mem _ (List.mem_cons_of_mem _ List.mem_cons_self) | exact List.mem_cons_of_mem _ (List.mem_cons_of_mem _ (List.mem_cons_of_mem _ List.mem_cons_self)) | exact List.mem_cons_of_mem _ (List.mem_cons_of_mem _ (List.mem_cons_of_mem _ (List.mem_cons_of_mem _ List.mem_cons_self))), rfl, by funext w; exact ag28.run w, by funext w; exact ty28.size w⟩, trivial⟩ rfl (.refl _) ?_
    refine ⟨?_, rfl⟩
    first | rfl | (rw [Ex.tog_y k l y1 h10 hy1]; rfl) | (rw [Ex.tog_n k l h10 h42]; rfl)
  · have h10 : l.length ≠ 1 := fun h => by rw [hll, h] at hc_t10; simp at hc_t10
    refine W.skip ?_
    refine W.then ?_
    refine W.seq ?_
    refine W.region ?_
    refine W.q (Ev.move (.t rfl)) rfl ?_
    refine W.q (Ev.build ty28 st28 rfl (fun hg => ⟨_, _, _, rfl, (.t rfl), rfl, rfl, rfl, rfl⟩)) rfl ?_
    refine W.alloc ty28 rfl rfl ?_
    intro b5
    first | refine W.stb 0 (.t rfl) (.t rfl) rfl ty28 rfl rfl rfl ?_ | refine W.stb 1 (.t rfl) (.t rfl) rfl ty28 rfl rfl rfl ?_ | refine W.stb 2 (.t rfl) (.t rfl) rfl ty28 rfl rfl rfl ?_ | refine W.stb 3 (.t rfl) (.t rfl) rfl ty28 rfl rfl rfl ?_ | refine W.stb 4 (.t rfl) (.t rfl) rfl ty28 rfl rfl rfl ?_
    refine W.nil ?_
    refine W.then ?_
    refine W.seq ?_
    refine W.seq ?_
    refine W.region ?_
    refine W.q (Ev.move (.t rfl)) rfl ?_
    first | refine W.q (Ev.lensl (.t rfl) Try.underlying26) rfl ?_ | refine W.q (Ev.lenar (i := 0) (.t rfl) rfl Try.underlying26) rfl ?_ | refine W.q (Ev.lenar (i := 1) (.t rfl) rfl Try.underlying26) rfl ?_ | refine W.q (Ev.lenar (i := 2) (.t rfl) rfl Try.underlying26) rfl ?_ | refine W.q (Ev.lenar (i := 3) (.t rfl) rfl Try.underlying26) rfl ?_ | refine W.q (Ev.lenar (i := 4) (.t rfl) rfl Try.underlying26) rfl ?_
    refine W.q (Ev.move .k) rfl ?_
    refine W.nil ?_
    refine W.then ?_
    refine W.block ?_
    refine W.own_nil 28 3 ?_
    refine W.perm (List.Perm.refl _) ?_
    refine W.loop (D := []) (ι := Nat × Value) (fun z => [(18, true, .int (z.1 : Int)), (17, true, .int ((l.map Ex.av).length : Int)), (16, true, .sl 3 (l.map Ex.av)), (5, true, .lit (.pointer (some ⟨b5, 0, none⟩))), (0, true, .int k), (4, true, .lit (.pointer (some ⟨b4, 0, none⟩)))]) (fun z => [.arr z.2 28 3 ((Ex.flat k (l.take z.1)).map Ex.av), .box b5 28 [.int k, .int 0, .lit z.2], .box b4 28 [.int 0, .int 0, .lit (.slice none 0 0)]]) (fun z => z.1 ≤ l.length) (fun z => l.length - z.1) (0, .slice none 0 0) ⟨rfl, rfl, rfl, rfl, rfl, rfl, trivial⟩ (.refl _) (Nat.zero_le _) ?_
    rintro ⟨i, v⟩ hi
    dsimp only at hi ⊢
    rcases (show i < l.length ∨ i = l.length from by omega) with hlt | hend
    · have hga := Ex.at_av l i hlt
      have hsn := Ex.flat_snoc k l i hlt
      have hsz := Ex.szs_mem (getD_memG Ex.dflt l i hlt)
      have hft := Ex.flat_take k l i
      generalize hd : l.getD i Ex.dflt = d at hga hsn hsz
      have hse := Ex.sz_eq d
      refine W.seq ?_
      refine W.region ?_
      refine W.q (Ev.lti (.t rfl) (.t rfl)) rfl ?_
      refine W.nil ?_
      refine W.then ?_
      refine W.seq ?_
      refine W.is (t := 19) (g := true) (av' := .lit (.bool true)) rfl (congrArg (fun b => AV.lit (.bool b)) (by exact decide_eq_true (by omega))) ?_
      refine W.condT (.t rfl) ?_
      refine W.skip ?_
      refine W.then ?_
      refine W.seq ?_
      refine W.block ?_
      refine W.seq ?_
      refine W.region ?_
      refine W.q (Ev.at (E := 28) (.t rfl) (.t rfl) Try.underlying26 ty28 (fun _ => ⟨by omega, hga⟩) rfl rfl) rfl ?_
      first | refine W.q (Ev.lden (.t rfl) ag28 ty28 rfl rfl) rfl ?_ | refine W.q (Ev.ldbn 0 (.t rfl) rfl ag28 ty28 rfl) rfl ?_ | refine W.q (Ev.ldbn 1 (.t rfl) rfl ag28 ty28 rfl) rfl ?_ | refine W.q (Ev.ldbn 2 (.t rfl) rfl ag28 ty28 rfl) rfl ?_ | refine W.q (Ev.ldbn 3 (.t rfl) rfl ag28 ty28 rfl) rfl ?_ | refine W.q (Ev.ldbn 4 (.t rfl) rfl ag28 ty28 rfl) rfl ?_
      refine W.alloc ty28 rfl rfl ?_
      intro b7
      first | refine W.stb 0 (.t rfl) (.t rfl) rfl ty28 rfl rfl rfl ?_ | refine W.stb 1 (.t rfl) (.t rfl) rfl ty28 rfl rfl rfl ?_ | refine W.stb 2 (.t rfl) (.t rfl) rfl ty28 rfl rfl rfl ?_ | refine W.stb 3 (.t rfl) (.t rfl) rfl ty28 rfl rfl rfl ?_ | refine W.stb 4 (.t rfl) (.t rfl) rfl ty28 rfl rfl rfl ?_
      refine W.nil ?_
      refine W.then ?_
      refine W.seq ?_
      refine W.region ?_
      first | refine W.q (Ev.fae (.t rfl) fa28_0 rfl) rfl ?_ | refine W.q (Ev.fab (.t rfl) fa28_0) rfl ?_ | refine W.q (Ev.faa (.t rfl) fa28_0) rfl ?_
      first | refine W.q (Ev.lde1 (.t rfl) ag3) rfl ?_ | refine W.q (Ev.ldb1 0 (.t rfl) rfl ag3 rfl) rfl ?_ | refine W.q (Ev.ldb1 1 (.t rfl) rfl ag3 rfl) rfl ?_ | refine W.q (Ev.ldb1 2 (.t rfl) rfl ag3 rfl) rfl ?_ | refine W.q (Ev.ldb1 3 (.t rfl) rfl ag3 rfl) rfl ?_ | refine W.q (Ev.ldb1 4 (.t rfl) rfl ag3 rfl) rfl ?_
      refine W.q (Ev.move (.t rfl)) rfl ?_
      refine W.q (Ev.eqi (.t rfl) (.t rfl)) rfl ?_
      refine W.nil ?_
      refine W.then ?_
      refine W.cond (.t rfl) (fun hc_t25 => ?_) (fun hc_t25 => ?_)
      · have hek : d.kind = k := eq_of_beq hc_t25
        refine W.region ?_
        first | refine W.q (Ev.fae (.t rfl) fa28_2 rfl) rfl ?_ | refine W.q (Ev.fab (.t rfl) fa28_2) rfl ?_ | refine W.q (Ev.faa (.t rfl) fa28_2) rfl ?_
        first | refine W.q (Ev.lde1 (.t rfl) ag26) rfl ?_ | refine W.q (Ev.ldb1 0 (.t rfl) rfl ag26 rfl) rfl ?_ | refine W.q (Ev.ldb1 1 (.t rfl) rfl ag26 rfl) rfl ?_ | refine W.q (Ev.ldb1 2 (.t rfl) rfl ag26 rfl) rfl ?_ | refine W.q (Ev.ldb1 3 (.t rfl) rfl ag26 rfl) rfl ?_ | refine W.q (Ev.ldb1 4 (.t rfl) rfl ag26 rfl) rfl ?_
        first | refine W.q (Ev.fae (.t rfl) fa28_2 rfl) rfl ?_ | refine W.q (Ev.fab (.t rfl) fa28_2) rfl ?_ | refine W.q (Ev.faa (.t rfl) fa28_2) rfl ?_
        first | refine W.q (Ev.lde1 (.t rfl) ag26) rfl ?_ | refine W.q (Ev.ldb1 0 (.t rfl) rfl ag26 rfl) rfl ?_ | refine W.q (Ev.ldb1 1 (.t rfl) rfl ag26 rfl) rfl ?_ | refine W.q (Ev.ldb1 2 (.t rfl) rfl ag26 rfl) rfl ?_ | refine W.q (Ev.ldb1 3 (.t rfl) rfl ag26 rfl) rfl ?_ | refine W.q (Ev.ldb1 4 (.t rfl) rfl ag26 rfl) rfl ?_
        first | refine W.app 0 (.t rfl) rfl (.sl (.t rfl) (Ex.okc_avs _)) Try.underlying26 ni26 ty28 rfl rfl (by rw [List.length_map, List.length_map]; have := Ex.szs_len d.parts; omega) rfl ?_ | refine W.app 1 (.t rfl) rfl (.sl (.t rfl) (Ex.okc_avs _)) Try.underlying26 ni26 ty28 rfl rfl (by rw [List.length_map, List.length_map]; have := Ex.szs_len d.parts; omega) rfl ?_ | refine W.app 2 (.t rfl) rfl (.sl (.t rfl) (Ex.okc_avs _)) Try.underlying26 ni26 ty28 rfl rfl (by rw [List.length_map, List.length_map]; have := Ex.szs_len d.parts; omega) rfl ?_ | refine W.app 3 (.t rfl) rfl (.sl (.t rfl) (Ex.okc_avs _)) Try.underlying26 ni26 ty28 rfl rfl (by rw [List.length_map, List.length_map]; have := Ex.szs_len d.parts; omega) rfl ?_ | refine W.app 4 (.t rfl) rfl (.sl (.t rfl) (Ex.okc_avs _)) Try.underlying26 ni26 ty28 rfl rfl (by rw [List.length_map, List.length_map]; have := Ex.szs_len d.parts; omega) rfl ?_ | refine W.app 0 (.t rfl) rfl (.arr 0 (.t rfl) rfl (Ex.okc_avs _)) Try.underlying26 ni26 ty28 rfl rfl (by rw [List.length_map, List.length_map]; have := Ex.szs_len d.parts; omega) rfl ?_ | refine W.app 0 (.t rfl) rfl (.arr 1 (.t rfl) rfl (Ex.okc_avs _)) Try.underlying26 ni26 ty28 rfl rfl (by rw [List.length_map, List.length_map]; have := Ex.szs_len d.parts; omega) rfl ?_ | refine W.app 0 (.t rfl) rfl (.arr 2 (.t rfl) rfl (Ex.okc_avs _)) Try.underlying26 ni26 ty28 rfl rfl (by rw [List.length_map, List.length_map]; have := Ex.szs_len d.parts; omega) rfl ?_ | refine W.app 0 (.t rfl) rfl (.arr 3 (.t rfl) rfl (Ex.okc_avs _)) Try.underlying26 ni26 ty28 rfl rfl (by rw [List.length_map, List.length_map]; have := Ex.szs_len d.parts; omega) rfl ?_ | refine W.app 0 (.t rfl) rfl (.arr 4 (.t rfl) rfl (Ex.okc_avs _)) Try.underlying26 ni26 ty28 rfl rfl (by rw [List.length_map, List.length_map]; have := Ex.szs_len d.parts; omega) rfl ?_ | refine W.app 1 (.t rfl) rfl (.arr 0 (.t rfl) rfl (Ex.okc_avs _)) Try.underlying26 ni26 ty28 rfl rfl (by rw [List.length_map, List.length_map]; have := Ex.szs_len d.parts; omega) rfl ?_ | refine W.app 1 (.t rfl) rfl (.arr 1 (.t rfl) rfl (Ex.okc_avs _)) Try.underlying26 ni26 ty28 rfl rfl (by rw [List.length_map, List.length_map]; have := Ex.szs_len d.parts; omega) rfl ?_ | refine W.app 1 (.t rfl) rfl (.arr 2 (.t rfl) rfl (Ex.okc_avs _)) Try.underlying26 ni26 ty28 rfl rfl (by rw [List.length_map, List.length_map]; have := Ex.szs_len d.parts; omega) rfl ?_ | refine W.app 1 (.t rfl) rfl (.arr 3 (.t rfl) rfl (Ex.okc_avs _)) Try.underlying26 ni26 ty28 rfl rfl (by rw [List.length_map, List.length_map]; have := Ex.szs_len d.parts; omega) rfl ?_ | refine W.app 1 (.t rfl) rfl (.arr 4 (.t rfl) rfl (Ex.okc_avs _)) Try.underlying26 ni26 ty28 rfl rfl (by rw [List.length_map, List.length_map]; have := Ex.szs_len d.parts; omega) rfl ?_ | refine W.app 2 (.t rfl) rfl (.arr 0 (.t rfl) rfl (Ex.okc_avs _)) Try.underlying26 ni26 ty28 rfl rfl (by rw [List.length_map, List.length_map]; have := Ex.szs_len d.parts; omega) rfl ?_ | refine W.app 2 (.t rfl) rfl (.arr 1 (.t rfl) rfl (Ex.okc_avs _)) Try.underlying26 ni26 ty28 rfl rfl (by rw [List.length_map, List.length_map]; have := Ex.szs_len d.parts; omega) rfl ?_ | refine W.app 2 (.t rfl) rfl (.arr 2 (.t rfl) rfl (Ex.okc_avs _)) Try.underlying26 ni26 ty28 rfl rfl (by rw [List.length_map, List.length_map]; have := Ex.szs_len d.parts; omega) rfl ?_ | refine W.app 2 (.t rfl) rfl (.arr 3 (.t rfl) rfl (Ex.okc_avs _)) Try.underlying26 ni26 ty28 rfl rfl (by rw [List.length_map, List.length_map]; have := Ex.szs_len d.parts; omega) rfl ?_ | refine W.app 2 (.t rfl) rfl (.arr 4 (.t rfl) rfl (Ex.okc_avs _)) Try.underlying26 ni26 ty28 rfl rfl (by rw [List.length_map, List.length_map]; have := Ex.szs_len d.parts; omega) rfl ?_ | refine W.app 3 (.t rfl) rfl (.arr 0 (.t rfl) rfl (Ex.okc_avs _)) Try.underlying26 ni26 ty28 rfl rfl (by rw [List.length_map, List.length_map]; have := Ex.szs_len d.parts; omega) rfl ?_ | refine W.app 3 (.t rfl) rfl (.arr 1 (.t rfl) rfl (Ex.okc_avs _)) Try.underlying26 ni26 ty28 rfl rfl (by rw [List.length_map, List.length_map]; have := Ex.szs_len d.parts; omega) rfl ?_ | refine W.app 3 (.t rfl) rfl (.arr 2 (.t rfl) rfl (Ex.okc_avs _)) Try.underlying26 ni26 ty28 rfl rfl (by rw [List.length_map, List.length_map]; have := Ex.szs_len d.parts; omega) rfl ?_ | refine W.app 3 (.t rfl) rfl (.arr 3 (.t rfl) rfl (Ex.okc_avs _)) Try.underlying26 ni26 ty28 rfl rfl (by rw [List.length_map, List.length_map]; have := Ex.szs_len d.parts; omega) rfl ?_ | refine W.app 3 (.t rfl) rfl (.arr 4 (.t rfl) rfl (Ex.okc_avs _)) Try.underlying26 ni26 ty28 rfl rfl (by rw [List.length_map, List.length_map]; have := Ex.szs_len d.parts; omega) rfl ?_ | refine W.app 4 (.t rfl) rfl (.arr 0 (.t rfl) rfl (Ex.okc_avs _)) Try.underlying26 ni26 ty28 rfl rfl (by rw [List.length_map, List.length_map]; have := Ex.szs_len d.parts; omega) rfl ?_ | refine W.app 4 (.t rfl) rfl (.arr 1 (.t rfl) rfl (Ex.okc_avs _)) Try.underlying26 ni26 ty28 rfl rfl (by rw [List.length_map, List.length_map]; have := Ex.szs_len d.parts; omega) rfl ?_ | refine W.app 4 (.t rfl) rfl (.arr 2 (.t rfl) rfl (Ex.okc_avs _)) Try.underlying26 ni26 ty28 rfl rfl (by rw [List.length_map, List.length_map]; have := Ex.szs_len d.parts; omega) rfl ?_ | refine W.app 4 (.t rfl) rfl (.arr 3 (.t rfl) rfl (Ex.okc_avs _)) Try.underlying26 ni26 ty28 rfl rfl (by rw [List.length_map, List.length_map]; have := Ex.szs_len d.parts; omega) rfl ?_ | refine W.app 4 (.t rfl) rfl (.arr 4 (.t rfl) rfl (Ex.okc_avs _)) Try.underlying26 ni26 ty28 rfl rfl (by rw [List.length_map, List.length_map]; have := Ex.szs_len d.parts; omega) rfl ?_
        intro v30
        refine W.arr_inv 1 rfl (fun a30 n30 c30 h30 => ?_)
        subst h30
        first | refine W.q (Ev.fae (.t rfl) fa28_2 rfl) rfl ?_ | refine W.q (Ev.fab (.t rfl) fa28_2) rfl ?_ | refine W.q (Ev.faa (.t rfl) fa28_2) rfl ?_
        first | refine W.stb 0 (.t rfl) (.t rfl) rfl ty26 rfl rfl rfl ?_ | refine W.stb 1 (.t rfl) (.t rfl) rfl ty26 rfl rfl rfl ?_ | refine W.stb 2 (.t rfl) (.t rfl) rfl ty26 rfl rfl rfl ?_ | refine W.stb 3 (.t rfl) (.t rfl) rfl ty26 rfl rfl rfl ?_ | refine W.stb 4 (.t rfl) (.t rfl) rfl ty26 rfl rfl rfl ?_
        refine W.nil ?_
        refine W.blk_normal ?_
        refine W.then ?_
        refine W.region ?_
        first | refine W.q (Ev.add (.t rfl) .k (fun _ => by omega)) rfl ?_ | refine W.q (Ev.addw (.t rfl) .k) rfl ?_
        refine W.q (Ev.move (.t rfl)) rfl ?_
        refine W.nil ?_
        refine W.then ?_
        first
        | (rw [if_pos hek] at hsn; refine W.reach (D := [_]) (i + 1, _) ⟨rfl, rfl, rfl, rfl, rfl, rfl, trivial⟩ (by rw [hsn, List.map_append]; exact (List.perm_middle (l₁ := [_])).symm.trans (List.Perm.cons _ (List.perm_append_comm (l₁ := [_])))) ⟨by show i + 1 ≤ _; omega, by show _ - (i + 1) < _; omega⟩)
        | (rw [if_neg hek] at hsn; refine W.reach (D := [_]) (i + 1, _) ⟨rfl, rfl, rfl, rfl, rfl, rfl, trivial⟩ (by rw [hsn, Ex.map_snoc]; exact (List.perm_middle (l₁ := [_])).symm.trans (List.Perm.cons _ (List.perm_append_comm (l₁ := [_])))) ⟨by show i + 1 ≤ _; omega, by show _ - (i + 1) < _; omega⟩)
      · have hek : d.kind ≠ k := beq_eq_false_iff_ne.1 hc_t25
        refine W.region ?_
        first | refine W.q (Ev.fae (.t rfl) fa28_2 rfl) rfl ?_ | refine W.q (Ev.fab (.t rfl) fa28_2) rfl ?_ | refine W.q (Ev.faa (.t rfl) fa28_2) rfl ?_
        first | refine W.q (Ev.lde1 (.t rfl) ag26) rfl ?_ | refine W.q (Ev.ldb1 0 (.t rfl) rfl ag26 rfl) rfl ?_ | refine W.q (Ev.ldb1 1 (.t rfl) rfl ag26 rfl) rfl ?_ | refine W.q (Ev.ldb1 2 (.t rfl) rfl ag26 rfl) rfl ?_ | refine W.q (Ev.ldb1 3 (.t rfl) rfl ag26 rfl) rfl ?_ | refine W.q (Ev.ldb1 4 (.t rfl) rfl ag26 rfl) rfl ?_
        first | refine W.q (Ev.lden (.t rfl) ag28 ty28 rfl rfl) rfl ?_ | refine W.q (Ev.ldbn 0 (.t rfl) rfl ag28 ty28 rfl) rfl ?_ | refine W.q (Ev.ldbn 1 (.t rfl) rfl ag28 ty28 rfl) rfl ?_ | refine W.q (Ev.ldbn 2 (.t rfl) rfl ag28 ty28 rfl) rfl ?_ | refine W.q (Ev.ldbn 3 (.t rfl) rfl ag28 ty28 rfl) rfl ?_ | refine W.q (Ev.ldbn 4 (.t rfl) rfl ag28 ty28 rfl) rfl ?_
        refine W.bs (es := [_]) Try.underlying26 ty28 ⟨rfl, (.t rfl), rfl, rfl, trivial⟩ rfl (by decide) rfl rfl ?_
        first | refine W.app 0 (.t rfl) rfl (.sl (.t rfl) (by simp [AV.okc, shV])) Try.underlying26 ni26 ty28 rfl rfl (by rw [List.length_map]; simp only [List.length_cons, List.length_nil]; omega) rfl ?_ | refine W.app 1 (.t rfl) rfl (.sl (.t rfl) (by simp [AV.okc, shV])) Try.underlying26 ni26 ty28 rfl rfl (by rw [List.length_map]; simp only [List.length_cons, List.length_nil]; omega) rfl ?_ | refine W.app 2 (.t rfl) rfl (.sl (.t rfl) (by simp [AV.okc, shV])) Try.underlying26 ni26 ty28 rfl rfl (by rw [List.length_map]; simp only [List.length_cons, List.length_nil]; omega) rfl ?_ | refine W.app 3 (.t rfl) rfl (.sl (.t rfl) (by simp [AV.okc, shV])) Try.underlying26 ni26 ty28 rfl rfl (by rw [List.length_map]; simp only [List.length_cons, List.length_nil]; omega) rfl ?_ | refine W.app 4 (.t rfl) rfl (.sl (.t rfl) (by simp [AV.okc, shV])) Try.underlying26 ni26 ty28 rfl rfl (by rw [List.length_map]; simp only [List.length_cons, List.length_nil]; omega) rfl ?_ | refine W.app 0 (.t rfl) rfl (.arr 0 (.t rfl) rfl (by simp [AV.okc, shV])) Try.underlying26 ni26 ty28 rfl rfl (by rw [List.length_map]; simp only [List.length_cons, List.length_nil]; omega) rfl ?_ | refine W.app 0 (.t rfl) rfl (.arr 1 (.t rfl) rfl (by simp [AV.okc, shV])) Try.underlying26 ni26 ty28 rfl rfl (by rw [List.length_map]; simp only [List.length_cons, List.length_nil]; omega) rfl ?_ | refine W.app 0 (.t rfl) rfl (.arr 2 (.t rfl) rfl (by simp [AV.okc, shV])) Try.underlying26 ni26 ty28 rfl rfl (by rw [List.length_map]; simp only [List.length_cons, List.length_nil]; omega) rfl ?_ | refine W.app 0 (.t rfl) rfl (.arr 3 (.t rfl) rfl (by simp [AV.okc, shV])) Try.underlying26 ni26 ty28 rfl rfl (by rw [List.length_map]; simp only [List.length_cons, List.length_nil]; omega) rfl ?_ | refine W.app 0 (.t rfl) rfl (.arr 4 (.t rfl) rfl (by simp [AV.okc, shV])) Try.underlying26 ni26 ty28 rfl rfl (by rw [List.length_map]; simp only [List.length_cons, List.length_nil]; omega) rfl ?_ | refine W.app 1 (.t rfl) rfl (.arr 0 (.t rfl) rfl (by simp [AV.okc, shV])) Try.underlying26 ni26 ty28 rfl rfl (by rw [List.length_map]; simp only [List.length_cons, List.length_nil]; omega) rfl ?_ | refine W.app 1 (.t rfl) rfl (.arr 1 (.t rfl) rfl (by simp [AV.okc, shV])) Try.underlying26 ni26 ty28 rfl rfl (by rw [List.length_map]; simp only [List.length_cons, List.length_nil]; omega) rfl ?_ | refine W.app 1 (.t rfl) rfl (.arr 2 (.t rfl) rfl (by simp [AV.okc, shV])) Try.underlying26 ni26 ty28 rfl rfl (by rw [List.length_map]; simp only [List.length_cons, List.length_nil]; omega) rfl ?_ | refine W.app 1 (.t rfl) rfl (.arr 3 (.t rfl) rfl (by simp [AV.okc, shV])) Try.underlying26 ni26 ty28 rfl rfl (by rw [List.length_map]; simp only [List.length_cons, List.length_nil]; omega) rfl ?_ | refine W.app 1 (.t rfl) rfl (.arr 4 (.t rfl) rfl (by simp [AV.okc, shV])) Try.underlying26 ni26 ty28 rfl rfl (by rw [List.length_map]; simp only [List.length_cons, List.length_nil]; omega) rfl ?_ | refine W.app 2 (.t rfl) rfl (.arr 0 (.t rfl) rfl (by simp [AV.okc, shV])) Try.underlying26 ni26 ty28 rfl rfl (by rw [List.length_map]; simp only [List.length_cons, List.length_nil]; omega) rfl ?_ | refine W.app 2 (.t rfl) rfl (.arr 1 (.t rfl) rfl (by simp [AV.okc, shV])) Try.underlying26 ni26 ty28 rfl rfl (by rw [List.length_map]; simp only [List.length_cons, List.length_nil]; omega) rfl ?_ | refine W.app 2 (.t rfl) rfl (.arr 2 (.t rfl) rfl (by simp [AV.okc, shV])) Try.underlying26 ni26 ty28 rfl rfl (by rw [List.length_map]; simp only [List.length_cons, List.length_nil]; omega) rfl ?_ | refine W.app 2 (.t rfl) rfl (.arr 3 (.t rfl) rfl (by simp [AV.okc, shV])) Try.underlying26 ni26 ty28 rfl rfl (by rw [List.length_map]; simp only [List.length_cons, List.length_nil]; omega) rfl ?_ | refine W.app 2 (.t rfl) rfl (.arr 4 (.t rfl) rfl (by simp [AV.okc, shV])) Try.underlying26 ni26 ty28 rfl rfl (by rw [List.length_map]; simp only [List.length_cons, List.length_nil]; omega) rfl ?_ | refine W.app 3 (.t rfl) rfl (.arr 0 (.t rfl) rfl (by simp [AV.okc, shV])) Try.underlying26 ni26 ty28 rfl rfl (by rw [List.length_map]; simp only [List.length_cons, List.length_nil]; omega) rfl ?_ | refine W.app 3 (.t rfl) rfl (.arr 1 (.t rfl) rfl (by simp [AV.okc, shV])) Try.underlying26 ni26 ty28 rfl rfl (by rw [List.length_map]; simp only [List.length_cons, List.length_nil]; omega) rfl ?_ | refine W.app 3 (.t rfl) rfl (.arr 2 (.t rfl) rfl (by simp [AV.okc, shV])) Try.underlying26 ni26 ty28 rfl rfl (by rw [List.length_map]; simp only [List.length_cons, List.length_nil]; omega) rfl ?_ | refine W.app 3 (.t rfl) rfl (.arr 3 (.t rfl) rfl (by simp [AV.okc, shV])) Try.underlying26 ni26 ty28 rfl rfl (by rw [List.length_map]; simp only [List.length_cons, List.length_nil]; omega) rfl ?_ | refine W.app 3 (.t rfl) rfl (.arr 4 (.t rfl) rfl (by simp [AV.okc, shV])) Try.underlying26 ni26 ty28 rfl rfl (by rw [List.length_map]; simp only [List.length_cons, List.length_nil]; omega) rfl ?_ | refine W.app 4 (.t rfl) rfl (.arr 0 (.t rfl) rfl (by simp [AV.okc, shV])) Try.underlying26 ni26 ty28 rfl rfl (by rw [List.length_map]; simp only [List.length_cons, List.length_nil]; omega) rfl ?_ | refine W.app 4 (.t rfl) rfl (.arr 1 (.t rfl) rfl (by simp [AV.okc, shV])) Try.underlying26 ni26 ty28 rfl rfl (by rw [List.length_map]; simp only [List.length_cons, List.length_nil]; omega) rfl ?_ | refine W.app 4 (.t rfl) rfl (.arr 2 (.t rfl) rfl (by simp [AV.okc, shV])) Try.underlying26 ni26 ty28 rfl rfl (by rw [List.length_map]; simp only [List.length_cons, List.length_nil]; omega) rfl ?_ | refine W.app 4 (.t rfl) rfl (.arr 3 (.t rfl) rfl (by simp [AV.okc, shV])) Try.underlying26 ni26 ty28 rfl rfl (by rw [List.length_map]; simp only [List.length_cons, List.length_nil]; omega) rfl ?_ | refine W.app 4 (.t rfl) rfl (.arr 4 (.t rfl) rfl (by simp [AV.okc, shV])) Try.underlying26 ni26 ty28 rfl rfl (by rw [List.length_map]; simp only [List.length_cons, List.length_nil]; omega) rfl ?_
        intro v36
        refine W.arr_inv 1 rfl (fun a36 n36 c36 h36 => ?_)
        subst h36
        first | refine W.q (Ev.fae (.t rfl) fa28_2 rfl) rfl ?_ | refine W.q (Ev.fab (.t rfl) fa28_2) rfl ?_ | refine W.q (Ev.faa (.t rfl) fa28_2) rfl ?_
        first | refine W.stb 0 (.t rfl) (.t rfl) rfl ty26 rfl rfl rfl ?_ | refine W.stb 1 (.t rfl) (.t rfl) rfl ty26 rfl rfl rfl ?_ | refine W.stb 2 (.t rfl) (.t rfl) rfl ty26 rfl rfl rfl ?_ | refine W.stb 3 (.t rfl) (.t rfl) rfl ty26 rfl rfl rfl ?_ | refine W.stb 4 (.t rfl) (.t rfl) rfl ty26 rfl rfl rfl ?_
        refine W.nil ?_
        refine W.blk_normal ?_
        refine W.then ?_
        refine W.region ?_
        first | refine W.q (Ev.add (.t rfl) .k (fun _ => by omega)) rfl ?_ | refine W.q (Ev.addw (.t rfl) .k) rfl ?_
        refine W.q (Ev.move (.t rfl)) rfl ?_
        refine W.nil ?_
        refine W.then ?_
        first
        | (rw [if_pos hek] at hsn; refine W.reach (D := [_]) (i + 1, _) ⟨rfl, rfl, rfl, rfl, rfl, rfl, trivial⟩ (by rw [hsn, List.map_append]; exact (List.perm_middle (l₁ := [_])).symm.trans (List.Perm.cons _ (List.perm_append_comm (l₁ := [_])))) ⟨by show i + 1 ≤ _; omega, by show _ - (i + 1) < _; omega⟩)
        | (rw [if_neg hek] at hsn; refine W.reach (D := [_]) (i + 1, _) ⟨rfl, rfl, rfl, rfl, rfl, rfl, trivial⟩ (by rw [hsn, Ex.map_snoc]; exact (List.perm_middle (l₁ := [_])).symm.trans (List.Perm.cons _ (List.perm_append_comm (l₁ := [_])))) ⟨by show i + 1 ≤ _; omega, by show _ - (i + 1) < _; omega⟩)
    · rw [List.take_of_length_le (show l.length ≤ i from by omega)]
      refine W.seq ?_
      refine W.region ?_
      refine W.q (Ev.lti (.t rfl) (.t rfl)) rfl ?_
      refine W.nil ?_
      refine W.then ?_
      refine W.seq ?_
      refine W.is (t := 19) (g := true) (av' := .lit (.bool false)) rfl (congrArg (fun b => AV.lit (.bool b)) (by exact decide_eq_false (by omega))) ?_
      refine W.condF (.t rfl) ?_
      refine W.exit ?_
      refine W.then_exit ?_
      refine W.then_exit ?_
      refine W.blk_hit ?_
      refine W.then ?_
      refine W.seq ?_
      refine W.seq ?_
      refine W.region ?_
      first | refine W.q (Ev.fae (.t rfl) fa28_2 rfl) rfl ?_ | refine W.q (Ev.fab (.t rfl) fa28_2) rfl ?_ | refine W.q (Ev.faa (.t rfl) fa28_2) rfl ?_
      first | refine W.q (Ev.lde1 (.t rfl) ag26) rfl ?_ | refine W.q (Ev.ldb1 0 (.t rfl) rfl ag26 rfl) rfl ?_ | refine W.q (Ev.ldb1 1 (.t rfl) rfl ag26 rfl) rfl ?_ | refine W.q (Ev.ldb1 2 (.t rfl) rfl ag26 rfl) rfl ?_ | refine W.q (Ev.ldb1 3 (.t rfl) rfl ag26 rfl) rfl ?_ | refine W.q (Ev.ldb1 4 (.t rfl) rfl ag26 rfl) rfl ?_
      first | refine W.q (Ev.lensl (.t rfl) Try.underlying26) rfl ?_ | refine W.q (Ev.lenar (i := 0) (.t rfl) rfl Try.underlying26) rfl ?_ | refine W.q (Ev.lenar (i := 1) (.t rfl) rfl Try.underlying26) rfl ?_ | refine W.q (Ev.lenar (i := 2) (.t rfl) rfl Try.underlying26) rfl ?_ | refine W.q (Ev.lenar (i := 3) (.t rfl) rfl Try.underlying26) rfl ?_ | refine W.q (Ev.lenar (i := 4) (.t rfl) rfl Try.underlying26) rfl ?_
      refine W.q (Ev.eqi (.t rfl) .k) rfl ?_
      refine W.nil ?_
      refine W.then ?_
      refine W.cond (.t rfl) (fun hc_t42 => ?_) (fun hc_t42 => ?_)
      · obtain ⟨y1, hy1⟩ : ∃ y, Ex.flat k l = [y] := List.length_eq_one_iff.1 (by have := eq_of_beq hc_t42; rw [List.length_map] at this; omega)
        refine W.seq ?_
        refine W.region ?_
        first | refine W.q (Ev.fae (.t rfl) fa28_2 rfl) rfl ?_ | refine W.q (Ev.fab (.t rfl) fa28_2) rfl ?_ | refine W.q (Ev.faa (.t rfl) fa28_2) rfl ?_
        first | refine W.q (Ev.lde1 (.t rfl) ag26) rfl ?_ | refine W.q (Ev.ldb1 0 (.t rfl) rfl ag26 rfl) rfl ?_ | refine W.q (Ev.ldb1 1 (.t rfl) rfl ag26 rfl) rfl ?_ | refine W.q (Ev.ldb1 2 (.t rfl) rfl ag26 rfl) rfl ?_ | refine W.q (Ev.ldb1 3 (.t rfl) rfl ag26 rfl) rfl ?_ | refine W.q (Ev.ldb1 4 (.t rfl) rfl ag26 rfl) rfl ?_
        refine W.q (Ev.ata 0 (.t rfl) rfl .k Try.underlying26 ty28 (fun _ => by rw [List.length_map, hy1]; simp)) rfl ?_
        refine W.q (Ev.ldan 0 0 (e := y1.avx) (.t rfl) rfl (by rw [hy1, ← Ex.av_eq]; rfl) rfl rfl ag28 ty28) rfl ?_
        first | refine W.stb 0 (.t rfl) (.t rfl) rfl ty28 rfl rfl rfl ?_ | refine W.stb 1 (.t rfl) (.t rfl) rfl ty28 rfl rfl rfl ?_ | refine W.stb 2 (.t rfl) (.t rfl) rfl ty28 rfl rfl rfl ?_ | refine W.stb 3 (.t rfl) (.t rfl) rfl ty28 rfl rfl rfl ?_ | refine W.stb 4 (.t rfl) (.t rfl) rfl ty28 rfl rfl rfl ?_
        refine W.nil ?_
        refine W.then ?_
        refine W.ret ?_
        refine W.then_ret ?_
        refine W.retn (M' := []) (D := _) (rs := [.cell 4 28]) (avs := [_]) Try.results27 ⟨⟨_, _, _, rfl, by first | exact List.mem_cons_self | exact List.mem_cons_of_mem _ List.mem_cons_self | exact List.mem_cons_of_mem _ (List.mem_cons_of_mem _ List.mem_cons_self) | exact List.mem_cons_of_mem _ (List.mem_cons_of_mem _ (List.mem_cons_of_mem _ List.mem_cons_self)) | exact List.mem_cons_of_mem _ (List.mem_cons_of_mem _ (List.mem_cons_of_mem _ (List.mem_cons_of_mem _ List.mem_cons_self))), rfl, by funext w; exact ag28.run w, by funext w; exact ty28.size w⟩, trivial⟩ rfl (.refl _) ?_
        refine ⟨?_, rfl⟩
        first | rfl | (rw [Ex.tog_y k l y1 h10 hy1]; rfl) | (rw [Ex.tog_n k l h10 h42]; rfl)
      · have h42 : (Ex.flat k l).length ≠ 1 := fun h => by rw [List.length_map, h] at hc_t42; simp at hc_t42
        refine W.skip ?_
        refine W.then ?_
        refine W.seq ?_
        refine W.region ?_
        refine W.freezeA (M1 := [.box b5 28 _, _]) (M2 := [.box b5 28 [.int k, .int 0, .sl 3 ((Ex.flat k l).map Ex.av)], _]) (D := []) (v := v) (L' := []) (.refl _) trivial ⟨.box ⟨.refl _, .refl _, .hit, trivial⟩, .refl _, trivial⟩ ?_
        first | refine W.q (Ev.lden (.t rfl) ag28 ty28 rfl rfl) rfl ?_ | refine W.q (Ev.ldbn 0 (.t rfl) rfl ag28 ty28 rfl) rfl ?_ | refine W.q (Ev.ldbn 1 (.t rfl) rfl ag28 ty28 rfl) rfl ?_ | refine W.q (Ev.ldbn 2 (.t rfl) rfl ag28 ty28 rfl) rfl ?_ | refine W.q (Ev.ldbn 3 (.t rfl) rfl ag28 ty28 rfl) rfl ?_ | refine W.q (Ev.ldbn 4 (.t rfl) rfl ag28 ty28 rfl) rfl ?_
        first | refine W.stb 0 (.t rfl) (.t rfl) rfl ty28 rfl rfl rfl ?_ | refine W.stb 1 (.t rfl) (.t rfl) rfl ty28 rfl rfl rfl ?_ | refine W.stb 2 (.t rfl) (.t rfl) rfl ty28 rfl rfl rfl ?_ | refine W.stb 3 (.t rfl) (.t rfl) rfl ty28 rfl rfl rfl ?_ | refine W.stb 4 (.t rfl) (.t rfl) rfl ty28 rfl rfl rfl ?_
        refine W.nil ?_
        refine W.then ?_
        refine W.ret ?_
        refine W.retn (M' := []) (D := _) (rs := [.cell 4 28]) (avs := [_]) Try.results27 ⟨⟨_, _, _, rfl, by first | exact List.mem_cons_self | exact List.mem_cons_of_mem _ List.mem_cons_self | exact List.mem_cons_of_mem _ (List.mem_cons_of_mem _ List.mem_cons_self) | exact List.mem_cons_of_mem _ (List.mem_cons_of_mem _ (List.mem_cons_of_mem _ List.mem_cons_self)) | exact List.mem_cons_of_mem _ (List.mem_cons_of_mem _ (List.mem_cons_of_mem _ (List.mem_cons_of_mem _ List.mem_cons_self))), rfl, by funext w; exact ag28.run w, by funext w; exact ty28.size w⟩, trivial⟩ rfl (.refl _) ?_
        refine ⟨?_, rfl⟩
        first | rfl | (rw [Ex.tog_y k l y1 h10 hy1]; rfl) | (rw [Ex.tog_n k l h10 h42]; rfl)

end WParse1

end Go.Proofs.Ythhkionhimbekaa
