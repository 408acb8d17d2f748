/-
  Places that words lead to.
-/
import Derived.Test.YthhkionhimbekaaWMatch1
set_option linter.unusedVariables false
set_option linter.unusedSimpArgs false
set_option maxRecDepth 100000
namespace Go.Proofs.Ythhkionhimbekaa
open Go.Vl

namespace WReach
theorem ty3 : Ty Try.prog 3 1 8 (.int .i64 0) := Ty.of (by kernel_rfl)
theorem ty4 : Ty Try.prog 4 1 1 (.bool false) := Ty.of (by kernel_rfl)
theorem ty26 : Ty Try.prog 26 1 24 (.slice none 0 0) := Ty.of (by kernel_rfl)
theorem ty28 : Ty Try.prog 28 3 40 (.agg #[.int .i64 0, .int .i64 0, .slice none 0 0]) := Ty.of (by kernel_rfl)
theorem ag3 : IsAgg Try.prog 3 false := ⟨_, Try.underlying3, rfl⟩
theorem ag4 : IsAgg Try.prog 4 false := ⟨_, Try.underlying4, rfl⟩
theorem ag26 : IsAgg Try.prog 26 false := ⟨_, Try.underlying26, rfl⟩
theorem ag28 : IsAgg Try.prog 28 true := ⟨_, Try.underlying28, rfl⟩
theorem fa28_0 : FieldAt Try.prog 28 0 0 1 false := ⟨_, _, Try.underlying28, rfl, rfl, ty3.size, ag3, by decide⟩
theorem fa28_1 : FieldAt Try.prog 28 1 1 1 false := ⟨_, _, Try.underlying28, rfl, rfl, ty3.size, ag3, by decide⟩
theorem fa28_2 : FieldAt Try.prog 28 2 2 1 false := ⟨_, _, Try.underlying28, rfl, rfl, ty26.size, ag26, by decide⟩
theorem c_reach1 (x : Ex) (h1 : Ex.ok1 x) (hz : x.sz ≤ 16777216) (w : List Int) (hw : w.length ≤ 1048576) (ih : ∀ d ∈ x.parts, ∀ f : Nat → Bool, FnC Try.prog 24 [Ex.avx d, .sl 1 (w.map AV.int), .sl 1 (rowB (w.length + 1) f)] [] (fun r M => M = [] ∧ ∃ g : Nat → Bool, r = .sl 1 (rowB (w.length + 1) g) ∧ Rch (Ex.lg d) w f g)) (f : Nat → Bool) (hk : x.kind = 1) : FnC Try.prog 24 [Ex.avx x, .sl 1 (w.map AV.int), .sl 1 (rowB (w.length + 1) f)] [] (fun r M => M = [] ∧ ∃ g : Nat → Bool, r = .sl 1 (rowB (w.length + 1) g) ∧ Rch (Ex.lg x) w f g) :=  by
  refine FnC.mk Try.func24 (by kernel_rfl) rfl Try.ntmps24 rfl (fun w0 F => ?_)
  have hpl : (x.parts.map Ex.av).length = x.parts.length := List.length_map ..
  have hwl : (w.map AV.int).length = w.length := List.length_map ..
  obtain ⟨k0, k1, k2, k3, k4, k5, k6, k7⟩ := Ex.ok1_facts h1
  have hse := Ex.sz_eq x
  have hsl := Ex.szs_len x.parts
  refine W.seq ?_
  refine W.region ?_
  refine W.box (.t rfl) rfl rfl ?_
  intro b3
  refine W.q (Ev.assign .k) rfl ?_
  refine W.nil ?_
  refine W.then ?_
  refine W.seq ?_
  refine W.region ?_
  refine W.q (Ev.move (.t rfl)) rfl ?_
  first | refine W.q (Ev.lensl (.t rfl) Try.underlying56) rfl ?_ | refine W.q (Ev.lenar (i := 0) (.t rfl) rfl Try.underlying56) rfl ?_ | refine W.q (Ev.lenar (i := 1) (.t rfl) rfl Try.underlying56) rfl ?_ | refine W.q (Ev.lenar (i := 2) (.t rfl) rfl Try.underlying56) rfl ?_ | refine W.q (Ev.lenar (i := 3) (.t rfl) rfl Try.underlying56) rfl ?_
  refine W.is (t := 16) (g := true) (av' := .int (((w.length + 1) : Nat) : Int)) rfl (congrArg AV.int (by rw [rowB_len])) ?_
  refine W.mk (.t rfl) (.t rfl) Try.underlying56 ty4 rfl rfl rfl rfl rfl (by omega) rfl ?_
  intro v17
  refine W.q (Ev.assign (.t rfl)) rfl ?_
  refine W.nil ?_
  refine W.then ?_
  refine W.seq ?_
  refine W.seq ?_
  refine W.region ?_
  first | refine W.q (Ev.fae (.t rfl) fa28_0 rfl) rfl ?_ | refine W.q (Ev.fab (.t rfl) fa28_0) rfl ?_ | refine W.q (Ev.faa (.t rfl) fa28_0) rfl ?_
  first | refine W.q (Ev.lde1 (.t rfl) ag3) rfl ?_ | refine W.q (Ev.ldb1 0 (.t rfl) rfl ag3 rfl) rfl ?_ | refine W.q (Ev.ldb1 1 (.t rfl) rfl ag3 rfl) rfl ?_ | refine W.q (Ev.ldb1 2 (.t rfl) rfl ag3 rfl) rfl ?_ | refine W.q (Ev.ldb1 3 (.t rfl) rfl ag3 rfl) rfl ?_
  refine W.nil ?_
  refine W.then ?_
  refine W.block ?_
  refine W.seq ?_
  refine W.region ?_
  refine W.q (Ev.eqi (.t rfl) .k) rfl ?_
  refine W.q (Ev.assign (.t rfl)) rfl ?_
  refine W.nil ?_
  refine W.then ?_
  refine W.is (t := 46) (g := true) (av' := .lit (.bool true)) rfl (congrArg (fun b => AV.lit (.bool b)) (by rw [hk]; rfl)) ?_
  refine W.condT (.t rfl) ?_
  refine W.seq ?_
  refine W.region ?_
  refine W.q (Ev.move (.t rfl)) rfl ?_
  first | refine W.q (Ev.lensl (.t rfl) Try.underlying22) rfl ?_ | refine W.q (Ev.lenar (i := 0) (.t rfl) rfl Try.underlying22) rfl ?_ | refine W.q (Ev.lenar (i := 1) (.t rfl) rfl Try.underlying22) rfl ?_ | refine W.q (Ev.lenar (i := 2) (.t rfl) rfl Try.underlying22) rfl ?_ | refine W.q (Ev.lenar (i := 3) (.t rfl) rfl Try.underlying22) rfl ?_
  refine W.q (Ev.move .k) rfl ?_
  refine W.nil ?_
  refine W.then ?_
  refine W.block ?_
  refine W.loop (D := []) (ι := Nat) (fun i => [(50, true, .int (i : Int)), (49, true, .int ((w.map AV.int).length : Int)), (48, true, .sl 1 (w.map AV.int)), (7, true, .lit v17), (2, true, .sl 1 (rowB (w.length + 1) f)), (3, true, .lit (.pointer (some ⟨b3, 0, none⟩)))]) (fun i => [.arr v17 4 1 (rowB (w.length + 1) (oneF f w x.type i)), .box b3 28 x.avx.cells]) (fun i => i ≤ w.length) (fun i => w.length - i) 0 ⟨rfl, rfl, rfl, rfl, rfl, rfl, trivial⟩ (by rw [← one_row0]; exact .refl _) (Nat.zero_le _) ?_
  intro i hi
  dsimp only at hi ⊢
  rcases (show i < w.length ∨ i = w.length from by omega) with hlt | hend
  · have hgw := getD_mapG AV.int 0 w i hlt
    have hgf := rowB_at (w.length + 1) f i (by omega)
    refine W.seq ?_
    refine W.region ?_
    refine W.q (Ev.lti (.t rfl) (.t rfl)) rfl ?_
    refine W.nil ?_
    refine W.then ?_
    refine W.seq ?_
    refine W.is (t := 51) (g := true) (av' := .lit (.bool true)) rfl (congrArg (fun b => AV.lit (.bool b)) (by exact decide_eq_true (by omega))) ?_
    refine W.condT (.t rfl) ?_
    refine W.skip ?_
    refine W.then ?_
    refine W.seq ?_
    refine W.block ?_
    refine W.seq ?_
    refine W.region ?_
    refine W.q (Ev.move (.t rfl)) rfl ?_
    refine W.q (Ev.at (E := 3) (.t rfl) (.t rfl) Try.underlying22 ty3 (fun _ => ⟨by omega, hgw⟩) rfl rfl) rfl ?_
    first | refine W.q (Ev.lde1 (.t rfl) ag3) rfl ?_ | refine W.q (Ev.ldb1 0 (.t rfl) rfl ag3 rfl) rfl ?_ | refine W.q (Ev.ldb1 1 (.t rfl) rfl ag3 rfl) rfl ?_ | refine W.q (Ev.ldb1 2 (.t rfl) rfl ag3 rfl) rfl ?_ | refine W.q (Ev.ldb1 3 (.t rfl) rfl ag3 rfl) rfl ?_
    refine W.q (Ev.assign (.t rfl)) rfl ?_
    refine W.q (Ev.assign (.t rfl)) rfl ?_
    refine W.nil ?_
    refine W.then ?_
    refine W.region ?_
    refine W.q (Ev.move (.t rfl)) rfl ?_
    refine W.q (Ev.move (.t rfl)) rfl ?_
    first | refine W.q (Ev.add (.t rfl) .k (fun _ => by omega)) rfl ?_ | refine W.q (Ev.addw (.t rfl) .k) rfl ?_
    refine W.q (Ev.move (.t rfl)) rfl ?_
    refine W.q (Ev.move (.t rfl)) rfl ?_
    refine W.q (Ev.at (E := 4) (.t rfl) (.t rfl) Try.underlying56 ty4 (fun _ => ⟨by omega, hgf⟩) rfl rfl) rfl ?_
    first | refine W.q (Ev.lde1 (.t rfl) ag4) rfl ?_ | refine W.q (Ev.ldb1 0 (.t rfl) rfl ag4 rfl) rfl ?_ | refine W.q (Ev.ldb1 1 (.t rfl) rfl ag4 rfl) rfl ?_ | refine W.q (Ev.ldb1 2 (.t rfl) rfl ag4 rfl) rfl ?_ | refine W.q (Ev.ldb1 3 (.t rfl) rfl ag4 rfl) rfl ?_
    refine W.q (Ev.move (.t rfl)) rfl ?_
    refine W.qgT rfl rfl (Ev.move (.t rfl)) rfl ?_
    first | refine W.qgT rfl rfl (Ev.fae (.t rfl) fa28_1 rfl) rfl ?_ | refine W.qgT rfl rfl (Ev.fab (.t rfl) fa28_1) rfl ?_ | refine W.qgT rfl rfl (Ev.faa (.t rfl) fa28_1) rfl ?_
    first | refine W.qgT rfl rfl (Ev.lde1 (.c rfl) ag3) rfl ?_ | refine W.qgT rfl rfl (Ev.ldb1 0 (.c rfl) rfl ag3 rfl) rfl ?_ | refine W.qgT rfl rfl (Ev.ldb1 1 (.c rfl) rfl ag3 rfl) rfl ?_ | refine W.qgT rfl rfl (Ev.ldb1 2 (.c rfl) rfl ag3 rfl) rfl ?_ | refine W.qgT rfl rfl (Ev.ldb1 3 (.c rfl) rfl ag3 rfl) rfl ?_
    refine W.qgT rfl rfl (Ev.eqi (.c rfl) (.c rfl)) rfl ?_
    refine W.q (Ev.and (.t rfl) ⟨_, _, rfl, rfl, by first | (simp; done) | (intro hg_ hp_; simp [hp_]; done) | (simp <;> omega; done) | (simp_all; done) | grind⟩) rfl ?_
    refine W.is (t := 57) (g := true) (av' := .int ((i + 1 : Nat) : Int)) rfl (congrArg AV.int (by omega)) ?_
    refine W.q (Ev.ata 0 (.t rfl) rfl (.t rfl) Try.underlying56 ty4 (fun _ => by rw [rowB_len]; omega)) rfl ?_
    refine W.sta 0 (i + 1) 0 (e := .bool (oneF f w x.type i (i + 1))) (e' := .bool (f i && (w.getD i 0 == x.type))) (.t rfl) (.t rfl) rfl (rowB_at _ _ (i + 1) (by omega)) (by omega) ty4 rfl rfl rfl rfl rfl rfl rfl ?_
    refine W.nil ?_
    refine W.blk_normal ?_
    refine W.then ?_
    refine W.region ?_
    first | refine W.q (Ev.add (.t rfl) .k (fun _ => by omega)) rfl ?_ | refine W.q (Ev.addw (.t rfl) .k) rfl ?_
    refine W.q (Ev.move (.t rfl)) rfl ?_
    refine W.nil ?_
    refine W.then ?_
    refine W.reach (D := []) (i + 1) ⟨rfl, rfl, rfl, rfl, rfl, rfl, trivial⟩ (by rw [← one_row]; exact .refl _) ⟨by show i + 1 ≤ _; omega, by show _ - (i + 1) < _; omega⟩
  · rw [hend]
    refine W.seq ?_
    refine W.region ?_
    refine W.q (Ev.lti (.t rfl) (.t rfl)) rfl ?_
    refine W.nil ?_
    refine W.then ?_
    refine W.seq ?_
    refine W.is (t := 51) (g := true) (av' := .lit (.bool false)) rfl (congrArg (fun b => AV.lit (.bool b)) (by exact decide_eq_false (by omega))) ?_
    refine W.condF (.t rfl) ?_
    refine W.exit ?_
    refine W.then_exit ?_
    refine W.then_exit ?_
    refine W.blk_hit ?_
    refine W.blk_normal ?_
    refine W.then ?_
    refine W.seq ?_
    refine W.region ?_
    refine W.q (Ev.move (.t rfl)) rfl ?_
    refine W.q (Ev.assign (.t rfl)) rfl ?_
    refine W.nil ?_
    refine W.then ?_
    refine W.ret ?_
    refine W.freezeA (M1 := [_]) (M2 := [_]) (D := []) (v := v17) (L' := [(6, true, .sl 1 (rowB (w.length + 1) (oneF f w x.type w.length)))]) (.refl _) ⟨⟨_, rfl, .one .hit⟩, trivial⟩ (FrzMs.refl _) ?_
    refine W.retn (M' := []) (D := _) (rs := [.tmp 6]) (avs := [_]) Try.results24 ⟨rfl, trivial⟩ rfl (.refl _) ?_
    exact ⟨rfl, _, rfl, by rw [Ex.lg_eq, if_pos hk]; exact Rch.one x.type⟩

theorem c_reach2 (x : Ex) (h1 : Ex.ok1 x) (hz : x.sz ≤ 16777216) (w : List Int) (hw : w.length ≤ 1048576) (ih : ∀ d ∈ x.parts, ∀ f : Nat → Bool, FnC Try.prog 24 [Ex.avx d, .sl 1 (w.map AV.int), .sl 1 (rowB (w.length + 1) f)] [] (fun r M => M = [] ∧ ∃ g : Nat → Bool, r = .sl 1 (rowB (w.length + 1) g) ∧ Rch (Ex.lg d) w f g)) (f : Nat → Bool) (hk : x.kind = 2) : FnC Try.prog 24 [Ex.avx x, .sl 1 (w.map AV.int), .sl 1 (rowB (w.length + 1) f)] [] (fun r M => M = [] ∧ ∃ g : Nat → Bool, r = .sl 1 (rowB (w.length + 1) g) ∧ Rch (Ex.lg x) w f g) :=  by
  refine FnC.mk Try.func24 (by kernel_rfl) rfl Try.ntmps24 rfl (fun w0 F => ?_)
  have hpl : (x.parts.map Ex.av).length = x.parts.length := List.length_map ..
  have hwl : (w.map AV.int).length = w.length := List.length_map ..
  obtain ⟨k0, k1, k2, k3, k4, k5, k6, k7⟩ := Ex.ok1_facts h1
  have hse := Ex.sz_eq x
  have hsl := Ex.szs_len x.parts
  refine W.seq ?_
  refine W.region ?_
  refine W.box (.t rfl) rfl rfl ?_
  intro b3
  refine W.q (Ev.assign .k) rfl ?_
  refine W.nil ?_
  refine W.then ?_
  refine W.seq ?_
  refine W.region ?_
  refine W.q (Ev.move (.t rfl)) rfl ?_
  first | refine W.q (Ev.lensl (.t rfl) Try.underlying56) rfl ?_ | refine W.q (Ev.lenar (i := 0) (.t rfl) rfl Try.underlying56) rfl ?_ | refine W.q (Ev.lenar (i := 1) (.t rfl) rfl Try.underlying56) rfl ?_ | refine W.q (Ev.lenar (i := 2) (.t rfl) rfl Try.underlying56) rfl ?_ | refine W.q (Ev.lenar (i := 3) (.t rfl) rfl Try.underlying56) rfl ?_
  refine W.is (t := 16) (g := true) (av' := .int (((w.length + 1) : Nat) : Int)) rfl (congrArg AV.int (by rw [rowB_len])) ?_
  refine W.mk (.t rfl) (.t rfl) Try.underlying56 ty4 rfl rfl rfl rfl rfl (by omega) rfl ?_
  intro v17
  refine W.q (Ev.assign (.t rfl)) rfl ?_
  refine W.nil ?_
  refine W.then ?_
  refine W.seq ?_
  refine W.seq ?_
  refine W.region ?_
  first | refine W.q (Ev.fae (.t rfl) fa28_0 rfl) rfl ?_ | refine W.q (Ev.fab (.t rfl) fa28_0) rfl ?_ | refine W.q (Ev.faa (.t rfl) fa28_0) rfl ?_
  first | refine W.q (Ev.lde1 (.t rfl) ag3) rfl ?_ | refine W.q (Ev.ldb1 0 (.t rfl) rfl ag3 rfl) rfl ?_ | refine W.q (Ev.ldb1 1 (.t rfl) rfl ag3 rfl) rfl ?_ | refine W.q (Ev.ldb1 2 (.t rfl) rfl ag3 rfl) rfl ?_ | refine W.q (Ev.ldb1 3 (.t rfl) rfl ag3 rfl) rfl ?_
  refine W.nil ?_
  refine W.then ?_
  refine W.block ?_
  refine W.seq ?_
  refine W.region ?_
  refine W.q (Ev.eqi (.t rfl) .k) rfl ?_
  refine W.q (Ev.assign (.t rfl)) rfl ?_
  refine W.nil ?_
  refine W.then ?_
  refine W.is (t := 46) (g := true) (av' := .lit (.bool false)) rfl (congrArg (fun b => AV.lit (.bool b)) (by rw [hk]; rfl)) ?_
  refine W.condF (.t rfl) ?_
  refine W.seq ?_
  refine W.region ?_
  refine W.q (Ev.eqi (.t rfl) .k) rfl ?_
  refine W.q (Ev.assign (.t rfl)) rfl ?_
  refine W.nil ?_
  refine W.then ?_
  refine W.is (t := 70) (g := true) (av' := .lit (.bool true)) rfl (congrArg (fun b => AV.lit (.bool b)) (by rw [hk]; rfl)) ?_
  refine W.condT (.t rfl) ?_
  refine W.seq ?_
  refine W.region ?_
  refine W.q (Ev.move (.t rfl)) rfl ?_
  refine W.call (WMatch1.c_CloneB (rowB (w.length + 1) f) (okc_rowB _ _) (by rw [rowB_len]; omega)) ⟨(.t rfl), trivial⟩ (.refl _) rfl ?_
  rintro _ _ ⟨v73, rfl, rfl⟩
  refine W.q (Ev.assign (.t rfl)) rfl ?_
  refine W.nil ?_
  refine W.freezeA (M1 := [_, _]) (M2 := [_, _]) (D := []) (v := v73) (L' := [(7, true, .sl 1 (rowB (w.length + 1) f))]) (.refl _) ⟨⟨_, rfl, .one .hit⟩, trivial⟩ (FrzMs.refl _) ?_
  refine W.then ?_
  refine W.seq ?_
  refine W.region ?_
  first | refine W.q (Ev.fae (.t rfl) fa28_2 rfl) rfl ?_ | refine W.q (Ev.fab (.t rfl) fa28_2) rfl ?_ | refine W.q (Ev.faa (.t rfl) fa28_2) rfl ?_
  first | refine W.q (Ev.lde1 (.t rfl) ag26) rfl ?_ | refine W.q (Ev.ldb1 0 (.t rfl) rfl ag26 rfl) rfl ?_ | refine W.q (Ev.ldb1 1 (.t rfl) rfl ag26 rfl) rfl ?_ | refine W.q (Ev.ldb1 2 (.t rfl) rfl ag26 rfl) rfl ?_ | refine W.q (Ev.ldb1 3 (.t rfl) rfl ag26 rfl) rfl ?_
  first | refine W.q (Ev.lensl (.t rfl) Try.underlying26) rfl ?_ | refine W.q (Ev.lenar (i := 0) (.t rfl) rfl Try.underlying26) rfl ?_ | refine W.q (Ev.lenar (i := 1) (.t rfl) rfl Try.underlying26) rfl ?_ | refine W.q (Ev.lenar (i := 2) (.t rfl) rfl Try.underlying26) rfl ?_ | refine W.q (Ev.lenar (i := 3) (.t rfl) rfl Try.underlying26) rfl ?_
  refine W.q (Ev.move .k) rfl ?_
  refine W.nil ?_
  refine W.then ?_
  refine W.block ?_
  refine W.loop (D := [_]) (ι := Nat × (Nat → Bool)) (fun z => [(77, true, .int (z.1 : Int)), (76, true, .int ((x.parts.map Ex.av).length : Int)), (75, true, .sl 3 (x.parts.map Ex.av)), (7, true, .sl 1 (rowB (w.length + 1) z.2)), (1, true, .sl 1 (w.map AV.int))]) (fun z => [.box b3 28 x.avx.cells]) (fun z => z.1 ≤ x.parts.length ∧ Rch (Ex.seqs (x.parts.take z.1)) w f z.2) (fun z => x.parts.length - z.1) (0, f) ⟨rfl, rfl, rfl, rfl, rfl, trivial⟩ (List.Perm.swap _ _ []) ⟨Nat.zero_le _, Rch.eps⟩ ?_
  rintro ⟨i, g⟩ ⟨hi, hg⟩
  dsimp only at hi hg ⊢
  rcases (show i < x.parts.length ∨ i = x.parts.length from by omega) with hlt | hend
  · have hga := Ex.at_av x.parts i hlt
    have hdm := getD_memG Ex.dflt x.parts i hlt
    have hts := take_getDG Ex.dflt x.parts i hlt
    generalize x.parts.getD i Ex.dflt = d at hga hdm hts
    refine W.seq ?_
    refine W.region ?_
    refine W.q (Ev.lti (.t rfl) (.t rfl)) rfl ?_
    refine W.nil ?_
    refine W.then ?_
    refine W.seq ?_
    refine W.is (t := 78) (g := true) (av' := .lit (.bool true)) rfl (congrArg (fun b => AV.lit (.bool b)) (by exact decide_eq_true (by omega))) ?_
    refine W.condT (.t rfl) ?_
    refine W.skip ?_
    refine W.then ?_
    refine W.seq ?_
    refine W.block ?_
    refine W.seq ?_
    refine W.region ?_
    refine W.q (Ev.at (E := 28) (.t rfl) (.t rfl) Try.underlying26 ty28 (fun _ => ⟨by omega, hga⟩) rfl rfl) rfl ?_
    first | refine W.q (Ev.lden (.t rfl) ag28 ty28 rfl rfl) rfl ?_ | refine W.q (Ev.ldbn 0 (.t rfl) rfl ag28 ty28 rfl) rfl ?_ | refine W.q (Ev.ldbn 1 (.t rfl) rfl ag28 ty28 rfl) rfl ?_ | refine W.q (Ev.ldbn 2 (.t rfl) rfl ag28 ty28 rfl) rfl ?_ | refine W.q (Ev.ldbn 3 (.t rfl) rfl ag28 ty28 rfl) rfl ?_
    refine W.alloc ty28 rfl rfl ?_
    intro b11
    first | refine W.stb 0 (.t rfl) (.t rfl) rfl ty28 rfl rfl rfl ?_ | refine W.stb 1 (.t rfl) (.t rfl) rfl ty28 rfl rfl rfl ?_ | refine W.stb 2 (.t rfl) (.t rfl) rfl ty28 rfl rfl rfl ?_ | refine W.stb 3 (.t rfl) (.t rfl) rfl ty28 rfl rfl rfl ?_
    refine W.nil ?_
    refine W.then ?_
    refine W.region ?_
    first | refine W.q (Ev.lden (.t rfl) ag28 ty28 rfl rfl) rfl ?_ | refine W.q (Ev.ldbn 0 (.t rfl) rfl ag28 ty28 rfl) rfl ?_ | refine W.q (Ev.ldbn 1 (.t rfl) rfl ag28 ty28 rfl) rfl ?_ | refine W.q (Ev.ldbn 2 (.t rfl) rfl ag28 ty28 rfl) rfl ?_ | refine W.q (Ev.ldbn 3 (.t rfl) rfl ag28 ty28 rfl) rfl ?_
    refine W.q (Ev.move (.t rfl)) rfl ?_
    refine W.q (Ev.move (.t rfl)) rfl ?_
    refine W.call (ih d hdm g) ⟨(.t rfl), (.t rfl), (.t rfl), trivial⟩ (.refl _) rfl ?_
    rintro _ _ ⟨rfl, g2, rfl, hg2⟩
    refine W.q (Ev.assign (.t rfl)) rfl ?_
    refine W.nil ?_
    refine W.blk_normal ?_
    refine W.then ?_
    refine W.region ?_
    first | refine W.q (Ev.add (.t rfl) .k (fun _ => by omega)) rfl ?_ | refine W.q (Ev.addw (.t rfl) .k) rfl ?_
    refine W.q (Ev.move (.t rfl)) rfl ?_
    refine W.nil ?_
    refine W.then ?_
    refine W.reach (D := [_]) (i + 1, g2) ⟨rfl, rfl, rfl, rfl, rfl, trivial⟩ (List.Perm.swap _ _ []) ⟨⟨by show i + 1 ≤ _; omega, by show Rch (Ex.seqs (x.parts.take (i + 1))) w f g2; rw [hts, Ex.seqs_append, Ex.seqs_one]; exact hg.cat hg2⟩, by show _ - (i + 1) < _; omega⟩
  · rw [List.take_of_length_le (show x.parts.length ≤ i from by omega)] at hg
    refine W.seq ?_
    refine W.region ?_
    refine W.q (Ev.lti (.t rfl) (.t rfl)) rfl ?_
    refine W.nil ?_
    refine W.then ?_
    refine W.seq ?_
    refine W.is (t := 78) (g := true) (av' := .lit (.bool false)) rfl (congrArg (fun b => AV.lit (.bool b)) (by exact decide_eq_false (by omega))) ?_
    refine W.condF (.t rfl) ?_
    refine W.exit ?_
    refine W.then_exit ?_
    refine W.then_exit ?_
    refine W.blk_hit ?_
    refine W.blk_normal ?_
    refine W.then ?_
    refine W.seq ?_
    refine W.region ?_
    refine W.q (Ev.move (.t rfl)) rfl ?_
    refine W.q (Ev.assign (.t rfl)) rfl ?_
    refine W.nil ?_
    refine W.then ?_
    refine W.ret ?_
    refine W.retn (M' := []) (D := _) (rs := [.tmp 6]) (avs := [_]) Try.results24 ⟨rfl, trivial⟩ rfl (.refl _) ?_
    exact ⟨rfl, _, rfl, by rw [Ex.lg_eq, if_neg (by omega), if_pos hk]; exact hg⟩

theorem c_reach3 (x : Ex) (h1 : Ex.ok1 x) (hz : x.sz ≤ 16777216) (w : List Int) (hw : w.length ≤ 1048576) (ih : ∀ d ∈ x.parts, ∀ f : Nat → Bool, FnC Try.prog 24 [Ex.avx d, .sl 1 (w.map AV.int), .sl 1 (rowB (w.length + 1) f)] [] (fun r M => M = [] ∧ ∃ g : Nat → Bool, r = .sl 1 (rowB (w.length + 1) g) ∧ Rch (Ex.lg d) w f g)) (f : Nat → Bool) (hk : x.kind = 3) : FnC Try.prog 24 [Ex.avx x, .sl 1 (w.map AV.int), .sl 1 (rowB (w.length + 1) f)] [] (fun r M => M = [] ∧ ∃ g : Nat → Bool, r = .sl 1 (rowB (w.length + 1) g) ∧ Rch (Ex.lg x) w f g) :=  by
  refine FnC.mk Try.func24 (by kernel_rfl) rfl Try.ntmps24 rfl (fun w0 F => ?_)
  have hpl : (x.parts.map Ex.av).length = x.parts.length := List.length_map ..
  have hwl : (w.map AV.int).length = w.length := List.length_map ..
  obtain ⟨k0, k1, k2, k3, k4, k5, k6, k7⟩ := Ex.ok1_facts h1
  have hse := Ex.sz_eq x
  have hsl := Ex.szs_len x.parts
  refine W.seq ?_
  refine W.region ?_
  refine W.box (.t rfl) rfl rfl ?_
  intro b3
  refine W.q (Ev.assign .k) rfl ?_
  refine W.nil ?_
  refine W.then ?_
  refine W.seq ?_
  refine W.region ?_
  refine W.q (Ev.move (.t rfl)) rfl ?_
  first | refine W.q (Ev.lensl (.t rfl) Try.underlying56) rfl ?_ | refine W.q (Ev.lenar (i := 0) (.t rfl) rfl Try.underlying56) rfl ?_ | refine W.q (Ev.lenar (i := 1) (.t rfl) rfl Try.underlying56) rfl ?_ | refine W.q (Ev.lenar (i := 2) (.t rfl) rfl Try.underlying56) rfl ?_ | refine W.q (Ev.lenar (i := 3) (.t rfl) rfl Try.underlying56) rfl ?_
  refine W.is (t := 16) (g := true) (av' := .int (((w.length + 1) : Nat) : Int)) rfl (congrArg AV.int (by rw [rowB_len])) ?_
  refine W.mk (.t rfl) (.t rfl) Try.underlying56 ty4 rfl rfl rfl rfl rfl (by omega) rfl ?_
  intro v17
  refine W.q (Ev.assign (.t rfl)) rfl ?_
  refine W.nil ?_
  refine W.then ?_
  refine W.seq ?_
  refine W.seq ?_
  refine W.region ?_
  first | refine W.q (Ev.fae (.t rfl) fa28_0 rfl) rfl ?_ | refine W.q (Ev.fab (.t rfl) fa28_0) rfl ?_ | refine W.q (Ev.faa (.t rfl) fa28_0) rfl ?_
  first | refine W.q (Ev.lde1 (.t rfl) ag3) rfl ?_ | refine W.q (Ev.ldb1 0 (.t rfl) rfl ag3 rfl) rfl ?_ | refine W.q (Ev.ldb1 1 (.t rfl) rfl ag3 rfl) rfl ?_ | refine W.q (Ev.ldb1 2 (.t rfl) rfl ag3 rfl) rfl ?_ | refine W.q (Ev.ldb1 3 (.t rfl) rfl ag3 rfl) rfl ?_
  refine W.nil ?_
  refine W.then ?_
  refine W.block ?_
  refine W.seq ?_
  refine W.region ?_
  refine W.q (Ev.eqi (.t rfl) .k) rfl ?_
  refine W.q (Ev.assign (.t rfl)) rfl ?_
  refine W.nil ?_
  refine W.then ?_
  refine W.is (t := 46) (g := true) (av' := .lit (.bool false)) rfl (congrArg (fun b => AV.lit (.bool b)) (by rw [hk]; rfl)) ?_
  refine W.condF (.t rfl) ?_
  refine W.seq ?_
  refine W.region ?_
  refine W.q (Ev.eqi (.t rfl) .k) rfl ?_
  refine W.q (Ev.assign (.t rfl)) rfl ?_
  refine W.nil ?_
  refine W.then ?_
  refine W.is (t := 70) (g := true) (av' := .lit (.bool false)) rfl (congrArg (fun b => AV.lit (.bool b)) (by rw [hk]; rfl)) ?_
  refine W.condF (.t rfl) ?_
  refine W.seq ?_
  refine W.region ?_
  refine W.q (Ev.eqi (.t rfl) .k) rfl ?_
  refine W.q (Ev.assign (.t rfl)) rfl ?_
  refine W.nil ?_
  refine W.then ?_
  refine W.is (t := 86) (g := true) (av' := .lit (.bool true)) rfl (congrArg (fun b => AV.lit (.bool b)) (by rw [hk]; rfl)) ?_
  refine W.condT (.t rfl) ?_
  refine W.seq ?_
  refine W.region ?_
  first | refine W.q (Ev.fae (.t rfl) fa28_2 rfl) rfl ?_ | refine W.q (Ev.fab (.t rfl) fa28_2) rfl ?_ | refine W.q (Ev.faa (.t rfl) fa28_2) rfl ?_
  first | refine W.q (Ev.lde1 (.t rfl) ag26) rfl ?_ | refine W.q (Ev.ldb1 0 (.t rfl) rfl ag26 rfl) rfl ?_ | refine W.q (Ev.ldb1 1 (.t rfl) rfl ag26 rfl) rfl ?_ | refine W.q (Ev.ldb1 2 (.t rfl) rfl ag26 rfl) rfl ?_ | refine W.q (Ev.ldb1 3 (.t rfl) rfl ag26 rfl) rfl ?_
  first | refine W.q (Ev.lensl (.t rfl) Try.underlying26) rfl ?_ | refine W.q (Ev.lenar (i := 0) (.t rfl) rfl Try.underlying26) rfl ?_ | refine W.q (Ev.lenar (i := 1) (.t rfl) rfl Try.underlying26) rfl ?_ | refine W.q (Ev.lenar (i := 2) (.t rfl) rfl Try.underlying26) rfl ?_ | refine W.q (Ev.lenar (i := 3) (.t rfl) rfl Try.underlying26) rfl ?_
  refine W.q (Ev.move .k) rfl ?_
  refine W.nil ?_
  refine W.freezeA (M1 := [_]) (M2 := [_]) (D := []) (v := v17) (L' := [(7, true, .sl 1 (rowB (w.length + 1) (fun _ => false)))]) (.refl _) ⟨⟨_, rfl, .one (by rw [← rowB_rep]; exact .hit)⟩, trivial⟩ (FrzMs.refl _) ?_
  refine W.then ?_
  refine W.block ?_
  refine W.loop (D := []) (ι := Nat × (Nat → Bool)) (fun z => [(91, true, .int (z.1 : Int)), (90, true, .int ((x.parts.map Ex.av).length : Int)), (89, true, .sl 3 (x.parts.map Ex.av)), (7, true, .sl 1 (rowB (w.length + 1) z.2)), (1, true, .sl 1 (w.map AV.int)), (2, true, .sl 1 (rowB (w.length + 1) f))]) (fun z => [.box b3 28 x.avx.cells]) (fun z => z.1 ≤ x.parts.length ∧ Rch (Ex.alts (x.parts.take z.1)) w f z.2) (fun z => x.parts.length - z.1) (0, fun _ => false) ⟨rfl, rfl, rfl, rfl, rfl, rfl, trivial⟩ (.refl _) ⟨Nat.zero_le _, Rch.none⟩ ?_
  rintro ⟨i, g⟩ ⟨hi, hg⟩
  dsimp only at hi hg ⊢
  rcases (show i < x.parts.length ∨ i = x.parts.length from by omega) with hlt | hend
  · have hga := Ex.at_av x.parts i hlt
    have hdm := getD_memG Ex.dflt x.parts i hlt
    have hts := take_getDG Ex.dflt x.parts i hlt
    generalize x.parts.getD i Ex.dflt = d at hga hdm hts
    refine W.seq ?_
    refine W.region ?_
    refine W.q (Ev.lti (.t rfl) (.t rfl)) rfl ?_
    refine W.nil ?_
    refine W.then ?_
    refine W.seq ?_
    refine W.is (t := 92) (g := true) (av' := .lit (.bool true)) rfl (congrArg (fun b => AV.lit (.bool b)) (by exact decide_eq_true (by omega))) ?_
    refine W.condT (.t rfl) ?_
    refine W.skip ?_
    refine W.then ?_
    refine W.seq ?_
    refine W.block ?_
    refine W.seq ?_
    refine W.region ?_
    refine W.q (Ev.at (E := 28) (.t rfl) (.t rfl) Try.underlying26 ty28 (fun _ => ⟨by omega, hga⟩) rfl rfl) rfl ?_
    first | refine W.q (Ev.lden (.t rfl) ag28 ty28 rfl rfl) rfl ?_ | refine W.q (Ev.ldbn 0 (.t rfl) rfl ag28 ty28 rfl) rfl ?_ | refine W.q (Ev.ldbn 1 (.t rfl) rfl ag28 ty28 rfl) rfl ?_ | refine W.q (Ev.ldbn 2 (.t rfl) rfl ag28 ty28 rfl) rfl ?_ | refine W.q (Ev.ldbn 3 (.t rfl) rfl ag28 ty28 rfl) rfl ?_
    refine W.alloc ty28 rfl rfl ?_
    intro b13
    first | refine W.stb 0 (.t rfl) (.t rfl) rfl ty28 rfl rfl rfl ?_ | refine W.stb 1 (.t rfl) (.t rfl) rfl ty28 rfl rfl rfl ?_ | refine W.stb 2 (.t rfl) (.t rfl) rfl ty28 rfl rfl rfl ?_ | refine W.stb 3 (.t rfl) (.t rfl) rfl ty28 rfl rfl rfl ?_
    refine W.nil ?_
    refine W.then ?_
    refine W.region ?_
    refine W.q (Ev.move (.t rfl)) rfl ?_
    first | refine W.q (Ev.lden (.t rfl) ag28 ty28 rfl rfl) rfl ?_ | refine W.q (Ev.ldbn 0 (.t rfl) rfl ag28 ty28 rfl) rfl ?_ | refine W.q (Ev.ldbn 1 (.t rfl) rfl ag28 ty28 rfl) rfl ?_ | refine W.q (Ev.ldbn 2 (.t rfl) rfl ag28 ty28 rfl) rfl ?_ | refine W.q (Ev.ldbn 3 (.t rfl) rfl ag28 ty28 rfl) rfl ?_
    refine W.q (Ev.move (.t rfl)) rfl ?_
    refine W.q (Ev.move (.t rfl)) rfl ?_
    refine W.call (ih d hdm f) ⟨(.t rfl), (.t rfl), (.t rfl), trivial⟩ (.refl _) rfl ?_
    rintro _ _ ⟨rfl, g2, rfl, hg2⟩
    refine W.callp (WMatch1.c_either (w.length + 1) g g2 (by omega)) ⟨(.t rfl), (.t rfl), trivial⟩ rfl ?_
    refine W.q (Ev.assign (.t rfl)) rfl ?_
    refine W.nil ?_
    refine W.blk_normal ?_
    refine W.then ?_
    refine W.region ?_
    first | refine W.q (Ev.add (.t rfl) .k (fun _ => by omega)) rfl ?_ | refine W.q (Ev.addw (.t rfl) .k) rfl ?_
    refine W.q (Ev.move (.t rfl)) rfl ?_
    refine W.nil ?_
    refine W.then ?_
    refine W.reach (D := [_]) (i + 1, fun j => g j || g2 j) ⟨rfl, rfl, rfl, rfl, rfl, rfl, trivial⟩ (List.Perm.swap _ _ []) ⟨⟨by show i + 1 ≤ _; omega, by show Rch (Ex.alts (x.parts.take (i + 1))) w f _; rw [hts, Ex.alts_append, Ex.alts_one]; exact hg.alt hg2⟩, by show _ - (i + 1) < _; omega⟩
  · rw [List.take_of_length_le (show x.parts.length ≤ i from by omega)] at hg
    refine W.seq ?_
    refine W.region ?_
    refine W.q (Ev.lti (.t rfl) (.t rfl)) rfl ?_
    refine W.nil ?_
    refine W.then ?_
    refine W.seq ?_
    refine W.is (t := 92) (g := true) (av' := .lit (.bool false)) rfl (congrArg (fun b => AV.lit (.bool b)) (by exact decide_eq_false (by omega))) ?_
    refine W.condF (.t rfl) ?_
    refine W.exit ?_
    refine W.then_exit ?_
    refine W.then_exit ?_
    refine W.blk_hit ?_
    refine W.blk_normal ?_
    refine W.then ?_
    refine W.seq ?_
    refine W.region ?_
    refine W.q (Ev.move (.t rfl)) rfl ?_
    refine W.q (Ev.assign (.t rfl)) rfl ?_
    refine W.nil ?_
    refine W.then ?_
    refine W.ret ?_
    refine W.retn (M' := []) (D := _) (rs := [.tmp 6]) (avs := [_]) Try.results24 ⟨rfl, trivial⟩ rfl (.refl _) ?_
    exact ⟨rfl, _, rfl, by rw [Ex.lg_eq, if_neg (by omega), if_neg (by omega), if_pos hk]; exact hg⟩

theorem c_reach6 (x : Ex) (h1 : Ex.ok1 x) (hz : x.sz ≤ 16777216) (w : List Int) (hw : w.length ≤ 1048576) (ih : ∀ d ∈ x.parts, ∀ f : Nat → Bool, FnC Try.prog 24 [Ex.avx d, .sl 1 (w.map AV.int), .sl 1 (rowB (w.length + 1) f)] [] (fun r M => M = [] ∧ ∃ g : Nat → Bool, r = .sl 1 (rowB (w.length + 1) g) ∧ Rch (Ex.lg d) w f g)) (f : Nat → Bool) (hk : x.kind = 6) : FnC Try.prog 24 [Ex.avx x, .sl 1 (w.map AV.int), .sl 1 (rowB (w.length + 1) f)] [] (fun r M => M = [] ∧ ∃ g : Nat → Bool, r = .sl 1 (rowB (w.length + 1) g) ∧ Rch (Ex.lg x) w f g) :=  by
  refine FnC.mk Try.func24 (by kernel_rfl) rfl Try.ntmps24 rfl (fun w0 F => ?_)
  have hpl : (x.parts.map Ex.av).length = x.parts.length := List.length_map ..
  have hwl : (w.map AV.int).length = w.length := List.length_map ..
  obtain ⟨k0, k1, k2, k3, k4, k5, k6, k7⟩ := Ex.ok1_facts h1
  have hse := Ex.sz_eq x
  have hsl := Ex.szs_len x.parts
  obtain ⟨q, hq⟩ : ∃ q, x.parts = [q] := List.length_eq_one_iff.1 (k6 (by omega))
  have hgq : (x.parts.map Ex.av)[0]? = some q.avx := by rw [hq, ← Ex.av_eq]; rfl
  have hqm : q ∈ x.parts := by rw [hq]; exact List.mem_cons_self
  have hal : Ex.alts x.parts = Ex.lg q := by rw [hq, Ex.alts_one]
  refine W.seq ?_
  refine W.region ?_
  refine W.box (.t rfl) rfl rfl ?_
  intro b3
  refine W.q (Ev.assign .k) rfl ?_
  refine W.nil ?_
  refine W.then ?_
  refine W.seq ?_
  refine W.region ?_
  refine W.q (Ev.move (.t rfl)) rfl ?_
  first | refine W.q (Ev.lensl (.t rfl) Try.underlying56) rfl ?_ | refine W.q (Ev.lenar (i := 0) (.t rfl) rfl Try.underlying56) rfl ?_ | refine W.q (Ev.lenar (i := 1) (.t rfl) rfl Try.underlying56) rfl ?_ | refine W.q (Ev.lenar (i := 2) (.t rfl) rfl Try.underlying56) rfl ?_ | refine W.q (Ev.lenar (i := 3) (.t rfl) rfl Try.underlying56) rfl ?_
  refine W.is (t := 16) (g := true) (av' := .int (((w.length + 1) : Nat) : Int)) rfl (congrArg AV.int (by rw [rowB_len])) ?_
  refine W.mk (.t rfl) (.t rfl) Try.underlying56 ty4 rfl rfl rfl rfl rfl (by omega) rfl ?_
  intro v17
  refine W.q (Ev.assign (.t rfl)) rfl ?_
  refine W.nil ?_
  refine W.then ?_
  refine W.seq ?_
  refine W.seq ?_
  refine W.region ?_
  first | refine W.q (Ev.fae (.t rfl) fa28_0 rfl) rfl ?_ | refine W.q (Ev.fab (.t rfl) fa28_0) rfl ?_ | refine W.q (Ev.faa (.t rfl) fa28_0) rfl ?_
  first | refine W.q (Ev.lde1 (.t rfl) ag3) rfl ?_ | refine W.q (Ev.ldb1 0 (.t rfl) rfl ag3 rfl) rfl ?_ | refine W.q (Ev.ldb1 1 (.t rfl) rfl ag3 rfl) rfl ?_ | refine W.q (Ev.ldb1 2 (.t rfl) rfl ag3 rfl) rfl ?_ | refine W.q (Ev.ldb1 3 (.t rfl) rfl ag3 rfl) rfl ?_
  refine W.nil ?_
  refine W.then ?_
  refine W.block ?_
  refine W.seq ?_
  refine W.region ?_
  refine W.q (Ev.eqi (.t rfl) .k) rfl ?_
  refine W.q (Ev.assign (.t rfl)) rfl ?_
  refine W.nil ?_
  refine W.then ?_
  refine W.is (t := 46) (g := true) (av' := .lit (.bool false)) rfl (congrArg (fun b => AV.lit (.bool b)) (by rw [hk]; rfl)) ?_
  refine W.condF (.t rfl) ?_
  refine W.seq ?_
  refine W.region ?_
  refine W.q (Ev.eqi (.t rfl) .k) rfl ?_
  refine W.q (Ev.assign (.t rfl)) rfl ?_
  refine W.nil ?_
  refine W.then ?_
  refine W.is (t := 70) (g := true) (av' := .lit (.bool false)) rfl (congrArg (fun b => AV.lit (.bool b)) (by rw [hk]; rfl)) ?_
  refine W.condF (.t rfl) ?_
  refine W.seq ?_
  refine W.region ?_
  refine W.q (Ev.eqi (.t rfl) .k) rfl ?_
  refine W.q (Ev.assign (.t rfl)) rfl ?_
  refine W.nil ?_
  refine W.then ?_
  refine W.is (t := 86) (g := true) (av' := .lit (.bool false)) rfl (congrArg (fun b => AV.lit (.bool b)) (by rw [hk]; rfl)) ?_
  refine W.condF (.t rfl) ?_
  refine W.seq ?_
  refine W.region ?_
  refine W.q (Ev.eqi (.t rfl) .k) rfl ?_
  refine W.q (Ev.assign (.t rfl)) rfl ?_
  refine W.nil ?_
  refine W.then ?_
  refine W.is (t := 102) (g := true) (av' := .lit (.bool true)) rfl (congrArg (fun b => AV.lit (.bool b)) (by rw [hk]; rfl)) ?_
  refine W.condT (.t rfl) ?_
  refine W.region ?_
  refine W.q (Ev.move (.t rfl)) rfl ?_
  first | refine W.q (Ev.fae (.t rfl) fa28_2 rfl) rfl ?_ | refine W.q (Ev.fab (.t rfl) fa28_2) rfl ?_ | refine W.q (Ev.faa (.t rfl) fa28_2) rfl ?_
  first | refine W.q (Ev.lde1 (.t rfl) ag26) rfl ?_ | refine W.q (Ev.ldb1 0 (.t rfl) rfl ag26 rfl) rfl ?_ | refine W.q (Ev.ldb1 1 (.t rfl) rfl ag26 rfl) rfl ?_ | refine W.q (Ev.ldb1 2 (.t rfl) rfl ag26 rfl) rfl ?_ | refine W.q (Ev.ldb1 3 (.t rfl) rfl ag26 rfl) rfl ?_
  refine W.q (Ev.at (E := 28) (.t rfl) .k Try.underlying26 ty28 (fun _ => ⟨by decide, hgq⟩) rfl rfl) rfl ?_
  first | refine W.q (Ev.lden (.t rfl) ag28 ty28 rfl rfl) rfl ?_ | refine W.q (Ev.ldbn 0 (.t rfl) rfl ag28 ty28 rfl) rfl ?_ | refine W.q (Ev.ldbn 1 (.t rfl) rfl ag28 ty28 rfl) rfl ?_ | refine W.q (Ev.ldbn 2 (.t rfl) rfl ag28 ty28 rfl) rfl ?_ | refine W.q (Ev.ldbn 3 (.t rfl) rfl ag28 ty28 rfl) rfl ?_
  refine W.q (Ev.move (.t rfl)) rfl ?_
  refine W.q (Ev.move (.t rfl)) rfl ?_
  refine W.call (ih q hqm f) ⟨(.t rfl), (.t rfl), (.t rfl), trivial⟩ (.refl _) rfl ?_
  rintro _ _ ⟨rfl, g2, rfl, hg2⟩
  refine W.callp (WMatch1.c_either (w.length + 1) f g2 (by omega)) ⟨(.t rfl), (.t rfl), trivial⟩ rfl ?_
  refine W.q (Ev.assign (.t rfl)) rfl ?_
  refine W.nil ?_
  refine W.blk_normal ?_
  refine W.then ?_
  refine W.seq ?_
  refine W.region ?_
  refine W.q (Ev.move (.t rfl)) rfl ?_
  refine W.q (Ev.assign (.t rfl)) rfl ?_
  refine W.nil ?_
  refine W.then ?_
  refine W.ret ?_
  refine W.retn (M' := []) (D := _) (rs := [.tmp 6]) (avs := [_]) Try.results24 ⟨rfl, trivial⟩ rfl (.refl _) ?_
  exact ⟨rfl, _, rfl, by rw [Ex.lg_eq, if_neg (by omega), if_neg (by omega), if_neg (by omega), if_neg (by omega), if_neg (by omega), hal]; exact Rch.eps.alt hg2⟩

theorem c_reach4 (x : Ex) (h1 : Ex.ok1 x) (hz : x.sz ≤ 16777216) (w : List Int) (hw : w.length ≤ 1048576) (ih : ∀ d ∈ x.parts, ∀ f : Nat → Bool, FnC Try.prog 24 [Ex.avx d, .sl 1 (w.map AV.int), .sl 1 (rowB (w.length + 1) f)] [] (fun r M => M = [] ∧ ∃ g : Nat → Bool, r = .sl 1 (rowB (w.length + 1) g) ∧ Rch (Ex.lg d) w f g)) (f : Nat → Bool) (hk : x.kind = 4) : FnC Try.prog 24 [Ex.avx x, .sl 1 (w.map AV.int), .sl 1 (rowB (w.length + 1) f)] [] (fun r M => M = [] ∧ ∃ g : Nat → Bool, r = .sl 1 (rowB (w.length + 1) g) ∧ Rch (Ex.lg x) w f g) :=  by
  refine FnC.mk Try.func24 (by kernel_rfl) rfl Try.ntmps24 rfl (fun w0 F => ?_)
  have hpl : (x.parts.map Ex.av).length = x.parts.length := List.length_map ..
  have hwl : (w.map AV.int).length = w.length := List.length_map ..
  obtain ⟨k0, k1, k2, k3, k4, k5, k6, k7⟩ := Ex.ok1_facts h1
  have hse := Ex.sz_eq x
  have hsl := Ex.szs_len x.parts
  obtain ⟨q, hq⟩ : ∃ q, x.parts = [q] := List.length_eq_one_iff.1 (k6 (by omega))
  have hgq : (x.parts.map Ex.av)[0]? = some q.avx := by rw [hq, ← Ex.av_eq]; rfl
  have hqm : q ∈ x.parts := by rw [hq]; exact List.mem_cons_self
  have hal : Ex.alts x.parts = Ex.lg q := by rw [hq, Ex.alts_one]
  refine W.seq ?_
  refine W.region ?_
  refine W.box (.t rfl) rfl rfl ?_
  intro b3
  refine W.q (Ev.assign .k) rfl ?_
  refine W.nil ?_
  refine W.then ?_
  refine W.seq ?_
  refine W.region ?_
  refine W.q (Ev.move (.t rfl)) rfl ?_
  first | refine W.q (Ev.lensl (.t rfl) Try.underlying56) rfl ?_ | refine W.q (Ev.lenar (i := 0) (.t rfl) rfl Try.underlying56) rfl ?_ | refine W.q (Ev.lenar (i := 1) (.t rfl) rfl Try.underlying56) rfl ?_ | refine W.q (Ev.lenar (i := 2) (.t rfl) rfl Try.underlying56) rfl ?_ | refine W.q (Ev.lenar (i := 3) (.t rfl) rfl Try.underlying56) rfl ?_
  refine W.is (t := 16) (g := true) (av' := .int (((w.length + 1) : Nat) : Int)) rfl (congrArg AV.int (by rw [rowB_len])) ?_
  refine W.mk (.t rfl) (.t rfl) Try.underlying56 ty4 rfl rfl rfl rfl rfl (by omega) rfl ?_
  intro v17
  refine W.q (Ev.assign (.t rfl)) rfl ?_
  refine W.nil ?_
  refine W.then ?_
  refine W.seq ?_
  refine W.seq ?_
  refine W.region ?_
  first | refine W.q (Ev.fae (.t rfl) fa28_0 rfl) rfl ?_ | refine W.q (Ev.fab (.t rfl) fa28_0) rfl ?_ | refine W.q (Ev.faa (.t rfl) fa28_0) rfl ?_
  first | refine W.q (Ev.lde1 (.t rfl) ag3) rfl ?_ | refine W.q (Ev.ldb1 0 (.t rfl) rfl ag3 rfl) rfl ?_ | refine W.q (Ev.ldb1 1 (.t rfl) rfl ag3 rfl) rfl ?_ | refine W.q (Ev.ldb1 2 (.t rfl) rfl ag3 rfl) rfl ?_ | refine W.q (Ev.ldb1 3 (.t rfl) rfl ag3 rfl) rfl ?_
  refine W.nil ?_
  refine W.then ?_
  refine W.block ?_
  refine W.seq ?_
  refine W.region ?_
  refine W.q (Ev.eqi (.t rfl) .k) rfl ?_
  refine W.q (Ev.assign (.t rfl)) rfl ?_
  refine W.nil ?_
  refine W.then ?_
  refine W.is (t := 46) (g := true) (av' := .lit (.bool false)) rfl (congrArg (fun b => AV.lit (.bool b)) (by rw [hk]; rfl)) ?_
  refine W.condF (.t rfl) ?_
  refine W.seq ?_
  refine W.region ?_
  refine W.q (Ev.eqi (.t rfl) .k) rfl ?_
  refine W.q (Ev.assign (.t rfl)) rfl ?_
  refine W.nil ?_
  refine W.then ?_
  refine W.is (t := 70) (g := true) (av' := .lit (.bool false)) rfl (congrArg (fun b => AV.lit (.bool b)) (by rw [hk]; rfl)) ?_
  refine W.condF (.t rfl) ?_
  refine W.seq ?_
  refine W.region ?_
  refine W.q (Ev.eqi (.t rfl) .k) rfl ?_
  refine W.q (Ev.assign (.t rfl)) rfl ?_
  refine W.nil ?_
  refine W.then ?_
  refine W.is (t := 86) (g := true) (av' := .lit (.bool false)) rfl (congrArg (fun b => AV.lit (.bool b)) (by rw [hk]; rfl)) ?_
  refine W.condF (.t rfl) ?_
  refine W.seq ?_
  refine W.region ?_
  refine W.q (Ev.eqi (.t rfl) .k) rfl ?_
  refine W.q (Ev.assign (.t rfl)) rfl ?_
  refine W.nil ?_
  refine W.then ?_
  refine W.is (t := 102) (g := true) (av' := .lit (.bool false)) rfl (congrArg (fun b => AV.lit (.bool b)) (by rw [hk]; rfl)) ?_
  refine W.condF (.t rfl) ?_
  refine W.seq ?_
  refine W.region ?_
  refine W.q (Ev.move (.t rfl)) rfl ?_
  refine W.call (WMatch1.c_CloneB (rowB (w.length + 1) f) (okc_rowB _ _) (by rw [rowB_len]; omega)) ⟨(.t rfl), trivial⟩ (.refl _) rfl ?_
  rintro _ _ ⟨v21, rfl, rfl⟩
  refine W.q (Ev.assign (.t rfl)) rfl ?_
  refine W.nil ?_
  refine W.freezeA (M1 := [_, _]) (M2 := [_, _]) (D := []) (v := v21) (L' := [(7, true, .sl 1 (rowB (w.length + 1) f))]) (.refl _) ⟨⟨_, rfl, .one .hit⟩, trivial⟩ (FrzMs.refl _) ?_
  refine W.weaken (L' := [(7, true, .sl 1 (rowB (w.length + 1) f)), (1, true, .sl 1 (w.map AV.int)), (2, true, .sl 1 (rowB (w.length + 1) f)), (3, true, .lit (.pointer (some ⟨b3, 0, none⟩)))]) (M' := [.box b3 28 x.avx.cells]) (D := [_]) ⟨rfl, rfl, rfl, rfl, trivial⟩ (List.Perm.swap _ _ []) ?_
  refine W.then ?_
  refine W.seq ?_
  refine W.seq ?_
  refine W.region ?_
  first | refine W.q (Ev.fae (.t rfl) fa28_0 rfl) rfl ?_ | refine W.q (Ev.fab (.t rfl) fa28_0) rfl ?_ | refine W.q (Ev.faa (.t rfl) fa28_0) rfl ?_
  first | refine W.q (Ev.lde1 (.t rfl) ag3) rfl ?_ | refine W.q (Ev.ldb1 0 (.t rfl) rfl ag3 rfl) rfl ?_ | refine W.q (Ev.ldb1 1 (.t rfl) rfl ag3 rfl) rfl ?_ | refine W.q (Ev.ldb1 2 (.t rfl) rfl ag3 rfl) rfl ?_ | refine W.q (Ev.ldb1 3 (.t rfl) rfl ag3 rfl) rfl ?_
  refine W.q (Ev.eqi (.t rfl) .k) rfl ?_
  refine W.nil ?_
  refine W.then ?_
  refine W.is (t := 24) (g := true) (av' := .lit (.bool false)) rfl (congrArg (fun b => AV.lit (.bool b)) (by rw [hk]; rfl)) ?_
  refine W.condF (.t rfl) ?_
  refine W.skip ?_
  refine W.then ?_
  refine W.block ?_
  refine W.loop (D := []) (ι := Nat → Bool) (fun o => [(7, true, .sl 1 (rowB (w.length + 1) o)), (1, true, .sl 1 (w.map AV.int)), (3, true, .lit (.pointer (some ⟨b3, 0, none⟩)))]) (fun o => [.box b3 28 x.avx.cells]) (fun o => WayR (Ex.lg q) w f o) (fun o => outs (w.length + 1) o) f ⟨rfl, rfl, rfl, trivial⟩ (.refl _) WayR.start ?_
  intro o ho
  dsimp only at ho ⊢
  refine W.block ?_
  refine W.seq ?_
  refine W.region ?_
  refine W.q (Ev.move (.t rfl)) rfl ?_
  first | refine W.q (Ev.fae (.t rfl) fa28_2 rfl) rfl ?_ | refine W.q (Ev.fab (.t rfl) fa28_2) rfl ?_ | refine W.q (Ev.faa (.t rfl) fa28_2) rfl ?_
  first | refine W.q (Ev.lde1 (.t rfl) ag26) rfl ?_ | refine W.q (Ev.ldb1 0 (.t rfl) rfl ag26 rfl) rfl ?_ | refine W.q (Ev.ldb1 1 (.t rfl) rfl ag26 rfl) rfl ?_ | refine W.q (Ev.ldb1 2 (.t rfl) rfl ag26 rfl) rfl ?_ | refine W.q (Ev.ldb1 3 (.t rfl) rfl ag26 rfl) rfl ?_
  refine W.q (Ev.at (E := 28) (.t rfl) .k Try.underlying26 ty28 (fun _ => ⟨by decide, hgq⟩) rfl rfl) rfl ?_
  first | refine W.q (Ev.lden (.t rfl) ag28 ty28 rfl rfl) rfl ?_ | refine W.q (Ev.ldbn 0 (.t rfl) rfl ag28 ty28 rfl) rfl ?_ | refine W.q (Ev.ldbn 1 (.t rfl) rfl ag28 ty28 rfl) rfl ?_ | refine W.q (Ev.ldbn 2 (.t rfl) rfl ag28 ty28 rfl) rfl ?_ | refine W.q (Ev.ldbn 3 (.t rfl) rfl ag28 ty28 rfl) rfl ?_
  refine W.q (Ev.move (.t rfl)) rfl ?_
  refine W.q (Ev.move (.t rfl)) rfl ?_
  refine W.call (ih q hqm o) ⟨(.t rfl), (.t rfl), (.t rfl), trivial⟩ (.refl _) rfl ?_
  rintro _ _ ⟨rfl, g2, rfl, hg2⟩
  refine W.callp (WMatch1.c_either (w.length + 1) o g2 (by omega)) ⟨(.t rfl), (.t rfl), trivial⟩ rfl ?_
  refine W.q (Ev.assign (.t rfl)) rfl ?_
  refine W.nil ?_
  refine W.then ?_
  refine W.seq ?_
  refine W.seq ?_
  refine W.region ?_
  refine W.q (Ev.move (.t rfl)) rfl ?_
  refine W.q (Ev.move (.t rfl)) rfl ?_
  refine W.call (WMatch1.c_EqualB (w.length + 1) (fun j => o j || g2 j) o (by omega)) ⟨(.t rfl), (.t rfl), trivial⟩ (.refl _) rfl ?_
  rintro _ _ ⟨rfl, q43, rfl, hq43⟩
  refine W.nil ?_
  refine W.then ?_
  refine W.cond (.t rfl) (fun hc_t43 => ?_) (fun hc_t43 => ?_)
  · refine W.seq ?_
    refine W.region ?_
    refine W.q (Ev.move (.t rfl)) rfl ?_
    refine W.q (Ev.assign (.t rfl)) rfl ?_
    refine W.nil ?_
    refine W.then ?_
    refine W.ret ?_
    refine W.then_ret ?_
    refine W.blk_ret ?_
    refine W.then_ret ?_
    refine W.blk_ret ?_
    refine W.blk_ret ?_
    refine W.then_ret ?_
    refine W.retn (M' := []) (D := _) (rs := [.tmp 6]) (avs := [_]) Try.results24 ⟨rfl, trivial⟩ rfl (.refl _) ?_
    exact ⟨rfl, o, rfl, by rw [Ex.lg_eq, if_neg (by omega), if_neg (by omega), if_neg (by omega), if_pos hk, hal]; exact (ho.done hg2 fun j hj => hq43.1 hc_t43 j (by omega))⟩
  · refine W.skip ?_
    refine W.then ?_
    refine W.region ?_
    refine W.q (Ev.move (.t rfl)) rfl ?_
    refine W.q (Ev.assign (.t rfl)) rfl ?_
    refine W.nil ?_
    refine W.blk_normal ?_
    refine W.then ?_
    refine W.reach (D := []) (fun j => o j || g2 j) ⟨rfl, rfl, rfl, trivial⟩ (.refl _) ⟨ho.step hg2, outs_lt _ _ _ (fun j _ h => by simp [h]) (fun h => by have := hq43.2 h; rw [this] at hc_t43; cases hc_t43)⟩

theorem c_reach5 (x : Ex) (h1 : Ex.ok1 x) (hz : x.sz ≤ 16777216) (w : List Int) (hw : w.length ≤ 1048576) (ih : ∀ d ∈ x.parts, ∀ f : Nat → Bool, FnC Try.prog 24 [Ex.avx d, .sl 1 (w.map AV.int), .sl 1 (rowB (w.length + 1) f)] [] (fun r M => M = [] ∧ ∃ g : Nat → Bool, r = .sl 1 (rowB (w.length + 1) g) ∧ Rch (Ex.lg d) w f g)) (f : Nat → Bool) (hk : x.kind = 5) : FnC Try.prog 24 [Ex.avx x, .sl 1 (w.map AV.int), .sl 1 (rowB (w.length + 1) f)] [] (fun r M => M = [] ∧ ∃ g : Nat → Bool, r = .sl 1 (rowB (w.length + 1) g) ∧ Rch (Ex.lg x) w f g) :=  by
  refine FnC.mk Try.func24 (by kernel_rfl) rfl Try.ntmps24 rfl (fun w0 F => ?_)
  have hpl : (x.parts.map Ex.av).length = x.parts.length := List.length_map ..
  have hwl : (w.map AV.int).length = w.length := List.length_map ..
  obtain ⟨k0, k1, k2, k3, k4, k5, k6, k7⟩ := Ex.ok1_facts h1
  have hse := Ex.sz_eq x
  have hsl := Ex.szs_len x.parts
  obtain ⟨q, hq⟩ : ∃ q, x.parts = [q] := List.length_eq_one_iff.1 (k6 (by omega))
  have hgq : (x.parts.map Ex.av)[0]? = some q.avx := by rw [hq, ← Ex.av_eq]; rfl
  have hqm : q ∈ x.parts := by rw [hq]; exact List.mem_cons_self
  have hal : Ex.alts x.parts = Ex.lg q := by rw [hq, Ex.alts_one]
  refine W.seq ?_
  refine W.region ?_
  refine W.box (.t rfl) rfl rfl ?_
  intro b3
  refine W.q (Ev.assign .k) rfl ?_
  refine W.nil ?_
  refine W.then ?_
  refine W.seq ?_
  refine W.region ?_
  refine W.q (Ev.move (.t rfl)) rfl ?_
  first | refine W.q (Ev.lensl (.t rfl) Try.underlying56) rfl ?_ | refine W.q (Ev.lenar (i := 0) (.t rfl) rfl Try.underlying56) rfl ?_ | refine W.q (Ev.lenar (i := 1) (.t rfl) rfl Try.underlying56) rfl ?_ | refine W.q (Ev.lenar (i := 2) (.t rfl) rfl Try.underlying56) rfl ?_ | refine W.q (Ev.lenar (i := 3) (.t rfl) rfl Try.underlying56) rfl ?_
  refine W.is (t := 16) (g := true) (av' := .int (((w.length + 1) : Nat) : Int)) rfl (congrArg AV.int (by rw [rowB_len])) ?_
  refine W.mk (.t rfl) (.t rfl) Try.underlying56 ty4 rfl rfl rfl rfl rfl (by omega) rfl ?_
  intro v17
  refine W.q (Ev.assign (.t rfl)) rfl ?_
  refine W.nil ?_
  refine W.then ?_
  refine W.seq ?_
  refine W.seq ?_
  refine W.region ?_
  first | refine W.q (Ev.fae (.t rfl) fa28_0 rfl) rfl ?_ | refine W.q (Ev.fab (.t rfl) fa28_0) rfl ?_ | refine W.q (Ev.faa (.t rfl) fa28_0) rfl ?_
  first | refine W.q (Ev.lde1 (.t rfl) ag3) rfl ?_ | refine W.q (Ev.ldb1 0 (.t rfl) rfl ag3 rfl) rfl ?_ | refine W.q (Ev.ldb1 1 (.t rfl) rfl ag3 rfl) rfl ?_ | refine W.q (Ev.ldb1 2 (.t rfl) rfl ag3 rfl) rfl ?_ | refine W.q (Ev.ldb1 3 (.t rfl) rfl ag3 rfl) rfl ?_
  refine W.nil ?_
  refine W.then ?_
  refine W.block ?_
  refine W.seq ?_
  refine W.region ?_
  refine W.q (Ev.eqi (.t rfl) .k) rfl ?_
  refine W.q (Ev.assign (.t rfl)) rfl ?_
  refine W.nil ?_
  refine W.then ?_
  refine W.is (t := 46) (g := true) (av' := .lit (.bool false)) rfl (congrArg (fun b => AV.lit (.bool b)) (by rw [hk]; rfl)) ?_
  refine W.condF (.t rfl) ?_
  refine W.seq ?_
  refine W.region ?_
  refine W.q (Ev.eqi (.t rfl) .k) rfl ?_
  refine W.q (Ev.assign (.t rfl)) rfl ?_
  refine W.nil ?_
  refine W.then ?_
  refine W.is (t := 70) (g := true) (av' := .lit (.bool false)) rfl (congrArg (fun b => AV.lit (.bool b)) (by rw [hk]; rfl)) ?_
  refine W.condF (.t rfl) ?_
  refine W.seq ?_
  refine W.region ?_
  refine W.q (Ev.eqi (.t rfl) .k) rfl ?_
  refine W.q (Ev.assign (.t rfl)) rfl ?_
  refine W.nil ?_
  refine W.then ?_
  refine W.is (t := 86) (g := true) (av' := .lit (.bool false)) rfl (congrArg (fun b => AV.lit (.bool b)) (by rw [hk]; rfl)) ?_
  refine W.condF (.t rfl) ?_
  refine W.seq ?_
  refine W.region ?_
  refine W.q (Ev.eqi (.t rfl) .k) rfl ?_
  refine W.q (Ev.assign (.t rfl)) rfl ?_
  refine W.nil ?_
  refine W.then ?_
  refine W.is (t := 102) (g := true) (av' := .lit (.bool false)) rfl (congrArg (fun b => AV.lit (.bool b)) (by rw [hk]; rfl)) ?_
  refine W.condF (.t rfl) ?_
  refine W.seq ?_
  refine W.region ?_
  refine W.q (Ev.move (.t rfl)) rfl ?_
  refine W.call (WMatch1.c_CloneB (rowB (w.length + 1) f) (okc_rowB _ _) (by rw [rowB_len]; omega)) ⟨(.t rfl), trivial⟩ (.refl _) rfl ?_
  rintro _ _ ⟨v21, rfl, rfl⟩
  refine W.q (Ev.assign (.t rfl)) rfl ?_
  refine W.nil ?_
  refine W.freezeA (M1 := [_, _]) (M2 := [_, _]) (D := []) (v := v21) (L' := [(7, true, .sl 1 (rowB (w.length + 1) f))]) (.refl _) ⟨⟨_, rfl, .one .hit⟩, trivial⟩ (FrzMs.refl _) ?_
  refine W.weaken (L' := [(7, true, .sl 1 (rowB (w.length + 1) f)), (1, true, .sl 1 (w.map AV.int)), (2, true, .sl 1 (rowB (w.length + 1) f)), (3, true, .lit (.pointer (some ⟨b3, 0, none⟩)))]) (M' := [.box b3 28 x.avx.cells]) (D := [_]) ⟨rfl, rfl, rfl, rfl, trivial⟩ (List.Perm.swap _ _ []) ?_
  refine W.then ?_
  refine W.seq ?_
  refine W.seq ?_
  refine W.region ?_
  first | refine W.q (Ev.fae (.t rfl) fa28_0 rfl) rfl ?_ | refine W.q (Ev.fab (.t rfl) fa28_0) rfl ?_ | refine W.q (Ev.faa (.t rfl) fa28_0) rfl ?_
  first | refine W.q (Ev.lde1 (.t rfl) ag3) rfl ?_ | refine W.q (Ev.ldb1 0 (.t rfl) rfl ag3 rfl) rfl ?_ | refine W.q (Ev.ldb1 1 (.t rfl) rfl ag3 rfl) rfl ?_ | refine W.q (Ev.ldb1 2 (.t rfl) rfl ag3 rfl) rfl ?_ | refine W.q (Ev.ldb1 3 (.t rfl) rfl ag3 rfl) rfl ?_
  refine W.q (Ev.eqi (.t rfl) .k) rfl ?_
  refine W.nil ?_
  refine W.then ?_
  refine W.is (t := 24) (g := true) (av' := .lit (.bool true)) rfl (congrArg (fun b => AV.lit (.bool b)) (by rw [hk]; rfl)) ?_
  refine W.condT (.t rfl) ?_
  refine W.region ?_
  first | refine W.q (Ev.fae (.t rfl) fa28_2 rfl) rfl ?_ | refine W.q (Ev.fab (.t rfl) fa28_2) rfl ?_ | refine W.q (Ev.faa (.t rfl) fa28_2) rfl ?_
  first | refine W.q (Ev.lde1 (.t rfl) ag26) rfl ?_ | refine W.q (Ev.ldb1 0 (.t rfl) rfl ag26 rfl) rfl ?_ | refine W.q (Ev.ldb1 1 (.t rfl) rfl ag26 rfl) rfl ?_ | refine W.q (Ev.ldb1 2 (.t rfl) rfl ag26 rfl) rfl ?_ | refine W.q (Ev.ldb1 3 (.t rfl) rfl ag26 rfl) rfl ?_
  refine W.q (Ev.at (E := 28) (.t rfl) .k Try.underlying26 ty28 (fun _ => ⟨by decide, hgq⟩) rfl rfl) rfl ?_
  first | refine W.q (Ev.lden (.t rfl) ag28 ty28 rfl rfl) rfl ?_ | refine W.q (Ev.ldbn 0 (.t rfl) rfl ag28 ty28 rfl) rfl ?_ | refine W.q (Ev.ldbn 1 (.t rfl) rfl ag28 ty28 rfl) rfl ?_ | refine W.q (Ev.ldbn 2 (.t rfl) rfl ag28 ty28 rfl) rfl ?_ | refine W.q (Ev.ldbn 3 (.t rfl) rfl ag28 ty28 rfl) rfl ?_
  refine W.q (Ev.move (.t rfl)) rfl ?_
  refine W.q (Ev.move (.t rfl)) rfl ?_
  refine W.call (ih q hqm f) ⟨(.t rfl), (.t rfl), (.t rfl), trivial⟩ (.refl _) rfl ?_
  rintro _ _ ⟨rfl, g0, rfl, hg0⟩
  refine W.q (Ev.assign (.t rfl)) rfl ?_
  refine W.nil ?_
  refine W.then ?_
  refine W.block ?_
  refine W.loop (D := []) (ι := Nat → Bool) (fun o => [(7, true, .sl 1 (rowB (w.length + 1) o)), (1, true, .sl 1 (w.map AV.int)), (3, true, .lit (.pointer (some ⟨b3, 0, none⟩)))]) (fun o => [.box b3 28 x.avx.cells]) (fun o => WayR (Ex.lg q) w g0 o) (fun o => outs (w.length + 1) o) g0 ⟨rfl, rfl, rfl, trivial⟩ (.refl _) WayR.start ?_
  intro o ho
  dsimp only at ho ⊢
  refine W.block ?_
  refine W.seq ?_
  refine W.region ?_
  refine W.q (Ev.move (.t rfl)) rfl ?_
  first | refine W.q (Ev.fae (.t rfl) fa28_2 rfl) rfl ?_ | refine W.q (Ev.fab (.t rfl) fa28_2) rfl ?_ | refine W.q (Ev.faa (.t rfl) fa28_2) rfl ?_
  first | refine W.q (Ev.lde1 (.t rfl) ag26) rfl ?_ | refine W.q (Ev.ldb1 0 (.t rfl) rfl ag26 rfl) rfl ?_ | refine W.q (Ev.ldb1 1 (.t rfl) rfl ag26 rfl) rfl ?_ | refine W.q (Ev.ldb1 2 (.t rfl) rfl ag26 rfl) rfl ?_ | refine W.q (Ev.ldb1 3 (.t rfl) rfl ag26 rfl) rfl ?_
  refine W.q (Ev.at (E := 28) (.t rfl) .k Try.underlying26 ty28 (fun _ => ⟨by decide, hgq⟩) rfl rfl) rfl ?_
  first | refine W.q (Ev.lden (.t rfl) ag28 ty28 rfl rfl) rfl ?_ | refine W.q (Ev.ldbn 0 (.t rfl) rfl ag28 ty28 rfl) rfl ?_ | refine W.q (Ev.ldbn 1 (.t rfl) rfl ag28 ty28 rfl) rfl ?_ | refine W.q (Ev.ldbn 2 (.t rfl) rfl ag28 ty28 rfl) rfl ?_ | refine W.q (Ev.ldbn 3 (.t rfl) rfl ag28 ty28 rfl) rfl ?_
  refine W.q (Ev.move (.t rfl)) rfl ?_
  refine W.q (Ev.move (.t rfl)) rfl ?_
  refine W.call (ih q hqm o) ⟨(.t rfl), (.t rfl), (.t rfl), trivial⟩ (.refl _) rfl ?_
  rintro _ _ ⟨rfl, g2, rfl, hg2⟩
  refine W.callp (WMatch1.c_either (w.length + 1) o g2 (by omega)) ⟨(.t rfl), (.t rfl), trivial⟩ rfl ?_
  refine W.q (Ev.assign (.t rfl)) rfl ?_
  refine W.nil ?_
  refine W.then ?_
  refine W.seq ?_
  refine W.seq ?_
  refine W.region ?_
  refine W.q (Ev.move (.t rfl)) rfl ?_
  refine W.q (Ev.move (.t rfl)) rfl ?_
  refine W.call (WMatch1.c_EqualB (w.length + 1) (fun j => o j || g2 j) o (by omega)) ⟨(.t rfl), (.t rfl), trivial⟩ (.refl _) rfl ?_
  rintro _ _ ⟨rfl, q43, rfl, hq43⟩
  refine W.nil ?_
  refine W.then ?_
  refine W.cond (.t rfl) (fun hc_t43 => ?_) (fun hc_t43 => ?_)
  · refine W.seq ?_
    refine W.region ?_
    refine W.q (Ev.move (.t rfl)) rfl ?_
    refine W.q (Ev.assign (.t rfl)) rfl ?_
    refine W.nil ?_
    refine W.then ?_
    refine W.ret ?_
    refine W.then_ret ?_
    refine W.blk_ret ?_
    refine W.then_ret ?_
    refine W.blk_ret ?_
    refine W.blk_ret ?_
    refine W.then_ret ?_
    refine W.retn (M' := []) (D := _) (rs := [.tmp 6]) (avs := [_]) Try.results24 ⟨rfl, trivial⟩ rfl (.refl _) ?_
    exact ⟨rfl, o, rfl, by rw [Ex.lg_eq, if_neg (by omega), if_neg (by omega), if_neg (by omega), if_neg (by omega), if_pos hk, hal]; exact hg0.cat (ho.done hg2 fun j hj => hq43.1 hc_t43 j (by omega))⟩
  · refine W.skip ?_
    refine W.then ?_
    refine W.region ?_
    refine W.q (Ev.move (.t rfl)) rfl ?_
    refine W.q (Ev.assign (.t rfl)) rfl ?_
    refine W.nil ?_
    refine W.blk_normal ?_
    refine W.then ?_
    refine W.reach (D := []) (fun j => o j || g2 j) ⟨rfl, rfl, rfl, trivial⟩ (.refl _) ⟨ho.step hg2, outs_lt _ _ _ (fun j _ h => by simp [h]) (fun h => by have := hq43.2 h; rw [this] at hc_t43; cases hc_t43)⟩

theorem c_reach (w : List Int) (hw : w.length ≤ 1048576) : ∀ x : Ex, Ex.ok x → x.sz ≤ 16777216 → ∀ f : Nat → Bool, FnC Try.prog 24 [Ex.avx x, .sl 1 (w.map AV.int), .sl 1 (rowB (w.length + 1) f)] [] (fun r M => M = [] ∧ ∃ g : Nat → Bool, r = .sl 1 (rowB (w.length + 1) g) ∧ Rch (Ex.lg x) w f g) := by
  refine Ex.rec' fun x ih hx hz f => ?_
  obtain ⟨h1, h2⟩ := (Ex.ok_iff x).1 hx
  have ih' : ∀ d ∈ x.parts, ∀ f : Nat → Bool, FnC Try.prog 24 [Ex.avx d, .sl 1 (w.map AV.int), .sl 1 (rowB (w.length + 1) f)] [] (fun r M => M = [] ∧ ∃ g : Nat → Bool, r = .sl 1 (rowB (w.length + 1) g) ∧ Rch (Ex.lg d) w f g) := fun d hd f => ih d hd (h2 d hd) (by have := Ex.part_sz hd; omega) f
  obtain ⟨hk1, hk6⟩ := Ex.ok_kind hx
  rcases (show x.kind = 1 ∨ x.kind = 2 ∨ x.kind = 3 ∨ x.kind = 4 ∨ x.kind = 5 ∨ x.kind = 6 from by omega) with h | h | h | h | h | h
  · exact c_reach1 x h1 hz w hw ih' f h
  · exact c_reach2 x h1 hz w hw ih' f h
  · exact c_reach3 x h1 hz w hw ih' f h
  · exact c_reach4 x h1 hz w hw ih' f h
  · exact c_reach5 x h1 hz w hw ih' f h
  · exact c_reach6 x h1 hz w hw ih' f h

end WReach

end Go.Proofs.Ythhkionhimbekaa
