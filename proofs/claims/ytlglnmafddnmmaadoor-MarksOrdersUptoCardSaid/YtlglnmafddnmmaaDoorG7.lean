/-
  Merged: WMDraw ShelfB Low LawA.
-/
import Derived.Test.YtlglnmafddnmmaaDoorG6
import Derived.Below
import Derived.Lib.Join
import Derived.Lib.LaidTab
import Derived.Lib.Space

section
set_option linter.unusedVariables false
set_option linter.unusedSimpArgs false
set_option maxRecDepth 100000
namespace Go.Proofs.YtlglnmafddnmmaaDoor
open Go.Vl

namespace WMDraw
theorem ty3 : Ty Tryd.prog 3 1 8 (.int .i64 0) := Ty.of (by kernel_rfl)
theorem ty9 : Ty Tryd.prog 9 1 16 (.string ⟨#[]⟩) := Ty.of (by kernel_rfl)
theorem ty23 : Ty Tryd.prog 23 1 24 (.slice none 0 0) := Ty.of (by kernel_rfl)
theorem ty49 : Ty Tryd.prog 49 2 40 (.agg #[.string ⟨#[]⟩, .slice none 0 0]) := Ty.of (by kernel_rfl)
theorem ag3 : IsAgg Tryd.prog 3 false := ⟨_, Tryd.underlying3, rfl⟩
theorem ag9 : IsAgg Tryd.prog 9 false := ⟨_, Tryd.underlying9, rfl⟩
theorem ag23 : IsAgg Tryd.prog 23 false := ⟨_, Tryd.underlying23, rfl⟩
theorem ag49 : IsAgg Tryd.prog 49 true := ⟨_, Tryd.underlying49, rfl⟩
theorem fa49_0 : FieldAt Tryd.prog 49 0 0 1 false := ⟨_, _, Tryd.underlying49, rfl, rfl, ty9.size, ag9, by decide⟩
theorem fa49_1 : FieldAt Tryd.prog 49 1 1 1 false := ⟨_, _, Tryd.underlying49, rfl, rfl, ty23.size, ag23, by decide⟩
theorem st49 : StructAt Tryd.prog 49 [(0, 1), (1, 1)] := ⟨_, Tryd.underlying49, rfl, ty9.size, rfl, ty23.size, trivial⟩
theorem ni23 : NotInt Tryd.prog 23 := .inl ⟨_, Tryd.underlying23⟩
theorem ni29 : NotInt Tryd.prog 29 := .inl ⟨_, Tryd.underlying29⟩
theorem c_Runs (l : List Int) (hl : l.length ≤ 1048576) (n : Nat) (hn : n ≤ 1000) : FnC Tryd.prog 12 [.sl 1 (l.map AV.int), .int (n : Int)] [] (fun r M => M = [] ∧ ∃ rs : List Rn, r = .sl 2 (rs.map rnav) ∧ rs.length ≤ n ∧ ∀ x ∈ rs, Mrk.drR x) :=  by
  refine FnC.mk Tryd.func12 (by kernel_rfl) rfl Tryd.ntmps12 rfl (fun w0 F => ?_)
  have hll : (l.map AV.int).length = l.length := List.length_map ..
  refine W.seq ?_
  refine W.region ?_
  refine W.q (Ev.assign .k) rfl ?_
  refine W.nil ?_
  refine W.then ?_
  refine W.seq ?_
  refine W.region ?_
  refine W.q (Ev.assign .k) rfl ?_
  refine W.nil ?_
  refine W.then ?_
  refine W.seq ?_
  refine W.seq ?_
  refine W.region ?_
  refine W.q (Ev.assign .k) rfl ?_
  refine W.nil ?_
  refine W.then ?_
  refine W.block ?_
  refine W.own_nil 49 2 ?_
  refine W.loop (D := []) (ι := Nat × List Rn × Value) (fun z => [(6, true, .int (z.1 : Int)), (0, true, .sl 1 (l.map AV.int)), (1, true, .int (n : Int)), (5, true, .lit z.2.2)]) (fun z => [.arr z.2.2 49 2 (z.2.1.map rnav)]) (fun z => z.1 ≤ l.length ∧ z.1 ≤ n ∧ z.2.1.length ≤ z.1 ∧ ∀ x ∈ z.2.1, Mrk.drR x) (fun z => l.length - z.1) (0, [], .slice none 0 0) ⟨rfl, rfl, rfl, rfl, trivial⟩ (.refl _) ⟨Nat.zero_le _, Nat.zero_le _, Nat.le_refl _, fun x hx => by cases hx⟩ ?_
  rintro ⟨i, out, v5⟩ ⟨hi1, hi2, hi3, hi4⟩
  dsimp only at hi1 hi2 hi3 hi4 ⊢
  rcases (show (i < l.length ∧ i < n) ∨ ¬ (i < l.length ∧ i < n) from by omega) with hlt | hge
  · have hga := getD_map l i hlt.1
    generalize hz : l.getD i 0 = z at hga
    obtain ⟨s, hs, h27⟩ := pick_mod [[], [120], [121, 122], [32]] z 4 rfl (by decide)
    have hsl : s.length ≤ 2 := by simp at hs; rcases hs with rfl | rfl | rfl | rfl <;> decide
    have hq1 := Int.emod_nonneg (IntKind.i64.wrap (z.tdiv 4)) (by decide : (4 : Int) ≠ 0)
    have hq2 := Int.emod_lt_of_pos (IntKind.i64.wrap (z.tdiv 4)) (by decide : (0 : Int) < 4)
    refine W.seq ?_
    refine W.seq ?_
    refine W.region ?_
    refine W.q (Ev.move (.t rfl)) rfl ?_
    refine W.q (Ev.move (.t rfl)) rfl ?_
    first | refine W.q (Ev.lensl (.t rfl) Tryd.underlying22) rfl ?_ | refine W.q (Ev.lenar (i := 0) (.t rfl) rfl Tryd.underlying22) rfl ?_ | refine W.q (Ev.lenar (i := 1) (.t rfl) rfl Tryd.underlying22) rfl ?_ | refine W.q (Ev.lenar (i := 2) (.t rfl) rfl Tryd.underlying22) rfl ?_ | refine W.q (Ev.lenar (i := 3) (.t rfl) rfl Tryd.underlying22) rfl ?_
    refine W.q (Ev.lti (.t rfl) (.t rfl)) rfl ?_
    refine W.q (Ev.move (.t rfl)) rfl ?_
    refine W.qgT rfl rfl (Ev.move (.t rfl)) rfl ?_
    refine W.qgT rfl rfl (Ev.move (.t rfl)) rfl ?_
    refine W.qgT rfl rfl (Ev.lti (.c rfl) (.c rfl)) rfl ?_
    refine W.q (Ev.and (.t rfl) ⟨_, _, rfl, rfl, by first | (simp; done) | (intro hg_ hp_; simp [hp_]; done) | (simp <;> omega; done) | (simp_all; done) | grind⟩) rfl ?_
    refine W.nil ?_
    refine W.then ?_
    refine W.is (t := 17) (g := true) (av' := .lit (.bool true)) rfl (congrArg (fun b => AV.lit (.bool b)) (by simp; omega)) ?_
    refine W.condT (.t rfl) ?_
    refine W.skip ?_
    refine W.then ?_
    refine W.seq ?_
    refine W.block ?_
    refine W.seq ?_
    refine W.region ?_
    refine W.bs (es := [_, _, _, _]) Tryd.underlying23 ty9 ⟨rfl, .k, rfl, rfl, rfl, .k, rfl, rfl, rfl, .k, rfl, rfl, rfl, .k, rfl, rfl, trivial⟩ rfl (by decide) rfl rfl ?_
    refine W.q (Ev.move (.t rfl)) rfl ?_
    refine W.q (Ev.move (.t rfl)) rfl ?_
    refine W.q (Ev.at (E := 3) (.t rfl) (.t rfl) Tryd.underlying22 ty3 (fun _ => ⟨by omega, hga⟩) rfl rfl) rfl ?_
    first | refine W.q (Ev.lde1 (.t rfl) ag3) rfl ?_ | refine W.q (Ev.ldb1 0 (.t rfl) rfl ag3 rfl) rfl ?_ | refine W.q (Ev.ldb1 1 (.t rfl) rfl ag3 rfl) rfl ?_ | refine W.q (Ev.ldb1 2 (.t rfl) rfl ag3 rfl) rfl ?_ | refine W.q (Ev.ldb1 3 (.t rfl) rfl ag3 rfl) rfl ?_
    refine W.callp (Base.c_Picked z 4 (by decide) (by decide)) ⟨(.t rfl), .k, trivial⟩ rfl ?_
    refine W.q (Ev.at (E := 9) (e := AV.str s) (.t rfl) (.t rfl) Tryd.underlying23 ty9 (fun _ => ⟨Int.emod_nonneg _ (by decide), h27⟩) rfl rfl) rfl ?_
    first | refine W.q (Ev.lde1 (.t rfl) ag9) rfl ?_ | refine W.q (Ev.ldb1 0 (.t rfl) rfl ag9 rfl) rfl ?_ | refine W.q (Ev.ldb1 1 (.t rfl) rfl ag9 rfl) rfl ?_ | refine W.q (Ev.ldb1 2 (.t rfl) rfl ag9 rfl) rfl ?_ | refine W.q (Ev.ldb1 3 (.t rfl) rfl ag9 rfl) rfl ?_
    refine W.q (Ev.build ty49 st49 rfl (fun hg => ⟨_, _, _, rfl, (.t rfl), rfl, rfl, rfl, rfl⟩)) rfl ?_
    refine W.alloc ty49 rfl rfl ?_
    intro b7
    first | refine W.stb 0 (.t rfl) (.t rfl) rfl ty49 rfl rfl rfl ?_ | refine W.stb 1 (.t rfl) (.t rfl) rfl ty49 rfl rfl rfl ?_ | refine W.stb 2 (.t rfl) (.t rfl) rfl ty49 rfl rfl rfl ?_ | refine W.stb 3 (.t rfl) (.t rfl) rfl ty49 rfl rfl rfl ?_
    refine W.nil ?_
    refine W.then ?_
    refine W.seq ?_
    refine W.seq ?_
    refine W.region ?_
    refine W.q (Ev.assign .k) rfl ?_
    refine W.nil ?_
    refine W.then ?_
    refine W.block ?_
    refine W.own_nil 9 1 ?_
    refine W.loop (D := []) (ι := Nat × List (List UInt8) × Value) (fun z => [(8, true, .int (z.1 : Int)), (7, true, .lit (.pointer (some ⟨b7, 0, none⟩))), (6, true, .int (i : Int)), (0, true, .sl 1 (l.map AV.int)), (1, true, .int (n : Int)), (5, true, .lit v5)]) (fun z => [.arr z.2.2 9 1 (z.2.1.map AV.str), .box b7 49 [.str s, .lit z.2.2], .arr v5 49 2 (out.map rnav)]) (fun y => (y.1 : Int) ≤ (IntKind.i64.wrap (z.tdiv 4) % 4) ∧ y.2.1.length = y.1 ∧ ∀ m ∈ y.2.1, m ∈ Mrk.three) (fun z => 4 - z.1) (0, [], .slice none 0 0) ⟨rfl, rfl, rfl, rfl, rfl, rfl, trivial⟩ (.refl _) ⟨hq1, rfl, fun x hx => by cases hx⟩ ?_
    rintro ⟨k, mk, vm⟩ ⟨hk1, hk2, hk3⟩
    dsimp only at hk1 hk2 hk3 ⊢
    rcases (show ((k : Int) < (IntKind.i64.wrap (z.tdiv 4) % 4)) ∨ ¬ ((k : Int) < (IntKind.i64.wrap (z.tdiv 4) % 4)) from by omega) with hltk | hgek
    · obtain ⟨m, hm, h51⟩ := pick_mod Mrk.three (IntKind.i64.wrap (z.tdiv (16 + (k : Int)))) 3 rfl (by decide)
      refine W.seq ?_
      refine W.seq ?_
      refine W.region ?_
      refine W.q (Ev.move (.t rfl)) rfl ?_
      refine W.q (Ev.move (.t rfl)) rfl ?_
      refine W.q (Ev.move (.t rfl)) rfl ?_
      refine W.q (Ev.at (E := 3) (.t rfl) (.t rfl) Tryd.underlying22 ty3 (fun _ => ⟨by omega, hga⟩) rfl rfl) rfl ?_
      first | refine W.q (Ev.lde1 (.t rfl) ag3) rfl ?_ | refine W.q (Ev.ldb1 0 (.t rfl) rfl ag3 rfl) rfl ?_ | refine W.q (Ev.ldb1 1 (.t rfl) rfl ag3 rfl) rfl ?_ | refine W.q (Ev.ldb1 2 (.t rfl) rfl ag3 rfl) rfl ?_ | refine W.q (Ev.ldb1 3 (.t rfl) rfl ag3 rfl) rfl ?_
      first | refine W.q (Ev.quo (.t rfl) .k (fun _ => by decide)) rfl ?_ | refine W.q (Ev.quo (.t rfl) .k (fun _ => by omega)) rfl ?_
      refine W.callp (Base.c_Picked (IntKind.i64.wrap (z.tdiv 4)) 4 (by decide) (by decide)) ⟨(.t rfl), .k, trivial⟩ rfl ?_
      refine W.q (Ev.lti (.t rfl) (.t rfl)) rfl ?_
      refine W.nil ?_
      refine W.then ?_
      refine W.is (t := 36) (g := true) (av' := .lit (.bool true)) rfl (congrArg (fun b => AV.lit (.bool b)) (by exact decide_eq_true hltk)) ?_
      refine W.condT (.t rfl) ?_
      refine W.skip ?_
      refine W.then ?_
      refine W.seq ?_
      refine W.block ?_
      refine W.drawnE (ι := Option Addr × Nat × Nat) (fun ee c => [bif ee 14 then ME.arr (.slice c.1 c.2.1 c.2.2) 9 1 (mk.map AV.str ++ [.str m]) else ME.arr vm 9 1 (mk.map AV.str), bif ee 16 then ME.box b7 49 [.str s, .lit (.slice c.1 c.2.1 c.2.2)] else ME.box b7 49 [.str s, .lit vm], .arr v5 49 2 (out.map rnav)]) 14 (none, 0, 0) (by kernel_rfl) (by kernel_rfl) rfl ?_
      first | refine DE.q (fun e c hk => (Ev.fae (.t rfl) fa49_1 rfl)) rfl (fun _ _ => rfl) (by first | exact .inr (fun _ _ => rfl) | exact .inl (by kernel_rfl)) ?_ | refine DE.q (fun e c hk => (Ev.fab (.t rfl) fa49_1)) rfl (fun _ _ => rfl) (by first | exact .inr (fun _ _ => rfl) | exact .inl (by kernel_rfl)) ?_ | refine DE.q (fun e c hk => (Ev.faa (.t rfl) fa49_1)) rfl (fun _ _ => rfl) (by first | exact .inr (fun _ _ => rfl) | exact .inl (by kernel_rfl)) ?_
      refine DE.q (av := fun _ => .lit vm) (fun e c hk => by have h := hk.down 16 (by kernel_rfl); simp only [h, cond_false]; exact Ev.ldb1 1 (.t rfl) rfl ag23 rfl) rfl (fun _ _ => rfl) (by first | exact .inr (fun _ _ => rfl) | exact .inl (by kernel_rfl)) ?_
      refine DE.bs (es := fun _ => [_, _, _]) Tryd.underlying23 ty9 (fun c => ⟨rfl, .k, rfl, rfl, rfl, .k, rfl, rfl, rfl, .k, rfl, rfl, trivial⟩) (fun _ => rfl) (by decide) rfl rfl (fun _ _ => rfl) (by first | exact .inr (fun _ _ => rfl) | exact .inl (by kernel_rfl)) ?_
      refine DE.q (fun e c hk => (Ev.move (.t rfl))) rfl (fun _ _ => rfl) (by first | exact .inr (fun _ _ => rfl) | exact .inl (by kernel_rfl)) ?_
      refine DE.q (fun e c hk => (Ev.move (.t rfl))) rfl (fun _ _ => rfl) (by first | exact .inr (fun _ _ => rfl) | exact .inl (by kernel_rfl)) ?_
      refine DE.q (fun e c hk => Ev.at (E := 3)  (.t rfl) (.t rfl) Tryd.underlying22 ty3 (fun _ => ⟨by omega, hga⟩) rfl rfl) rfl (fun _ _ => rfl) (by first | exact .inr (fun _ _ => rfl) | exact .inl (by kernel_rfl)) ?_
      first | refine DE.q (fun e c hk => (Ev.lde1 (.t rfl) ag3)) rfl (fun _ _ => rfl) (by first | exact .inr (fun _ _ => rfl) | exact .inl (by kernel_rfl)) ?_ | refine DE.q (fun e c hk => (Ev.ldb1 0 (.t rfl) rfl ag3 rfl)) rfl (fun _ _ => rfl) (by first | exact .inr (fun _ _ => rfl) | exact .inl (by kernel_rfl)) ?_ | refine DE.q (fun e c hk => (Ev.ldb1 1 (.t rfl) rfl ag3 rfl)) rfl (fun _ _ => rfl) (by first | exact .inr (fun _ _ => rfl) | exact .inl (by kernel_rfl)) ?_ | refine DE.q (fun e c hk => (Ev.ldb1 2 (.t rfl) rfl ag3 rfl)) rfl (fun _ _ => rfl) (by first | exact .inr (fun _ _ => rfl) | exact .inl (by kernel_rfl)) ?_ | refine DE.q (fun e c hk => (Ev.ldb1 3 (.t rfl) rfl ag3 rfl)) rfl (fun _ _ => rfl) (by first | exact .inr (fun _ _ => rfl) | exact .inl (by kernel_rfl)) ?_
      refine DE.q (fun e c hk => (Ev.move (.t rfl))) rfl (fun _ _ => rfl) (by first | exact .inr (fun _ _ => rfl) | exact .inl (by kernel_rfl)) ?_
      first | refine DE.q (fun e c hk => (Ev.add .k (.t rfl) (fun _ => by omega))) rfl (fun _ _ => rfl) (by first | exact .inr (fun _ _ => rfl) | exact .inl (by kernel_rfl)) ?_ | refine DE.q (fun e c hk => (Ev.addw .k (.t rfl))) rfl (fun _ _ => rfl) (by first | exact .inr (fun _ _ => rfl) | exact .inl (by kernel_rfl)) ?_
      first | refine DE.q (fun e c hk => (Ev.quo (.t rfl) (.t rfl) (fun _ => by decide))) rfl (fun _ _ => rfl) (by first | exact .inr (fun _ _ => rfl) | exact .inl (by kernel_rfl)) ?_ | refine DE.q (fun e c hk => (Ev.quo (.t rfl) (.t rfl) (fun _ => by omega))) rfl (fun _ _ => rfl) (by first | exact .inr (fun _ _ => rfl) | exact .inl (by kernel_rfl)) ?_
      refine DE.callp (fun c => Base.c_Picked (IntKind.i64.wrap (z.tdiv (16 + (k : Int)))) 3 (by decide) (by decide)) (fun c => ⟨(.t rfl), .k, trivial⟩) rfl (fun _ _ => rfl) (by first | exact .inr (fun _ _ => rfl) | exact .inl (by kernel_rfl)) ?_
      refine DE.q (fun e c hk => Ev.at (E := 9) (e := AV.str m) (.t rfl) (.t rfl) Tryd.underlying23 ty9 (fun _ => ⟨Int.emod_nonneg _ (by decide), h51⟩) rfl rfl) rfl (fun _ _ => rfl) (by first | exact .inr (fun _ _ => rfl) | exact .inl (by kernel_rfl)) ?_
      first | refine DE.q (fun e c hk => (Ev.lde1 (.t rfl) ag9)) rfl (fun _ _ => rfl) (by first | exact .inr (fun _ _ => rfl) | exact .inl (by kernel_rfl)) ?_ | refine DE.q (fun e c hk => (Ev.ldb1 0 (.t rfl) rfl ag9 rfl)) rfl (fun _ _ => rfl) (by first | exact .inr (fun _ _ => rfl) | exact .inl (by kernel_rfl)) ?_ | refine DE.q (fun e c hk => (Ev.ldb1 1 (.t rfl) rfl ag9 rfl)) rfl (fun _ _ => rfl) (by first | exact .inr (fun _ _ => rfl) | exact .inl (by kernel_rfl)) ?_ | refine DE.q (fun e c hk => (Ev.ldb1 2 (.t rfl) rfl ag9 rfl)) rfl (fun _ _ => rfl) (by first | exact .inr (fun _ _ => rfl) | exact .inl (by kernel_rfl)) ?_ | refine DE.q (fun e c hk => (Ev.ldb1 3 (.t rfl) rfl ag9 rfl)) rfl (fun _ _ => rfl) (by first | exact .inr (fun _ _ => rfl) | exact .inl (by kernel_rfl)) ?_
      refine DE.bs (es := fun _ => [_]) Tryd.underlying23 ty9 (fun c => ⟨rfl, (.t rfl), rfl, rfl, trivial⟩) (fun _ => rfl) (by decide) rfl rfl (fun _ _ => rfl) (by first | exact .inr (fun _ _ => rfl) | exact .inl (by kernel_rfl)) ?_
      refine DE.eff1 (av := fun c => .lit (.slice c.1 c.2.1 c.2.2)) rfl rfl (fun e c hk L_ hs Q h => ?_) ?_
      · have hk_14 := hk.not
        have hk_16 := hk.down 16 (by kernel_rfl)
        simp only [addE, hk_14, hk_16, Nat.reduceAdd, Nat.reduceEqDiff, ↓reduceIte, cond_true, cond_false] at h ⊢
        refine W.app 0 (.t (hs _ _ rfl)) rfl (.sl (.t (hs _ _ rfl)) (by intro e he; rw [List.mem_singleton.1 he]; rfl)) Tryd.underlying23 ni23 ty9 rfl rfl (by simp only [List.length_map, List.length_cons, List.length_nil]; omega) rfl ?_
        intro v53
        refine W.arr_inv 0 rfl (fun a n c hv => ?_)
        subst hv
        exact h (a, n, c)
      first | refine DE.q (fun e c hk => (Ev.fae (.t rfl) fa49_1 rfl)) rfl (fun _ _ => rfl) (by first | exact .inr (fun _ _ => rfl) | exact .inl (by kernel_rfl)) ?_ | refine DE.q (fun e c hk => (Ev.fab (.t rfl) fa49_1)) rfl (fun _ _ => rfl) (by first | exact .inr (fun _ _ => rfl) | exact .inl (by kernel_rfl)) ?_ | refine DE.q (fun e c hk => (Ev.faa (.t rfl) fa49_1)) rfl (fun _ _ => rfl) (by first | exact .inr (fun _ _ => rfl) | exact .inl (by kernel_rfl)) ?_
      refine DE.eff0 (fun e c hk L_ hs Q h => ?_) ?_
      · have hk_16 := hk.not
        have hk_14 := hk.up 14 (by kernel_rfl)
        simp only [addE, hk_16, hk_14, Nat.reduceAdd, Nat.reduceEqDiff, ↓reduceIte, cond_true, cond_false] at h ⊢
        refine W.stb 1 (.t (hs _ _ rfl)) (.t (hs _ _ rfl)) rfl ty23 rfl rfl rfl ?_
        exact h
      refine DE.nil (fun cc e_ he_ => ?_)
      simp only [he_ 14 (by decide), he_ 16 (by decide), cond_true, cond_false]
      refine W.blk_normal ?_
      refine W.then ?_
      refine W.region ?_
      refine W.q (Ev.move (.t rfl)) rfl ?_
      first | refine W.q (Ev.add (.t rfl) .k (fun _ => by omega)) rfl ?_ | refine W.q (Ev.addw (.t rfl) .k) rfl ?_
      refine W.q (Ev.assign (.t rfl)) rfl ?_
      refine W.nil ?_
      refine W.then ?_
      refine W.reach (D := []) (k + 1, mk ++ [m], .slice cc.1 cc.2.1 cc.2.2) ⟨rfl, rfl, rfl, rfl, rfl, rfl, trivial⟩ (by rw [List.map_append]; exact .refl _) ⟨⟨by omega, ?_, ?_⟩, by show 4 - (k + 1) < 4 - k; omega⟩
      · show (mk ++ [_]).length = k + 1; rw [List.length_append, List.length_singleton]; omega
      · intro x hx
        rcases List.mem_append.1 hx with hx | hx
        · exact hk3 x hx
        · rw [List.mem_singleton.1 hx]; exact hm
    · refine W.freezeA (M1 := [.box b7 49 [.str s, .lit vm], .arr v5 49 2 (out.map rnav)]) (M2 := [.box b7 49 [.str s, .sl 1 (mk.map AV.str)], .arr v5 49 2 (out.map rnav)]) (D := []) (v := vm) (L' := []) (.refl _) trivial ⟨.box ⟨.refl _, .hit, trivial⟩, .refl _, trivial⟩ ?_
      refine W.seq ?_
      refine W.seq ?_
      refine W.region ?_
      refine W.q (Ev.move (.t rfl)) rfl ?_
      refine W.q (Ev.move (.t rfl)) rfl ?_
      refine W.q (Ev.move (.t rfl)) rfl ?_
      refine W.q (Ev.at (E := 3) (.t rfl) (.t rfl) Tryd.underlying22 ty3 (fun _ => ⟨by omega, hga⟩) rfl rfl) rfl ?_
      first | refine W.q (Ev.lde1 (.t rfl) ag3) rfl ?_ | refine W.q (Ev.ldb1 0 (.t rfl) rfl ag3 rfl) rfl ?_ | refine W.q (Ev.ldb1 1 (.t rfl) rfl ag3 rfl) rfl ?_ | refine W.q (Ev.ldb1 2 (.t rfl) rfl ag3 rfl) rfl ?_ | refine W.q (Ev.ldb1 3 (.t rfl) rfl ag3 rfl) rfl ?_
      first | refine W.q (Ev.quo (.t rfl) .k (fun _ => by decide)) rfl ?_ | refine W.q (Ev.quo (.t rfl) .k (fun _ => by omega)) rfl ?_
      refine W.callp (Base.c_Picked (IntKind.i64.wrap (z.tdiv 4)) 4 (by decide) (by decide)) ⟨(.t rfl), .k, trivial⟩ rfl ?_
      refine W.q (Ev.lti (.t rfl) (.t rfl)) rfl ?_
      refine W.nil ?_
      refine W.then ?_
      refine W.is (t := 36) (g := true) (av' := .lit (.bool false)) rfl (congrArg (fun b => AV.lit (.bool b)) (by exact decide_eq_false hgek)) ?_
      refine W.condF (.t rfl) ?_
      refine W.exit ?_
      refine W.then_exit ?_
      refine W.then_exit ?_
      refine W.blk_hit ?_
      refine W.then ?_
      refine W.region ?_
      refine W.q (Ev.move (.t rfl)) rfl ?_
      first | refine W.q (Ev.lden (.t rfl) ag49 ty49 rfl rfl) rfl ?_ | refine W.q (Ev.ldbn 0 (.t rfl) rfl ag49 ty49 rfl) rfl ?_ | refine W.q (Ev.ldbn 1 (.t rfl) rfl ag49 ty49 rfl) rfl ?_ | refine W.q (Ev.ldbn 2 (.t rfl) rfl ag49 ty49 rfl) rfl ?_ | refine W.q (Ev.ldbn 3 (.t rfl) rfl ag49 ty49 rfl) rfl ?_
      refine W.bs (es := [_]) Tryd.underlying29 ty49 ⟨rfl, (.t rfl), rfl, rfl, trivial⟩ rfl (by decide) rfl rfl ?_
      first | refine W.app 0 (.t rfl) rfl (.sl (.t rfl) (by first | (simp [AV.okc, shV]; done) | (intro e he; rw [List.mem_singleton.1 he]; rfl))) Tryd.underlying29 ni29 ty49 rfl rfl (by simp only [List.length_map, List.length_cons, List.length_nil]; omega) rfl ?_ | refine W.app 1 (.t rfl) rfl (.sl (.t rfl) (by first | (simp [AV.okc, shV]; done) | (intro e he; rw [List.mem_singleton.1 he]; rfl))) Tryd.underlying29 ni29 ty49 rfl rfl (by simp only [List.length_map, List.length_cons, List.length_nil]; omega) rfl ?_ | refine W.app 2 (.t rfl) rfl (.sl (.t rfl) (by first | (simp [AV.okc, shV]; done) | (intro e he; rw [List.mem_singleton.1 he]; rfl))) Tryd.underlying29 ni29 ty49 rfl rfl (by simp only [List.length_map, List.length_cons, List.length_nil]; omega) rfl ?_ | refine W.app 3 (.t rfl) rfl (.sl (.t rfl) (by first | (simp [AV.okc, shV]; done) | (intro e he; rw [List.mem_singleton.1 he]; rfl))) Tryd.underlying29 ni29 ty49 rfl rfl (by simp only [List.length_map, List.length_cons, List.length_nil]; omega) rfl ?_ | refine W.app 0 (.t rfl) rfl (.arr 0 (.t rfl) rfl (by first | (simp [AV.okc, shV]; done) | (intro e he; rw [List.mem_singleton.1 he]; rfl))) Tryd.underlying29 ni29 ty49 rfl rfl (by simp only [List.length_map, List.length_cons, List.length_nil]; omega) rfl ?_ | refine W.app 0 (.t rfl) rfl (.arr 1 (.t rfl) rfl (by first | (simp [AV.okc, shV]; done) | (intro e he; rw [List.mem_singleton.1 he]; rfl))) Tryd.underlying29 ni29 ty49 rfl rfl (by simp only [List.length_map, List.length_cons, List.length_nil]; omega) rfl ?_ | refine W.app 0 (.t rfl) rfl (.arr 2 (.t rfl) rfl (by first | (simp [AV.okc, shV]; done) | (intro e he; rw [List.mem_singleton.1 he]; rfl))) Tryd.underlying29 ni29 ty49 rfl rfl (by simp only [List.length_map, List.length_cons, List.length_nil]; omega) rfl ?_ | refine W.app 0 (.t rfl) rfl (.arr 3 (.t rfl) rfl (by first | (simp [AV.okc, shV]; done) | (intro e he; rw [List.mem_singleton.1 he]; rfl))) Tryd.underlying29 ni29 ty49 rfl rfl (by simp only [List.length_map, List.length_cons, List.length_nil]; omega) rfl ?_ | refine W.app 1 (.t rfl) rfl (.arr 0 (.t rfl) rfl (by first | (simp [AV.okc, shV]; done) | (intro e he; rw [List.mem_singleton.1 he]; rfl))) Tryd.underlying29 ni29 ty49 rfl rfl (by simp only [List.length_map, List.length_cons, List.length_nil]; omega) rfl ?_ | refine W.app 1 (.t rfl) rfl (.arr 1 (.t rfl) rfl (by first | (simp [AV.okc, shV]; done) | (intro e he; rw [List.mem_singleton.1 he]; rfl))) Tryd.underlying29 ni29 ty49 rfl rfl (by simp only [List.length_map, List.length_cons, List.length_nil]; omega) rfl ?_ | refine W.app 1 (.t rfl) rfl (.arr 2 (.t rfl) rfl (by first | (simp [AV.okc, shV]; done) | (intro e he; rw [List.mem_singleton.1 he]; rfl))) Tryd.underlying29 ni29 ty49 rfl rfl (by simp only [List.length_map, List.length_cons, List.length_nil]; omega) rfl ?_ | refine W.app 1 (.t rfl) rfl (.arr 3 (.t rfl) rfl (by first | (simp [AV.okc, shV]; done) | (intro e he; rw [List.mem_singleton.1 he]; rfl))) Tryd.underlying29 ni29 ty49 rfl rfl (by simp only [List.length_map, List.length_cons, List.length_nil]; omega) rfl ?_ | refine W.app 2 (.t rfl) rfl (.arr 0 (.t rfl) rfl (by first | (simp [AV.okc, shV]; done) | (intro e he; rw [List.mem_singleton.1 he]; rfl))) Tryd.underlying29 ni29 ty49 rfl rfl (by simp only [List.length_map, List.length_cons, List.length_nil]; omega) rfl ?_ | refine W.app 2 (.t rfl) rfl (.arr 1 (.t rfl) rfl (by first | (simp [AV.okc, shV]; done) | (intro e he; rw [List.mem_singleton.1 he]; rfl))) Tryd.underlying29 ni29 ty49 rfl rfl (by simp only [List.length_map, List.length_cons, List.length_nil]; omega) rfl ?_ | refine W.app 2 (.t rfl) rfl (.arr 2 (.t rfl) rfl (by first | (simp [AV.okc, shV]; done) | (intro e he; rw [List.mem_singleton.1 he]; rfl))) Tryd.underlying29 ni29 ty49 rfl rfl (by simp only [List.length_map, List.length_cons, List.length_nil]; omega) rfl ?_ | refine W.app 2 (.t rfl) rfl (.arr 3 (.t rfl) rfl (by first | (simp [AV.okc, shV]; done) | (intro e he; rw [List.mem_singleton.1 he]; rfl))) Tryd.underlying29 ni29 ty49 rfl rfl (by simp only [List.length_map, List.length_cons, List.length_nil]; omega) rfl ?_ | refine W.app 3 (.t rfl) rfl (.arr 0 (.t rfl) rfl (by first | (simp [AV.okc, shV]; done) | (intro e he; rw [List.mem_singleton.1 he]; rfl))) Tryd.underlying29 ni29 ty49 rfl rfl (by simp only [List.length_map, List.length_cons, List.length_nil]; omega) rfl ?_ | refine W.app 3 (.t rfl) rfl (.arr 1 (.t rfl) rfl (by first | (simp [AV.okc, shV]; done) | (intro e he; rw [List.mem_singleton.1 he]; rfl))) Tryd.underlying29 ni29 ty49 rfl rfl (by simp only [List.length_map, List.length_cons, List.length_nil]; omega) rfl ?_ | refine W.app 3 (.t rfl) rfl (.arr 2 (.t rfl) rfl (by first | (simp [AV.okc, shV]; done) | (intro e he; rw [List.mem_singleton.1 he]; rfl))) Tryd.underlying29 ni29 ty49 rfl rfl (by simp only [List.length_map, List.length_cons, List.length_nil]; omega) rfl ?_ | refine W.app 3 (.t rfl) rfl (.arr 3 (.t rfl) rfl (by first | (simp [AV.okc, shV]; done) | (intro e he; rw [List.mem_singleton.1 he]; rfl))) Tryd.underlying29 ni29 ty49 rfl rfl (by simp only [List.length_map, List.length_cons, List.length_nil]; omega) rfl ?_
      intro v58
      refine W.q (Ev.assign (.t rfl)) rfl ?_
      refine W.nil ?_
      refine W.blk_normal ?_
      refine W.then ?_
      refine W.region ?_
      refine W.q (Ev.move (.t rfl)) rfl ?_
      first | refine W.q (Ev.add (.t rfl) .k (fun _ => by omega)) rfl ?_ | refine W.q (Ev.addw (.t rfl) .k) rfl ?_
      refine W.q (Ev.assign (.t rfl)) rfl ?_
      refine W.nil ?_
      refine W.then ?_
      refine W.reach (D := [_]) (i + 1, out ++ [(s, mk)], v58) ⟨rfl, rfl, rfl, rfl, trivial⟩ (by rw [List.map_append]; exact List.Perm.swap _ _ []) ⟨⟨by omega, by omega, ?_, ?_⟩, by show _ - (i + 1) < _; omega⟩
      · show (out ++ [_]).length ≤ i + 1; rw [List.length_append, List.length_singleton]; omega
      · intro x hx
        rcases List.mem_append.1 hx with hx | hx
        · exact hi4 x hx
        · rw [List.mem_singleton.1 hx]; exact ⟨hsl, by show mk.length ≤ 3; omega, hk3⟩
  · skip
    refine W.seq ?_
    refine W.seq ?_
    refine W.region ?_
    refine W.q (Ev.move (.t rfl)) rfl ?_
    refine W.q (Ev.move (.t rfl)) rfl ?_
    first | refine W.q (Ev.lensl (.t rfl) Tryd.underlying22) rfl ?_ | refine W.q (Ev.lenar (i := 0) (.t rfl) rfl Tryd.underlying22) rfl ?_ | refine W.q (Ev.lenar (i := 1) (.t rfl) rfl Tryd.underlying22) rfl ?_ | refine W.q (Ev.lenar (i := 2) (.t rfl) rfl Tryd.underlying22) rfl ?_ | refine W.q (Ev.lenar (i := 3) (.t rfl) rfl Tryd.underlying22) rfl ?_
    refine W.q (Ev.lti (.t rfl) (.t rfl)) rfl ?_
    refine W.q (Ev.move (.t rfl)) rfl ?_
    refine W.qgT rfl rfl (Ev.move (.t rfl)) rfl ?_
    refine W.qgT rfl rfl (Ev.move (.t rfl)) rfl ?_
    refine W.qgT rfl rfl (Ev.lti (.c rfl) (.c rfl)) rfl ?_
    refine W.q (Ev.and (.t rfl) ⟨_, _, rfl, rfl, by first | (simp; done) | (intro hg_ hp_; simp [hp_]; done) | (simp <;> omega; done) | (simp_all; done) | grind⟩) rfl ?_
    refine W.nil ?_
    refine W.then ?_
    refine W.is (t := 17) (g := true) (av' := .lit (.bool false)) rfl (congrArg (fun b => AV.lit (.bool b)) (by simp; omega)) ?_
    refine W.condF (.t rfl) ?_
    refine W.exit ?_
    refine W.then_exit ?_
    refine W.then_exit ?_
    refine W.blk_hit ?_
    refine W.then ?_
    refine W.seq ?_
    refine W.region ?_
    refine W.q (Ev.move (.t rfl)) rfl ?_
    refine W.q (Ev.assign (.t rfl)) rfl ?_
    refine W.nil ?_
    refine W.then ?_
    refine W.ret ?_
    refine W.freezeA (M1 := []) (M2 := []) (D := []) (v := v5) (L' := [(4, true, .sl 2 (out.map rnav))]) (.refl _) ⟨⟨_, rfl, .one .hit⟩, trivial⟩ (FrzMs.refl _) ?_
    refine W.retn (M' := []) (rs := [.tmp 4]) (avs := [_]) Tryd.results12 ⟨rfl, trivial⟩ rfl (.refl _) ?_
    exact ⟨rfl, out, rfl, by omega, hi4⟩

theorem c_markOrder (z : Int) : FnP Tryd.prog 10 [.int z] (.sl 1 ((Mrk.order z).map AV.str)) :=  by
  refine FnC.mk Tryd.func10 (by kernel_rfl) rfl Tryd.ntmps10 rfl (fun w0 F => ?_)
  refine W.seq ?_
  refine W.region ?_
  refine W.q (Ev.assign .k) rfl ?_
  refine W.nil ?_
  refine W.then ?_
  refine W.seq ?_
  refine W.region ?_
  refine W.bs (es := [_, _, _]) Tryd.underlying23 ty9 ⟨rfl, .k, rfl, rfl, rfl, .k, rfl, rfl, rfl, .k, rfl, rfl, trivial⟩ rfl (by decide) rfl rfl ?_
  refine W.bs (es := [_, _, _]) Tryd.underlying23 ty9 ⟨rfl, .k, rfl, rfl, rfl, .k, rfl, rfl, rfl, .k, rfl, rfl, trivial⟩ rfl (by decide) rfl rfl ?_
  refine W.bs (es := [_, _, _]) Tryd.underlying23 ty9 ⟨rfl, .k, rfl, rfl, rfl, .k, rfl, rfl, rfl, .k, rfl, rfl, trivial⟩ rfl (by decide) rfl rfl ?_
  refine W.bs (es := [_, _, _]) Tryd.underlying23 ty9 ⟨rfl, .k, rfl, rfl, rfl, .k, rfl, rfl, rfl, .k, rfl, rfl, trivial⟩ rfl (by decide) rfl rfl ?_
  refine W.bs (es := [_, _, _, _]) Tryd.underlying65 ty23 ⟨rfl, (.t rfl), rfl, rfl, rfl, (.t rfl), rfl, rfl, rfl, (.t rfl), rfl, rfl, rfl, (.t rfl), rfl, rfl, trivial⟩ rfl (by decide) rfl rfl ?_
  refine W.q (Ev.move (.t rfl)) rfl ?_
  refine W.callp (Base.c_Picked z 4 (by decide) (by decide)) ⟨(.t rfl), .k, trivial⟩ rfl ?_
  refine W.q (Ev.at (E := 23) (e := Mrk.sav (Mrk.order z)) (.t rfl) (.t rfl) Tryd.underlying65 ty23 (fun _ => ⟨Int.emod_nonneg _ (by decide), (Mrk.order_at z).1⟩) rfl rfl) rfl ?_
  first | refine W.q (Ev.lde1 (.t rfl) ag23) rfl ?_ | refine W.q (Ev.ldb1 0 (.t rfl) rfl ag23 rfl) rfl ?_ | refine W.q (Ev.ldb1 1 (.t rfl) rfl ag23 rfl) rfl ?_ | refine W.q (Ev.ldb1 2 (.t rfl) rfl ag23 rfl) rfl ?_ | refine W.q (Ev.ldb1 3 (.t rfl) rfl ag23 rfl) rfl ?_
  refine W.q (Ev.assign (.t rfl)) rfl ?_
  refine W.nil ?_
  refine W.then ?_
  refine W.ret ?_
  refine W.retn (M' := []) (rs := [.tmp 2]) (avs := [_]) Tryd.results10 ⟨rfl, trivial⟩ rfl (.refl _) ?_
  exact ⟨rfl, rfl⟩

theorem c_copiedRuns (l : List Rn) (hl : l.length ≤ 1000) (hr : ∀ r ∈ l, r.2.length ≤ 1000) : FnP Tryd.prog 20 [.sl 2 (l.map rnav)] (.sl 2 (l.map rnav)) :=  by
  refine FnC.mk Tryd.func20 (by kernel_rfl) rfl Tryd.ntmps20 rfl (fun w0 F => ?_)
  have hll : (l.map rnav).length = l.length := List.length_map ..
  refine W.seq ?_
  refine W.region ?_
  refine W.q (Ev.assign .k) rfl ?_
  refine W.nil ?_
  refine W.then ?_
  refine W.seq ?_
  refine W.region ?_
  refine W.q (Ev.assign .k) rfl ?_
  refine W.nil ?_
  refine W.then ?_
  refine W.seq ?_
  refine W.seq ?_
  refine W.region ?_
  refine W.q (Ev.assign .k) rfl ?_
  refine W.nil ?_
  refine W.then ?_
  refine W.block ?_
  refine W.own_nil 49 2 ?_
  refine W.loop (D := []) (ι := Nat × Value) (fun z => [(4, true, .int (z.1 : Int)), (0, true, .sl 2 (l.map rnav)), (3, true, .lit z.2)]) (fun z => [.arr z.2 49 2 ((l.take z.1).map rnav)]) (fun z => z.1 ≤ l.length) (fun z => l.length - z.1) (0, .slice none 0 0) ⟨rfl, rfl, rfl, trivial⟩ (.refl _) (Nat.zero_le _) ?_
  rintro ⟨i, v⟩ hi
  dsimp only at hi ⊢
  rcases (show i < l.length ∨ i = l.length from by omega) with hlt | hend
  · have hga := getD_mapG rnav ([], []) l i hlt
    have hrm := hr _ (getD_memG ([], []) l i hlt)
    have htk := take_getDG ([], []) l i hlt
    generalize l.getD i ([], []) = r at hga hrm htk
    have hml : (r.2.map AV.str).length = r.2.length := List.length_map ..
    refine W.seq ?_
    refine W.seq ?_
    refine W.region ?_
    refine W.q (Ev.move (.t rfl)) rfl ?_
    refine W.q (Ev.move (.t rfl)) rfl ?_
    first | refine W.q (Ev.lensl (.t rfl) Tryd.underlying29) rfl ?_ | refine W.q (Ev.lenar (i := 0) (.t rfl) rfl Tryd.underlying29) rfl ?_ | refine W.q (Ev.lenar (i := 1) (.t rfl) rfl Tryd.underlying29) rfl ?_ | refine W.q (Ev.lenar (i := 2) (.t rfl) rfl Tryd.underlying29) rfl ?_ | refine W.q (Ev.lenar (i := 3) (.t rfl) rfl Tryd.underlying29) rfl ?_
    refine W.q (Ev.lti (.t rfl) (.t rfl)) rfl ?_
    refine W.nil ?_
    refine W.then ?_
    refine W.is (t := 8) (g := true) (av' := .lit (.bool true)) rfl (congrArg (fun b => AV.lit (.bool b)) (by exact decide_eq_true (by omega))) ?_
    refine W.condT (.t rfl) ?_
    refine W.skip ?_
    refine W.then ?_
    refine W.seq ?_
    refine W.block ?_
    refine W.drawnE (ι := Value) (fun ee c => [bif ee 14 then ME.arr c 49 2 ((l.take i).map rnav ++ [rnav r]) else ME.arr v 49 2 ((l.take i).map rnav)]) 14 v (by kernel_rfl) (by kernel_rfl) rfl ?_
    refine DE.q (fun e c hk => (Ev.move (.t rfl))) rfl (fun _ _ => rfl) (by first | exact .inr (fun _ _ => rfl) | exact .inl (by kernel_rfl)) ?_
    refine DE.q (fun e c hk => (Ev.move (.t rfl))) rfl (fun _ _ => rfl) (by first | exact .inr (fun _ _ => rfl) | exact .inl (by kernel_rfl)) ?_
    refine DE.q (fun e c hk => (Ev.move (.t rfl))) rfl (fun _ _ => rfl) (by first | exact .inr (fun _ _ => rfl) | exact .inl (by kernel_rfl)) ?_
    refine DE.q (fun e c hk => Ev.at (E := 49)  (.t rfl) (.t rfl) Tryd.underlying29 ty49 (fun _ => ⟨by omega, hga⟩) rfl rfl) rfl (fun _ _ => rfl) (by first | exact .inr (fun _ _ => rfl) | exact .inl (by kernel_rfl)) ?_
    first | refine DE.q (fun e c hk => (Ev.fae (.t rfl) fa49_0 rfl)) rfl (fun _ _ => rfl) (by first | exact .inr (fun _ _ => rfl) | exact .inl (by kernel_rfl)) ?_ | refine DE.q (fun e c hk => (Ev.fab (.t rfl) fa49_0)) rfl (fun _ _ => rfl) (by first | exact .inr (fun _ _ => rfl) | exact .inl (by kernel_rfl)) ?_ | refine DE.q (fun e c hk => (Ev.faa (.t rfl) fa49_0)) rfl (fun _ _ => rfl) (by first | exact .inr (fun _ _ => rfl) | exact .inl (by kernel_rfl)) ?_
    first | refine DE.q (fun e c hk => (Ev.lde1 (.t rfl) ag9)) rfl (fun _ _ => rfl) (by first | exact .inr (fun _ _ => rfl) | exact .inl (by kernel_rfl)) ?_ | refine DE.q (fun e c hk => (Ev.ldb1 0 (.t rfl) rfl ag9 rfl)) rfl (fun _ _ => rfl) (by first | exact .inr (fun _ _ => rfl) | exact .inl (by kernel_rfl)) ?_ | refine DE.q (fun e c hk => (Ev.ldb1 1 (.t rfl) rfl ag9 rfl)) rfl (fun _ _ => rfl) (by first | exact .inr (fun _ _ => rfl) | exact .inl (by kernel_rfl)) ?_ | refine DE.q (fun e c hk => (Ev.ldb1 2 (.t rfl) rfl ag9 rfl)) rfl (fun _ _ => rfl) (by first | exact .inr (fun _ _ => rfl) | exact .inl (by kernel_rfl)) ?_ | refine DE.q (fun e c hk => (Ev.ldb1 3 (.t rfl) rfl ag9 rfl)) rfl (fun _ _ => rfl) (by first | exact .inr (fun _ _ => rfl) | exact .inl (by kernel_rfl)) ?_
    refine DE.q (fun e c hk => (Ev.move (.t rfl))) rfl (fun _ _ => rfl) (by first | exact .inr (fun _ _ => rfl) | exact .inl (by kernel_rfl)) ?_
    refine DE.q (fun e c hk => (Ev.move (.t rfl))) rfl (fun _ _ => rfl) (by first | exact .inr (fun _ _ => rfl) | exact .inl (by kernel_rfl)) ?_
    refine DE.q (fun e c hk => Ev.at (E := 49)  (.t rfl) (.t rfl) Tryd.underlying29 ty49 (fun _ => ⟨by omega, hga⟩) rfl rfl) rfl (fun _ _ => rfl) (by first | exact .inr (fun _ _ => rfl) | exact .inl (by kernel_rfl)) ?_
    first | refine DE.q (fun e c hk => (Ev.fae (.t rfl) fa49_1 rfl)) rfl (fun _ _ => rfl) (by first | exact .inr (fun _ _ => rfl) | exact .inl (by kernel_rfl)) ?_ | refine DE.q (fun e c hk => (Ev.fab (.t rfl) fa49_1)) rfl (fun _ _ => rfl) (by first | exact .inr (fun _ _ => rfl) | exact .inl (by kernel_rfl)) ?_ | refine DE.q (fun e c hk => (Ev.faa (.t rfl) fa49_1)) rfl (fun _ _ => rfl) (by first | exact .inr (fun _ _ => rfl) | exact .inl (by kernel_rfl)) ?_
    first | refine DE.q (fun e c hk => (Ev.lde1 (.t rfl) ag23)) rfl (fun _ _ => rfl) (by first | exact .inr (fun _ _ => rfl) | exact .inl (by kernel_rfl)) ?_ | refine DE.q (fun e c hk => (Ev.ldb1 0 (.t rfl) rfl ag23 rfl)) rfl (fun _ _ => rfl) (by first | exact .inr (fun _ _ => rfl) | exact .inl (by kernel_rfl)) ?_ | refine DE.q (fun e c hk => (Ev.ldb1 1 (.t rfl) rfl ag23 rfl)) rfl (fun _ _ => rfl) (by first | exact .inr (fun _ _ => rfl) | exact .inl (by kernel_rfl)) ?_ | refine DE.q (fun e c hk => (Ev.ldb1 2 (.t rfl) rfl ag23 rfl)) rfl (fun _ _ => rfl) (by first | exact .inr (fun _ _ => rfl) | exact .inl (by kernel_rfl)) ?_ | refine DE.q (fun e c hk => (Ev.ldb1 3 (.t rfl) rfl ag23 rfl)) rfl (fun _ _ => rfl) (by first | exact .inr (fun _ _ => rfl) | exact .inl (by kernel_rfl)) ?_
    first | refine DE.app0 (fun c => (by first | exact .k | exact .kn)) (fun e c => .sl (.t rfl) (okc_strs r.2)) Tryd.underlying23 ni23 ty9 rfl rfl (by simp; omega) rfl (fun _ _ => rfl) ?_ | refine DE.app0 (fun c => .k) (fun e c => .sl (.t rfl) (okc_strs r.2)) Tryd.underlying23 ni23 ty9 rfl rfl (by simp; omega) rfl (fun _ _ => rfl) ?_
    refine DE.q (fun e c hk => (Ev.build ty49 st49 rfl (fun hg => ⟨_, _, _, rfl, (.t rfl), rfl, rfl, rfl, _, _, _, rfl, (.t rfl), rfl, rfl, rfl, rfl⟩))) rfl (fun _ _ => rfl) (by first | exact .inr (fun _ _ => rfl) | exact .inl (by kernel_rfl)) ?_
    refine DE.bs (es := fun _ => [_]) Tryd.underlying29 ty49 (fun c => ⟨rfl, (.t rfl), rfl, rfl, trivial⟩) (fun _ => rfl) (by decide) rfl rfl (fun _ _ => rfl) (by first | exact .inr (fun _ _ => rfl) | exact .inl (by kernel_rfl)) ?_
    refine DE.eff1 (av := fun v => .lit v) rfl rfl (fun e c hk L_ hs Q h => ?_) ?_
    · have hk_14 := hk.not
      simp only [addE, hk_14, Nat.reduceAdd, Nat.reduceEqDiff, ↓reduceIte, cond_true, cond_false] at h ⊢
      first | (refine W.app 0 (.t (hs _ _ rfl)) rfl (.sl (.t (hs _ _ rfl)) (by first | (simp [AV.okc, shV]; done) | (intro e he; rw [List.mem_singleton.1 he]; rfl))) Tryd.underlying29 ni29 ty49 rfl rfl (by simp only [List.length_map, List.length_take, List.length_cons, List.length_nil]; omega) rfl ?_; exact h) | (refine W.app 1 (.t (hs _ _ rfl)) rfl (.sl (.t (hs _ _ rfl)) (by first | (simp [AV.okc, shV]; done) | (intro e he; rw [List.mem_singleton.1 he]; rfl))) Tryd.underlying29 ni29 ty49 rfl rfl (by simp only [List.length_map, List.length_take, List.length_cons, List.length_nil]; omega) rfl ?_; exact h) | (refine W.app 2 (.t (hs _ _ rfl)) rfl (.sl (.t (hs _ _ rfl)) (by first | (simp [AV.okc, shV]; done) | (intro e he; rw [List.mem_singleton.1 he]; rfl))) Tryd.underlying29 ni29 ty49 rfl rfl (by simp only [List.length_map, List.length_take, List.length_cons, List.length_nil]; omega) rfl ?_; exact h) | (refine W.app 3 (.t (hs _ _ rfl)) rfl (.sl (.t (hs _ _ rfl)) (by first | (simp [AV.okc, shV]; done) | (intro e he; rw [List.mem_singleton.1 he]; rfl))) Tryd.underlying29 ni29 ty49 rfl rfl (by simp only [List.length_map, List.length_take, List.length_cons, List.length_nil]; omega) rfl ?_; exact h) | (refine W.app 0 (.t (hs _ _ rfl)) rfl (.arr 0 (.t (hs _ _ rfl)) rfl (by first | (simp [AV.okc, shV]; done) | (intro e he; rw [List.mem_singleton.1 he]; rfl))) Tryd.underlying29 ni29 ty49 rfl rfl (by simp only [List.length_map, List.length_take, List.length_cons, List.length_nil]; omega) rfl ?_; exact h) | (refine W.app 1 (.t (hs _ _ rfl)) rfl (.arr 0 (.t (hs _ _ rfl)) rfl (by first | (simp [AV.okc, shV]; done) | (intro e he; rw [List.mem_singleton.1 he]; rfl))) Tryd.underlying29 ni29 ty49 rfl rfl (by simp only [List.length_map, List.length_take, List.length_cons, List.length_nil]; omega) rfl ?_; exact h) | (refine W.app 2 (.t (hs _ _ rfl)) rfl (.arr 0 (.t (hs _ _ rfl)) rfl (by first | (simp [AV.okc, shV]; done) | (intro e he; rw [List.mem_singleton.1 he]; rfl))) Tryd.underlying29 ni29 ty49 rfl rfl (by simp only [List.length_map, List.length_take, List.length_cons, List.length_nil]; omega) rfl ?_; exact h) | (refine W.app 3 (.t (hs _ _ rfl)) rfl (.arr 0 (.t (hs _ _ rfl)) rfl (by first | (simp [AV.okc, shV]; done) | (intro e he; rw [List.mem_singleton.1 he]; rfl))) Tryd.underlying29 ni29 ty49 rfl rfl (by simp only [List.length_map, List.length_take, List.length_cons, List.length_nil]; omega) rfl ?_; exact h) | (refine W.app 0 (.t (hs _ _ rfl)) rfl (.arr 1 (.t (hs _ _ rfl)) rfl (by first | (simp [AV.okc, shV]; done) | (intro e he; rw [List.mem_singleton.1 he]; rfl))) Tryd.underlying29 ni29 ty49 rfl rfl (by simp only [List.length_map, List.length_take, List.length_cons, List.length_nil]; omega) rfl ?_; exact h) | (refine W.app 1 (.t (hs _ _ rfl)) rfl (.arr 1 (.t (hs _ _ rfl)) rfl (by first | (simp [AV.okc, shV]; done) | (intro e he; rw [List.mem_singleton.1 he]; rfl))) Tryd.underlying29 ni29 ty49 rfl rfl (by simp only [List.length_map, List.length_take, List.length_cons, List.length_nil]; omega) rfl ?_; exact h) | (refine W.app 2 (.t (hs _ _ rfl)) rfl (.arr 1 (.t (hs _ _ rfl)) rfl (by first | (simp [AV.okc, shV]; done) | (intro e he; rw [List.mem_singleton.1 he]; rfl))) Tryd.underlying29 ni29 ty49 rfl rfl (by simp only [List.length_map, List.length_take, List.length_cons, List.length_nil]; omega) rfl ?_; exact h) | (refine W.app 3 (.t (hs _ _ rfl)) rfl (.arr 1 (.t (hs _ _ rfl)) rfl (by first | (simp [AV.okc, shV]; done) | (intro e he; rw [List.mem_singleton.1 he]; rfl))) Tryd.underlying29 ni29 ty49 rfl rfl (by simp only [List.length_map, List.length_take, List.length_cons, List.length_nil]; omega) rfl ?_; exact h) | (refine W.app 0 (.t (hs _ _ rfl)) rfl (.arr 2 (.t (hs _ _ rfl)) rfl (by first | (simp [AV.okc, shV]; done) | (intro e he; rw [List.mem_singleton.1 he]; rfl))) Tryd.underlying29 ni29 ty49 rfl rfl (by simp only [List.length_map, List.length_take, List.length_cons, List.length_nil]; omega) rfl ?_; exact h) | (refine W.app 1 (.t (hs _ _ rfl)) rfl (.arr 2 (.t (hs _ _ rfl)) rfl (by first | (simp [AV.okc, shV]; done) | (intro e he; rw [List.mem_singleton.1 he]; rfl))) Tryd.underlying29 ni29 ty49 rfl rfl (by simp only [List.length_map, List.length_take, List.length_cons, List.length_nil]; omega) rfl ?_; exact h) | (refine W.app 2 (.t (hs _ _ rfl)) rfl (.arr 2 (.t (hs _ _ rfl)) rfl (by first | (simp [AV.okc, shV]; done) | (intro e he; rw [List.mem_singleton.1 he]; rfl))) Tryd.underlying29 ni29 ty49 rfl rfl (by simp only [List.length_map, List.length_take, List.length_cons, List.length_nil]; omega) rfl ?_; exact h) | (refine W.app 3 (.t (hs _ _ rfl)) rfl (.arr 2 (.t (hs _ _ rfl)) rfl (by first | (simp [AV.okc, shV]; done) | (intro e he; rw [List.mem_singleton.1 he]; rfl))) Tryd.underlying29 ni29 ty49 rfl rfl (by simp only [List.length_map, List.length_take, List.length_cons, List.length_nil]; omega) rfl ?_; exact h) | (refine W.app 0 (.t (hs _ _ rfl)) rfl (.arr 3 (.t (hs _ _ rfl)) rfl (by first | (simp [AV.okc, shV]; done) | (intro e he; rw [List.mem_singleton.1 he]; rfl))) Tryd.underlying29 ni29 ty49 rfl rfl (by simp only [List.length_map, List.length_take, List.length_cons, List.length_nil]; omega) rfl ?_; exact h) | (refine W.app 1 (.t (hs _ _ rfl)) rfl (.arr 3 (.t (hs _ _ rfl)) rfl (by first | (simp [AV.okc, shV]; done) | (intro e he; rw [List.mem_singleton.1 he]; rfl))) Tryd.underlying29 ni29 ty49 rfl rfl (by simp only [List.length_map, List.length_take, List.length_cons, List.length_nil]; omega) rfl ?_; exact h) | (refine W.app 2 (.t (hs _ _ rfl)) rfl (.arr 3 (.t (hs _ _ rfl)) rfl (by first | (simp [AV.okc, shV]; done) | (intro e he; rw [List.mem_singleton.1 he]; rfl))) Tryd.underlying29 ni29 ty49 rfl rfl (by simp only [List.length_map, List.length_take, List.length_cons, List.length_nil]; omega) rfl ?_; exact h) | (refine W.app 3 (.t (hs _ _ rfl)) rfl (.arr 3 (.t (hs _ _ rfl)) rfl (by first | (simp [AV.okc, shV]; done) | (intro e he; rw [List.mem_singleton.1 he]; rfl))) Tryd.underlying29 ni29 ty49 rfl rfl (by simp only [List.length_map, List.length_take, List.length_cons, List.length_nil]; omega) rfl ?_; exact h)
    refine DE.q (fun e c hk => (Ev.assign (.t rfl))) rfl (fun _ _ => rfl) (by first | exact .inr (fun _ _ => rfl) | exact .inl (by kernel_rfl)) ?_
    refine DE.nil (fun v25 e_ he_ => ?_)
    simp only [he_ 14 (by decide), cond_true, cond_false]
    refine W.blk_normal ?_
    refine W.then ?_
    refine W.region ?_
    refine W.q (Ev.move (.t rfl)) rfl ?_
    first | refine W.q (Ev.add (.t rfl) .k (fun _ => by omega)) rfl ?_ | refine W.q (Ev.addw (.t rfl) .k) rfl ?_
    refine W.q (Ev.assign (.t rfl)) rfl ?_
    refine W.nil ?_
    refine W.then ?_
    refine W.reach (D := []) (i + 1, v25) ⟨rfl, rfl, rfl, trivial⟩ (by rw [htk, List.map_append]; exact .refl _) ⟨by show i + 1 ≤ _; omega, by show _ - (i + 1) < _; omega⟩
  · have he : l.take i = l := List.take_of_length_le (by omega)
    rw [he]
    refine W.seq ?_
    refine W.seq ?_
    refine W.region ?_
    refine W.q (Ev.move (.t rfl)) rfl ?_
    refine W.q (Ev.move (.t rfl)) rfl ?_
    first | refine W.q (Ev.lensl (.t rfl) Tryd.underlying29) rfl ?_ | refine W.q (Ev.lenar (i := 0) (.t rfl) rfl Tryd.underlying29) rfl ?_ | refine W.q (Ev.lenar (i := 1) (.t rfl) rfl Tryd.underlying29) rfl ?_ | refine W.q (Ev.lenar (i := 2) (.t rfl) rfl Tryd.underlying29) rfl ?_ | refine W.q (Ev.lenar (i := 3) (.t rfl) rfl Tryd.underlying29) rfl ?_
    refine W.q (Ev.lti (.t rfl) (.t rfl)) rfl ?_
    refine W.nil ?_
    refine W.then ?_
    refine W.is (t := 8) (g := true) (av' := .lit (.bool false)) rfl (congrArg (fun b => AV.lit (.bool b)) (by exact decide_eq_false (by omega))) ?_
    refine W.condF (.t rfl) ?_
    refine W.exit ?_
    refine W.then_exit ?_
    refine W.then_exit ?_
    refine W.blk_hit ?_
    refine W.then ?_
    refine W.seq ?_
    refine W.region ?_
    refine W.q (Ev.move (.t rfl)) rfl ?_
    refine W.q (Ev.assign (.t rfl)) rfl ?_
    refine W.nil ?_
    refine W.then ?_
    refine W.ret ?_
    refine W.freezeA (M1 := []) (M2 := []) (D := []) (v := v) (L' := [(2, true, .sl 2 (l.map rnav))]) (.refl _) ⟨⟨_, rfl, .one .hit⟩, trivial⟩ (FrzMs.refl _) ?_
    refine W.retn (M' := []) (rs := [.tmp 2]) (avs := [_]) Tryd.results20 ⟨rfl, trivial⟩ rfl (.refl _) ?_
    exact ⟨rfl, rfl⟩

theorem c_sameRuns (l : List Rn) (hl : l.length ≤ 1000) (hr : ∀ r ∈ l, r.2.length ≤ 1000) : FnP Tryd.prog 22 [.sl 2 (l.map rnav), .sl 2 (l.map rnav)] (.bool true) :=  by
  refine FnC.mk Tryd.func22 (by kernel_rfl) rfl Tryd.ntmps22 rfl (fun w0 F => ?_)
  have hll : (l.map rnav).length = l.length := List.length_map ..
  refine W.seq ?_
  refine W.region ?_
  refine W.q (Ev.assign .k) rfl ?_
  refine W.nil ?_
  refine W.then ?_
  refine W.seq ?_
  refine W.seq ?_
  refine W.region ?_
  refine W.q (Ev.move (.t rfl)) rfl ?_
  first | refine W.q (Ev.lensl (.t rfl) Tryd.underlying29) rfl ?_ | refine W.q (Ev.lenar (i := 0) (.t rfl) rfl Tryd.underlying29) rfl ?_ | refine W.q (Ev.lenar (i := 1) (.t rfl) rfl Tryd.underlying29) rfl ?_ | refine W.q (Ev.lenar (i := 2) (.t rfl) rfl Tryd.underlying29) rfl ?_ | refine W.q (Ev.lenar (i := 3) (.t rfl) rfl Tryd.underlying29) rfl ?_
  refine W.q (Ev.move (.t rfl)) rfl ?_
  first | refine W.q (Ev.lensl (.t rfl) Tryd.underlying29) rfl ?_ | refine W.q (Ev.lenar (i := 0) (.t rfl) rfl Tryd.underlying29) rfl ?_ | refine W.q (Ev.lenar (i := 1) (.t rfl) rfl Tryd.underlying29) rfl ?_ | refine W.q (Ev.lenar (i := 2) (.t rfl) rfl Tryd.underlying29) rfl ?_ | refine W.q (Ev.lenar (i := 3) (.t rfl) rfl Tryd.underlying29) rfl ?_
  refine W.q (Ev.nei (.t rfl) (.t rfl)) rfl ?_
  refine W.nil ?_
  refine W.then ?_
  refine W.is (t := 11) (g := true) (av' := .lit (.bool false)) rfl (congrArg (fun b => AV.lit (.bool b)) (by simp)) ?_
  refine W.condF (.t rfl) ?_
  refine W.skip ?_
  refine W.then ?_
  refine W.seq ?_
  refine W.seq ?_
  refine W.region ?_
  refine W.q (Ev.assign .k) rfl ?_
  refine W.nil ?_
  refine W.then ?_
  refine W.block ?_
  refine W.loop (D := []) (ι := Nat) (fun i => [(5, true, .int (i : Int)), (0, true, .sl 2 (l.map rnav)), (1, true, .sl 2 (l.map rnav))]) (fun _ => []) (fun i => i ≤ l.length) (fun i => l.length - i) 0 ⟨rfl, rfl, rfl, trivial⟩ (.refl _) (Nat.zero_le _) ?_
  intro i hi
  dsimp only at hi ⊢
  rcases (show i < l.length ∨ i = l.length from by omega) with hlt | hend
  · have hga := getD_mapG rnav ([], []) l i hlt
    have hrm := hr _ (getD_memG ([], []) l i hlt)
    generalize l.getD i ([], []) = r at hga hrm
    have hml : (r.2.map AV.str).length = r.2.length := List.length_map ..
    refine W.seq ?_
    refine W.seq ?_
    refine W.region ?_
    refine W.q (Ev.move (.t rfl)) rfl ?_
    refine W.q (Ev.move (.t rfl)) rfl ?_
    first | refine W.q (Ev.lensl (.t rfl) Tryd.underlying29) rfl ?_ | refine W.q (Ev.lenar (i := 0) (.t rfl) rfl Tryd.underlying29) rfl ?_ | refine W.q (Ev.lenar (i := 1) (.t rfl) rfl Tryd.underlying29) rfl ?_ | refine W.q (Ev.lenar (i := 2) (.t rfl) rfl Tryd.underlying29) rfl ?_ | refine W.q (Ev.lenar (i := 3) (.t rfl) rfl Tryd.underlying29) rfl ?_
    refine W.q (Ev.lti (.t rfl) (.t rfl)) rfl ?_
    refine W.nil ?_
    refine W.then ?_
    refine W.is (t := 15) (g := true) (av' := .lit (.bool true)) rfl (congrArg (fun b => AV.lit (.bool b)) (by exact decide_eq_true (by omega))) ?_
    refine W.condT (.t rfl) ?_
    refine W.skip ?_
    refine W.then ?_
    refine W.seq ?_
    refine W.block ?_
    refine W.seq ?_
    refine W.seq ?_
    refine W.drawn (by kernel_rfl) (by kernel_rfl) ?_
    refine DP.q (Ev.move (.t rfl)) rfl ?_
    refine DP.q (Ev.move (.t rfl)) rfl ?_
    refine DP.q (Ev.at (E := 49) (.t rfl) (.t rfl) Tryd.underlying29 ty49 (fun _ => ⟨by omega, hga⟩) rfl rfl) rfl ?_
    first | refine DP.q (Ev.fae (.t rfl) fa49_0 rfl) rfl ?_ | refine DP.q (Ev.fab (.t rfl) fa49_0) rfl ?_ | refine DP.q (Ev.faa (.t rfl) fa49_0) rfl ?_
    first | refine DP.q (Ev.lde1 (.t rfl) ag9) rfl ?_ | refine DP.q (Ev.ldb1 0 (.t rfl) rfl ag9 rfl) rfl ?_ | refine DP.q (Ev.ldb1 1 (.t rfl) rfl ag9 rfl) rfl ?_ | refine DP.q (Ev.ldb1 2 (.t rfl) rfl ag9 rfl) rfl ?_ | refine DP.q (Ev.ldb1 3 (.t rfl) rfl ag9 rfl) rfl ?_
    refine DP.q (Ev.move (.t rfl)) rfl ?_
    refine DP.q (Ev.move (.t rfl)) rfl ?_
    refine DP.q (Ev.at (E := 49) (.t rfl) (.t rfl) Tryd.underlying29 ty49 (fun _ => ⟨by omega, hga⟩) rfl rfl) rfl ?_
    first | refine DP.q (Ev.fae (.t rfl) fa49_0 rfl) rfl ?_ | refine DP.q (Ev.fab (.t rfl) fa49_0) rfl ?_ | refine DP.q (Ev.faa (.t rfl) fa49_0) rfl ?_
    first | refine DP.q (Ev.lde1 (.t rfl) ag9) rfl ?_ | refine DP.q (Ev.ldb1 0 (.t rfl) rfl ag9 rfl) rfl ?_ | refine DP.q (Ev.ldb1 1 (.t rfl) rfl ag9 rfl) rfl ?_ | refine DP.q (Ev.ldb1 2 (.t rfl) rfl ag9 rfl) rfl ?_ | refine DP.q (Ev.ldb1 3 (.t rfl) rfl ag9 rfl) rfl ?_
    refine DP.q (Ev.nes (.t rfl) (.t rfl)) rfl ?_
    refine DP.q (Ev.move (.t rfl)) rfl ?_
    refine DP.qgF rfl rfl (Ev.move (.t rfl)) rfl ?_
    refine DP.qgF rfl rfl (Ev.move (.t rfl)) rfl ?_
    refine DP.qgF rfl rfl (Ev.at (E := 49) (.c rfl) (.c rfl) Tryd.underlying29 ty49 (fun _ => ⟨by omega, hga⟩) rfl rfl) rfl ?_
    first | refine DP.qgF rfl rfl (Ev.fae (.c rfl) fa49_1 rfl) rfl ?_ | refine DP.qgF rfl rfl (Ev.fab (.c rfl) fa49_1) rfl ?_ | refine DP.qgF rfl rfl (Ev.faa (.c rfl) fa49_1) rfl ?_
    first | refine DP.qgF rfl rfl (Ev.lde1 (.c rfl) ag23) rfl ?_ | refine DP.qgF rfl rfl (Ev.ldb1 0 (.c rfl) rfl ag23 rfl) rfl ?_ | refine DP.qgF rfl rfl (Ev.ldb1 1 (.c rfl) rfl ag23 rfl) rfl ?_ | refine DP.qgF rfl rfl (Ev.ldb1 2 (.c rfl) rfl ag23 rfl) rfl ?_ | refine DP.qgF rfl rfl (Ev.ldb1 3 (.c rfl) rfl ag23 rfl) rfl ?_
    first | refine DP.qgF rfl rfl (Ev.lensl (.c rfl) Tryd.underlying23) rfl ?_ | refine DP.qgF rfl rfl (Ev.lenar (i := 0) (.c rfl) rfl Tryd.underlying23) rfl ?_ | refine DP.qgF rfl rfl (Ev.lenar (i := 1) (.c rfl) rfl Tryd.underlying23) rfl ?_ | refine DP.qgF rfl rfl (Ev.lenar (i := 2) (.c rfl) rfl Tryd.underlying23) rfl ?_ | refine DP.qgF rfl rfl (Ev.lenar (i := 3) (.c rfl) rfl Tryd.underlying23) rfl ?_
    refine DP.qgF rfl rfl (Ev.move (.t rfl)) rfl ?_
    refine DP.qgF rfl rfl (Ev.move (.t rfl)) rfl ?_
    refine DP.qgF rfl rfl (Ev.at (E := 49) (.c rfl) (.c rfl) Tryd.underlying29 ty49 (fun _ => ⟨by omega, hga⟩) rfl rfl) rfl ?_
    first | refine DP.qgF rfl rfl (Ev.fae (.c rfl) fa49_1 rfl) rfl ?_ | refine DP.qgF rfl rfl (Ev.fab (.c rfl) fa49_1) rfl ?_ | refine DP.qgF rfl rfl (Ev.faa (.c rfl) fa49_1) rfl ?_
    first | refine DP.qgF rfl rfl (Ev.lde1 (.c rfl) ag23) rfl ?_ | refine DP.qgF rfl rfl (Ev.ldb1 0 (.c rfl) rfl ag23 rfl) rfl ?_ | refine DP.qgF rfl rfl (Ev.ldb1 1 (.c rfl) rfl ag23 rfl) rfl ?_ | refine DP.qgF rfl rfl (Ev.ldb1 2 (.c rfl) rfl ag23 rfl) rfl ?_ | refine DP.qgF rfl rfl (Ev.ldb1 3 (.c rfl) rfl ag23 rfl) rfl ?_
    first | refine DP.qgF rfl rfl (Ev.lensl (.c rfl) Tryd.underlying23) rfl ?_ | refine DP.qgF rfl rfl (Ev.lenar (i := 0) (.c rfl) rfl Tryd.underlying23) rfl ?_ | refine DP.qgF rfl rfl (Ev.lenar (i := 1) (.c rfl) rfl Tryd.underlying23) rfl ?_ | refine DP.qgF rfl rfl (Ev.lenar (i := 2) (.c rfl) rfl Tryd.underlying23) rfl ?_ | refine DP.qgF rfl rfl (Ev.lenar (i := 3) (.c rfl) rfl Tryd.underlying23) rfl ?_
    refine DP.qgF rfl rfl (Ev.nei (.c rfl) (.c rfl)) rfl ?_
    refine DP.q (Ev.or (.t rfl) ⟨_, _, rfl, rfl, by first | (simp; done) | (intro hg_ hp_; simp [hp_]; done) | (simp <;> omega; done) | (simp_all; done) | grind⟩) rfl ?_
    refine DP.nil ?_
    refine W.then ?_
    refine W.is (t := 43) (g := true) (av' := .lit (.bool false)) rfl (congrArg (fun b => AV.lit (.bool b)) (by simp)) ?_
    refine W.condF (.t rfl) ?_
    refine W.skip ?_
    refine W.then ?_
    refine W.seq ?_
    refine W.region ?_
    refine W.q (Ev.assign .k) rfl ?_
    refine W.nil ?_
    refine W.then ?_
    refine W.block ?_
    refine W.loop (D := []) (ι := Nat) (fun k => [(6, true, .int (k : Int)), (5, true, .int (i : Int)), (0, true, .sl 2 (l.map rnav)), (1, true, .sl 2 (l.map rnav))]) (fun _ => []) (fun k => k ≤ r.2.length) (fun k => r.2.length - k) 0 ⟨rfl, rfl, rfl, rfl, trivial⟩ (.refl _) (Nat.zero_le _) ?_
    intro k hk
    dsimp only at hk ⊢
    rcases (show k < r.2.length ∨ k = r.2.length from by omega) with hltk | hendk
    · have hgm := getD_mapG AV.str [] r.2 k hltk
      refine W.seq ?_
      refine W.seq ?_
      refine W.region ?_
      refine W.q (Ev.move (.t rfl)) rfl ?_
      refine W.q (Ev.move (.t rfl)) rfl ?_
      refine W.q (Ev.move (.t rfl)) rfl ?_
      refine W.q (Ev.at (E := 49) (.t rfl) (.t rfl) Tryd.underlying29 ty49 (fun _ => ⟨by omega, hga⟩) rfl rfl) rfl ?_
      first | refine W.q (Ev.fae (.t rfl) fa49_1 rfl) rfl ?_ | refine W.q (Ev.fab (.t rfl) fa49_1) rfl ?_ | refine W.q (Ev.faa (.t rfl) fa49_1) rfl ?_
      first | refine W.q (Ev.lde1 (.t rfl) ag23) rfl ?_ | refine W.q (Ev.ldb1 0 (.t rfl) rfl ag23 rfl) rfl ?_ | refine W.q (Ev.ldb1 1 (.t rfl) rfl ag23 rfl) rfl ?_ | refine W.q (Ev.ldb1 2 (.t rfl) rfl ag23 rfl) rfl ?_ | refine W.q (Ev.ldb1 3 (.t rfl) rfl ag23 rfl) rfl ?_
      first | refine W.q (Ev.lensl (.t rfl) Tryd.underlying23) rfl ?_ | refine W.q (Ev.lenar (i := 0) (.t rfl) rfl Tryd.underlying23) rfl ?_ | refine W.q (Ev.lenar (i := 1) (.t rfl) rfl Tryd.underlying23) rfl ?_ | refine W.q (Ev.lenar (i := 2) (.t rfl) rfl Tryd.underlying23) rfl ?_ | refine W.q (Ev.lenar (i := 3) (.t rfl) rfl Tryd.underlying23) rfl ?_
      refine W.q (Ev.lti (.t rfl) (.t rfl)) rfl ?_
      refine W.nil ?_
      refine W.then ?_
      refine W.is (t := 51) (g := true) (av' := .lit (.bool true)) rfl (congrArg (fun b => AV.lit (.bool b)) (by exact decide_eq_true (by omega))) ?_
      refine W.condT (.t rfl) ?_
      refine W.skip ?_
      refine W.then ?_
      refine W.seq ?_
      refine W.block ?_
      refine W.seq ?_
      refine W.drawn (by kernel_rfl) (by kernel_rfl) ?_
      refine DP.q (Ev.move (.t rfl)) rfl ?_
      refine DP.q (Ev.move (.t rfl)) rfl ?_
      refine DP.q (Ev.at (E := 49) (.t rfl) (.t rfl) Tryd.underlying29 ty49 (fun _ => ⟨by omega, hga⟩) rfl rfl) rfl ?_
      first | refine DP.q (Ev.fae (.t rfl) fa49_1 rfl) rfl ?_ | refine DP.q (Ev.fab (.t rfl) fa49_1) rfl ?_ | refine DP.q (Ev.faa (.t rfl) fa49_1) rfl ?_
      first | refine DP.q (Ev.lde1 (.t rfl) ag23) rfl ?_ | refine DP.q (Ev.ldb1 0 (.t rfl) rfl ag23 rfl) rfl ?_ | refine DP.q (Ev.ldb1 1 (.t rfl) rfl ag23 rfl) rfl ?_ | refine DP.q (Ev.ldb1 2 (.t rfl) rfl ag23 rfl) rfl ?_ | refine DP.q (Ev.ldb1 3 (.t rfl) rfl ag23 rfl) rfl ?_
      refine DP.q (Ev.move (.t rfl)) rfl ?_
      refine DP.q (Ev.at (E := 9) (.t rfl) (.t rfl) Tryd.underlying23 ty9 (fun _ => ⟨by omega, hgm⟩) rfl rfl) rfl ?_
      first | refine DP.q (Ev.lde1 (.t rfl) ag9) rfl ?_ | refine DP.q (Ev.ldb1 0 (.t rfl) rfl ag9 rfl) rfl ?_ | refine DP.q (Ev.ldb1 1 (.t rfl) rfl ag9 rfl) rfl ?_ | refine DP.q (Ev.ldb1 2 (.t rfl) rfl ag9 rfl) rfl ?_ | refine DP.q (Ev.ldb1 3 (.t rfl) rfl ag9 rfl) rfl ?_
      refine DP.q (Ev.move (.t rfl)) rfl ?_
      refine DP.q (Ev.move (.t rfl)) rfl ?_
      refine DP.q (Ev.at (E := 49) (.t rfl) (.t rfl) Tryd.underlying29 ty49 (fun _ => ⟨by omega, hga⟩) rfl rfl) rfl ?_
      first | refine DP.q (Ev.fae (.t rfl) fa49_1 rfl) rfl ?_ | refine DP.q (Ev.fab (.t rfl) fa49_1) rfl ?_ | refine DP.q (Ev.faa (.t rfl) fa49_1) rfl ?_
      first | refine DP.q (Ev.lde1 (.t rfl) ag23) rfl ?_ | refine DP.q (Ev.ldb1 0 (.t rfl) rfl ag23 rfl) rfl ?_ | refine DP.q (Ev.ldb1 1 (.t rfl) rfl ag23 rfl) rfl ?_ | refine DP.q (Ev.ldb1 2 (.t rfl) rfl ag23 rfl) rfl ?_ | refine DP.q (Ev.ldb1 3 (.t rfl) rfl ag23 rfl) rfl ?_
      refine DP.q (Ev.move (.t rfl)) rfl ?_
      refine DP.q (Ev.at (E := 9) (.t rfl) (.t rfl) Tryd.underlying23 ty9 (fun _ => ⟨by omega, hgm⟩) rfl rfl) rfl ?_
      first | refine DP.q (Ev.lde1 (.t rfl) ag9) rfl ?_ | refine DP.q (Ev.ldb1 0 (.t rfl) rfl ag9 rfl) rfl ?_ | refine DP.q (Ev.ldb1 1 (.t rfl) rfl ag9 rfl) rfl ?_ | refine DP.q (Ev.ldb1 2 (.t rfl) rfl ag9 rfl) rfl ?_ | refine DP.q (Ev.ldb1 3 (.t rfl) rfl ag9 rfl) rfl ?_
      refine DP.q (Ev.nes (.t rfl) (.t rfl)) rfl ?_
      refine DP.nil ?_
      refine W.then ?_
      refine W.is (t := 70) (g := true) (av' := .lit (.bool false)) rfl (congrArg (fun b => AV.lit (.bool b)) (by simp)) ?_
      refine W.condF (.t rfl) ?_
      refine W.skip ?_
      refine W.blk_normal ?_
      refine W.then ?_
      refine W.region ?_
      refine W.q (Ev.move (.t rfl)) rfl ?_
      first | refine W.q (Ev.add (.t rfl) .k (fun _ => by omega)) rfl ?_ | refine W.q (Ev.addw (.t rfl) .k) rfl ?_
      refine W.q (Ev.assign (.t rfl)) rfl ?_
      refine W.nil ?_
      refine W.then ?_
      refine W.reach (D := []) (k + 1) ⟨rfl, rfl, rfl, rfl, trivial⟩ (.refl _) ⟨by show k + 1 ≤ _; omega, by show _ - (k + 1) < _; omega⟩
    · skip
      refine W.seq ?_
      refine W.seq ?_
      refine W.region ?_
      refine W.q (Ev.move (.t rfl)) rfl ?_
      refine W.q (Ev.move (.t rfl)) rfl ?_
      refine W.q (Ev.move (.t rfl)) rfl ?_
      refine W.q (Ev.at (E := 49) (.t rfl) (.t rfl) Tryd.underlying29 ty49 (fun _ => ⟨by omega, hga⟩) rfl rfl) rfl ?_
      first | refine W.q (Ev.fae (.t rfl) fa49_1 rfl) rfl ?_ | refine W.q (Ev.fab (.t rfl) fa49_1) rfl ?_ | refine W.q (Ev.faa (.t rfl) fa49_1) rfl ?_
      first | refine W.q (Ev.lde1 (.t rfl) ag23) rfl ?_ | refine W.q (Ev.ldb1 0 (.t rfl) rfl ag23 rfl) rfl ?_ | refine W.q (Ev.ldb1 1 (.t rfl) rfl ag23 rfl) rfl ?_ | refine W.q (Ev.ldb1 2 (.t rfl) rfl ag23 rfl) rfl ?_ | refine W.q (Ev.ldb1 3 (.t rfl) rfl ag23 rfl) rfl ?_
      first | refine W.q (Ev.lensl (.t rfl) Tryd.underlying23) rfl ?_ | refine W.q (Ev.lenar (i := 0) (.t rfl) rfl Tryd.underlying23) rfl ?_ | refine W.q (Ev.lenar (i := 1) (.t rfl) rfl Tryd.underlying23) rfl ?_ | refine W.q (Ev.lenar (i := 2) (.t rfl) rfl Tryd.underlying23) rfl ?_ | refine W.q (Ev.lenar (i := 3) (.t rfl) rfl Tryd.underlying23) rfl ?_
      refine W.q (Ev.lti (.t rfl) (.t rfl)) rfl ?_
      refine W.nil ?_
      refine W.then ?_
      refine W.is (t := 51) (g := true) (av' := .lit (.bool false)) rfl (congrArg (fun b => AV.lit (.bool b)) (by exact decide_eq_false (by omega))) ?_
      refine W.condF (.t rfl) ?_
      refine W.exit ?_
      refine W.then_exit ?_
      refine W.then_exit ?_
      refine W.blk_hit ?_
      refine W.blk_normal ?_
      refine W.then ?_
      refine W.region ?_
      refine W.q (Ev.move (.t rfl)) rfl ?_
      first | refine W.q (Ev.add (.t rfl) .k (fun _ => by omega)) rfl ?_ | refine W.q (Ev.addw (.t rfl) .k) rfl ?_
      refine W.q (Ev.assign (.t rfl)) rfl ?_
      refine W.nil ?_
      refine W.then ?_
      refine W.reach (D := []) (i + 1) ⟨rfl, rfl, rfl, trivial⟩ (.refl _) ⟨by show i + 1 ≤ _; omega, by show _ - (i + 1) < _; omega⟩
  · skip
    refine W.seq ?_
    refine W.seq ?_
    refine W.region ?_
    refine W.q (Ev.move (.t rfl)) rfl ?_
    refine W.q (Ev.move (.t rfl)) rfl ?_
    first | refine W.q (Ev.lensl (.t rfl) Tryd.underlying29) rfl ?_ | refine W.q (Ev.lenar (i := 0) (.t rfl) rfl Tryd.underlying29) rfl ?_ | refine W.q (Ev.lenar (i := 1) (.t rfl) rfl Tryd.underlying29) rfl ?_ | refine W.q (Ev.lenar (i := 2) (.t rfl) rfl Tryd.underlying29) rfl ?_ | refine W.q (Ev.lenar (i := 3) (.t rfl) rfl Tryd.underlying29) rfl ?_
    refine W.q (Ev.lti (.t rfl) (.t rfl)) rfl ?_
    refine W.nil ?_
    refine W.then ?_
    refine W.is (t := 15) (g := true) (av' := .lit (.bool false)) rfl (congrArg (fun b => AV.lit (.bool b)) (by exact decide_eq_false (by omega))) ?_
    refine W.condF (.t rfl) ?_
    refine W.exit ?_
    refine W.then_exit ?_
    refine W.then_exit ?_
    refine W.blk_hit ?_
    refine W.then ?_
    refine W.seq ?_
    refine W.region ?_
    refine W.q (Ev.assign .k) rfl ?_
    refine W.nil ?_
    refine W.then ?_
    refine W.ret ?_
    refine W.retn (M' := []) (rs := [.tmp 4]) (avs := [_]) Tryd.results22 ⟨rfl, trivial⟩ rfl (.refl _) ?_
    exact ⟨rfl, rfl⟩

end WMDraw

end Go.Proofs.YtlglnmafddnmmaaDoor
end

section
set_option linter.unusedVariables false
set_option linter.unusedSimpArgs false
namespace Go.Vl
open Go.RowKit (Below)
theorem Fr.of_below {w w' : World} (h : Below w.heap.size w w') : Fr w [] w' [] :=
  ⟨h.os, h.tape, h.output, h.size, fun k hk _ => ⟨h.block k hk, by simp⟩⟩
theorem FnP.of_below {P : Program} {f : FuncId} {args : List AV} {r : AV} (hc : CallOk P f)
    (h : ∀ (w : World) (F : List Nat) (vs : List Value), RepT w F args vs → Calls P f vs.toArray w fun e w' => ∃ v, e = .returned v ∧ Rep w' F r v ∧ Below w.heap.size w w') : FnP P f args r :=
  ⟨hc, fun w F vs hF hm ha => (h w F vs (by simpa [bl] using ha)).mono fun e w' ⟨v, he, hr, hb⟩ => ⟨v, r, [], he, ⟨rfl, rfl⟩, MOk.nil w' F, by simpa [bl] using hr, by simpa [bl] using Fr.of_below hb⟩⟩
theorem CallOk.of {P : Program} {f : FuncId} {fn : Func} (h1 : P.funcs[f]? = some fn) (h2 : (fn.name == "runtime.NumGoroutine") = false) (h3 : fn.body.isNone = false) : CallOk P f := ⟨fn, h1, h2, h3⟩
theorem RepE.strs {w : World} {N : List Nat} {l : List (List UInt8)} {row : List Value} (h : RepE w N 1 (l.map AV.str) row) (j : Nat) (x : List UInt8) (hj : l[j]? = some x) : row[j]? = some (.string ⟨x.toArray⟩) := by
  obtain ⟨h1, h2⟩ := RepE.get (i := j) (e := AV.str x) h (by rw [List.getElem?_map, hj]; rfl)
  simp only [RepC, Nat.mul_one] at h2
  have h3 : (List.take 1 (List.drop j row)) = [Value.string ⟨x.toArray⟩] := h2
  have : (List.take 1 (List.drop j row))[0]? = row[j]? := by simp [List.getElem?_take, List.getElem?_drop]
  rw [← this, h3]; rfl
end Go.Vl
end

section
set_option linter.unusedVariables false
set_option linter.unusedSimpArgs false
namespace Go.Vl
open Go.RowKit (Below)
theorem MOk.below {w w' : World} {M : List ME} {F : List Nat} (h : MOk w M F) (hb : Below w.heap.size w w') (hF : ∀ b ∈ F, b < w.heap.size) : MOk w' M F := by
  refine ⟨h.nodup, h.apart, fun m hm => ME.holds_keep (w := w) (N := bl M ++ F) ?_ (fun b hb' => ?_) (h.holds m hm)⟩
  · intro b c T fr hn hc
    exact ⟨hn, (hb.block b (heap_lt hc)).trans hc⟩
  · exact hb.block b (bl_lt h b (List.mem_flatMap.2 ⟨m, hm, hb'⟩))
theorem Fr.below {w w' : World} {N : List Nat} (h : Below w.heap.size w w') : Fr w N w' N :=
  ⟨h.os, h.tape, h.output, h.size, fun k hk hn => ⟨h.block k hk, hn⟩⟩
theorem lit_cell {w : World} {N : List Nat} {v u : Value} (h1 : (AV.lit v).sh = 0) (h3 : RepC w N (.lit v) [u]) : u = v := by
  simp only [RepC] at h3
  have e : v.cells.toList = [v] := by cases v <;> simp_all [AV.sh, shV, Value.cells]
  rw [e] at h3
  exact (List.cons.inj h3).1
end Go.Vl
end

section
set_option linter.unusedVariables false
set_option linter.unusedSimpArgs false
namespace Go.Vl
open Go.RowKit (Below)
/-- a table of small numbers, that nobody turns -/
def tabS (k : IntKind) (g : Nat) (T : TypeId) (zs : List Int) : ME := .shr g T (zs.map fun z => AV.lit (.int k z))
theorem repL_tabK {k : IntKind} {w : World} {N : List Nat} : ∀ {zs : List Int} {row : List Value}, RepL w N (zs.map fun z => AV.lit (.int k z)) row ↔ row = zs.map (Value.int k)
  | [], row => by simp [RepL]
  | z :: zs, row => by
    simp only [List.map_cons, RepL]
    constructor
    · rintro ⟨u, us, rfl, ⟨h1, h2, h3⟩, h4⟩
      rw [lit_cell h1 h3, repL_tabK.1 h4]
    · rintro rfl
      exact ⟨_, _, rfl, ⟨rfl, rfl, by simp only [RepC]; rfl⟩, repL_tabK.2 rfl⟩
theorem laid_tl' {P : Program} {x : String × DataW Unit} {r : List (String × DataW Unit)} {w : World} (h : laidMet P (x :: r) w) : laidMet P r w := by
  obtain ⟨ps, hv, hnd, hrows⟩ := h
  obtain ⟨n, d⟩ := x
  obtain ⟨g, t, cs, fuel, p, q, _, _, _, _, hq, rfl⟩ := hv
  exact ⟨q, hq, List.Nodup.sublist (List.sublist_append_right _ _) hnd, fun b off hm => hrows b off (List.mem_append_right _ hm)⟩
theorem tab_blockK {k : IntKind} {P : Program} {W : World} {name : String} {zs : List Int} {rest : List (String × DataW Unit)} {g : Nat} {t e : TypeId} {n : Nat}
    (hg : P.globalNamed name = some g) (hty : (P.globals[g]?).map (·.type) = some t) (ht : P.underlying t = some (.array n e)) (he : P.underlying e = some (.int k)) (hce : P.cellsOf e = 1) (hct : P.cellsOf t = n)
    (hz : 0 < zs.length) (h : laidMet P ((name, Lib.tabData k zs) :: rest) W) : ∃ T, W.heap[g]? = some (.cells (zs.map (Value.int k)).toArray T (0, 0)) := by
  have htab := Lib.tabIs_of_head hg hty ht he hce hct h
  obtain ⟨ps, ⟨g', t', cs, fuel, p, q, hg', ht', hvar, hd, _, hps⟩, hnd, hrows⟩ := h
  obtain rfl := Option.some.inj (hg.symm.trans hg')
  have hcs : cs = (zs.map (Value.int k)).toArray := Option.some.inj (hvar.symm.trans htab)
  have hsz : 0 < cs.size := by rw [hcs]; simpa using hz
  obtain ⟨⟨c, T, hb⟩, _⟩ := hrows g 0 (by
    rw [hps]
    refine List.mem_append_left _ (List.mem_append_left _ ?_)
    unfold MemPlace.row
    exact List.mem_map.2 ⟨0, List.mem_range.2 hsz, rfl⟩)
  refine ⟨T, ?_⟩
  unfold Lib.TabIs World.var? at htab
  rw [hg, Option.bind_some, hb] at htab
  rw [hb, Option.some.inj htab]
theorem law_callsA {k : IntKind} {P : Program} {f : FuncId} {avs : List AV} {W : World} {vs : List Value} {g : Nat} {T : TypeId} {zs : List Int} (hg : W.heap[g]? = some (.cells (zs.map (Value.int k)).toArray T (0, 0)))
    (h : FnC P f avs [tabS k g T zs] (fun r M => r = .lit (.bool true) ∧ M = [tabS k g T zs])) (ha : RepT W [] avs vs) :
    Calls P f vs.toArray W fun e W' => e = .returned (.bool true) ∧ Below W.heap.size W W' := by
  have hm : MOk W [tabS k g T zs] [] := ⟨by simp [bl, ME.blks, tabS], by simp, fun x hx => by
    rw [List.mem_singleton.1 hx]
    exact ⟨by simp [bl, ME.blks, tabS], _, hg, repL_tabK.2 (by simp)⟩⟩
  refine (h.2 W [] vs (by simp) hm (by simpa [bl, ME.blks, tabS] using ha)).mono ?_
  rintro e W' ⟨v, r, M', rfl, ⟨rfl, rfl⟩, hm', hr, hf⟩
  have hv := Rep.lit_iff.1 hr
  subst hv
  exact ⟨rfl, hf.os, hf.tape, hf.output, hf.size, fun j hj => (hf.block j hj (by simp [bl, ME.blks, tabS])).1⟩
theorem RepE.strsI {w : World} {N : List Nat} : ∀ {l : List (List UInt8)} {row : List Value}, row = (l.map fun s => Value.string ⟨s.toArray⟩) → RepE w N 1 (l.map AV.str) row
  | [], row, _ => by simp only [List.map_nil, RepE]
  | s :: l, row, h => by
    subst h
    simp only [List.map_cons, RepE]
    refine ⟨by simp, ?_, RepE.strsI rfl⟩
    simp only [AV.str, RepC, List.take_succ_cons, List.take_zero]; rfl
/-- a new row of texts, that nothing writes -/
theorem FnC.newStrs {P : Program} {f : FuncId} {args : List AV} {M0 : List ME} {l : List (List UInt8)} {t : TypeId} (hc : CallOk P f) (hlen : l.length ≤ maxLen)
    (h : ∀ (w : World) (F : List Nat) (vs : List Value), MOk w M0 F → RepT w (bl M0 ++ F) args vs → Calls P f vs.toArray w fun e w' => e = .returned (.slice (some ⟨w.heap.size, 0, none⟩) l.length l.length) ∧ w' = w.alloc (.cells (l.map fun s => Value.string ⟨s.toArray⟩).toArray t)) :
    FnC P f args M0 (fun r M => r = .sl 1 (l.map AV.str) ∧ M = M0) := by
  refine ⟨hc, fun w F vs hF hm ha => (h w F vs hm ha).mono fun e w' ⟨he, hw⟩ => ?_⟩
  subst hw
  have hb : Below w.heap.size w (w.alloc (.cells (l.map fun s => Value.string ⟨s.toArray⟩).toArray t)) := (Below.refl _ w).alloc (Nat.le_refl _) _
  refine ⟨_, _, M0, he, ⟨rfl, rfl⟩, hm.below hb hF, ⟨rfl, ?_⟩, Fr.below hb⟩
  simp only [RepC]
  refine ⟨some ⟨w.heap.size, 0, none⟩, l.length, by rw [List.length_map]; rfl, by rw [List.length_map]; exact Nat.le_refl _, hlen, .inr ⟨w.heap.size, 0, _, t, _, rfl, ?_, (show (w.heap.push _)[w.heap.size]? = some _ from Array.getElem?_push_size), ?_⟩⟩
  · intro hn
    rcases List.mem_append.1 hn with hn | hn
    · exact Nat.lt_irrefl _ (bl_lt hm _ hn)
    · exact Nat.lt_irrefl _ (hF _ hn)
  · rw [List.drop_zero]
    exact RepE.strsI (by simp)
end Go.Vl
end
