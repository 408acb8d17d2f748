/-
  Rules that are drawn.
-/
import Derived.Test.YteepllfbnoaiaaaDrawn
import Derived.Test.YteepllfbnoaiaaaBase
set_option linter.unusedVariables false
set_option linter.unusedSimpArgs false
set_option maxRecDepth 100000
namespace Go.Proofs.Yteepllfbnoaiaaa
open Go.Vl

namespace WRulesOf
theorem ty3 : Ty Try.prog 3 1 8 (.int .i64 0) := Ty.of (by kernel_rfl)
theorem ty9 : Ty Try.prog 9 1 16 (.string ⟨#[]⟩) := Ty.of (by kernel_rfl)
theorem ty51 : Ty Try.prog 51 3 40 (.agg #[.string ⟨#[]⟩, .int .i64 0, .string ⟨#[]⟩]) := Ty.of (by kernel_rfl)
theorem ag3 : IsAgg Try.prog 3 false := ⟨_, Try.underlying3, rfl⟩
theorem ag9 : IsAgg Try.prog 9 false := ⟨_, Try.underlying9, rfl⟩
theorem ag51 : IsAgg Try.prog 51 true := ⟨_, Try.underlying51, rfl⟩
theorem fa51_1 : FieldAt Try.prog 51 1 1 1 false := ⟨_, _, Try.underlying51, rfl, rfl, ty3.size, ag3, by decide⟩
theorem fa51_2 : FieldAt Try.prog 51 2 2 1 false := ⟨_, _, Try.underlying51, rfl, rfl, ty9.size, ag9, by decide⟩
theorem st51 : StructAt Try.prog 51 [(0, 1), (1, 1), (2, 1)] := ⟨_, Try.underlying51, rfl, ty9.size, rfl, ty3.size, rfl, ty9.size, trivial⟩
theorem ni46 : NotInt Try.prog 46 := .inl ⟨_, Try.underlying46⟩
theorem nm3 (nm : List UInt8) (hn : nm ∈ Rl.nm6) (s : List UInt8) (h : s ∈ ([nm, [115, 116, 114, 111, 110, 103], [120, 45, 49]] : List (List UInt8))) : nameOk s = true ∧ s.length ≤ 1000 := by
  simp only [List.mem_cons, List.not_mem_nil, or_false] at h
  rcases h with rfl | rfl | rfl
  · have h1 := List.all_eq_true.1 Rl.nm6_ok s hn
    simp only [Bool.and_eq_true, decide_eq_true_eq] at h1
    exact h1
  · exact ⟨by kernel_rfl, by decide⟩
  · exact ⟨by kernel_rfl, by decide⟩
theorem c_RulesOf (l : List Int) (hl : l.length ≤ 1099511627776) : FnC Try.prog 23 [.sl 1 (l.map AV.int)] [] (fun r M => ∃ (v : Value) (rs : List Rl), r = .lit v ∧ M = [.arr v 51 3 (rs.map rav)] ∧ Rl.drawn rs) :=  by
  refine FnC.mk Try.func23 (by kernel_rfl) rfl Try.ntmps23 rfl (fun w0 F => ?_)
  have hll : (l.map AV.int).length = l.length := List.length_map ..
  refine W.seq ?_
  refine W.region ?_
  refine W.q (Ev.assign .k) rfl ?_
  refine W.nil ?_
  refine W.then ?_
  refine W.seq ?_
  refine W.region ?_
  refine W.q (Ev.assign .k) rfl ?_
  refine W.nil ?_
  refine W.then ?_
  refine W.seq ?_
  refine W.region ?_
  refine W.bs (es := [_, _, _, _, _, _]) Try.underlying40 ty9 ⟨rfl, .k, rfl, rfl, rfl, .k, rfl, rfl, rfl, .k, rfl, rfl, rfl, .k, rfl, rfl, rfl, .k, rfl, rfl, rfl, .k, rfl, rfl, trivial⟩ rfl (by decide) rfl rfl ?_
  refine W.q (Ev.assign (.t rfl)) rfl ?_
  refine W.nil ?_
  refine W.then ?_
  refine W.seq ?_
  refine W.seq ?_
  refine W.region ?_
  refine W.q (Ev.assign .k) rfl ?_
  refine W.nil ?_
  refine W.then ?_
  refine W.block ?_
  refine W.own_nil 51 3 ?_
  refine W.loop (D := []) (ι := Nat × List Rl × Value) (fun z => [(5, true, .int (z.1 : Int)), (0, true, .sl 1 (l.map AV.int)), (4, true, .sl 1 (Rl.nm6.map AV.str)), (3, true, .lit z.2.2)]) (fun z => [.arr z.2.2 51 3 (z.2.1.map rav)]) (fun z => z.1 ≤ l.length ∧ z.1 ≤ 6 ∧ z.2.1.map (·.name) = Rl.nm6.take z.1 ∧ ∀ r ∈ z.2.1, r.ok) (fun z => l.length - z.1) (0, [], .slice none 0 0) ⟨rfl, rfl, rfl, rfl, trivial⟩ (.refl _) ⟨Nat.zero_le _, Nat.zero_le _, rfl, by simp⟩ ?_
  rintro ⟨i, rs, v⟩ ⟨hi1, hi2, hi3, hi4⟩
  dsimp only at hi1 hi2 hi3 hi4 ⊢
  have hrsl : rs.length = i := by have h := congrArg List.length hi3; rw [List.length_map, List.length_take] at h; have : Rl.nm6.length = 6 := rfl; omega
  rcases (show (i < l.length ∧ i < 6) ∨ ¬ (i < l.length ∧ i < 6) from by omega) with hlt | hge
  · have hgx : (l.map AV.int)[i]? = some (AV.int (l.getD i 0)) := getD_map l i hlt.1
    generalize hz : l.getD i 0 = x at hgx
    have hgn := getD_mapG AV.str [] Rl.nm6 i hlt.2
    have hnmm := getD_memG [] Rl.nm6 i hlt.2
    have hnt := take_getDG [] Rl.nm6 i hlt.2
    generalize Rl.nm6.getD i [] = nm at hgn hnmm hnt
    have hnmk : nameOk nm = true ∧ nm.length ≤ 1000 := by have h1 := List.all_eq_true.1 Rl.nm6_ok nm hnmm; simp only [Bool.and_eq_true, decide_eq_true_eq] at h1; exact h1
    have hx1 : 1 ≤ 1 + x % 3 := by omega
    have hx3 : 1 + x % 3 ≤ 3 := by omega
    refine W.seq ?_
    refine W.seq ?_
    refine W.region ?_
    refine W.q (Ev.move (.t rfl)) rfl ?_
    refine W.q (Ev.move (.t rfl)) rfl ?_
    first | refine W.q (Ev.lensl (.t rfl) Try.underlying40) rfl ?_ | refine W.q (Ev.lenar (i := 0) (.t rfl) rfl Try.underlying40) rfl ?_ | refine W.q (Ev.lenar (i := 1) (.t rfl) rfl Try.underlying40) rfl ?_ | refine W.q (Ev.lenar (i := 2) (.t rfl) rfl Try.underlying40) rfl ?_ | refine W.q (Ev.lenar (i := 3) (.t rfl) rfl Try.underlying40) rfl ?_
    refine W.q (Ev.lti (.t rfl) (.t rfl)) rfl ?_
    refine W.q (Ev.move (.t rfl)) rfl ?_
    refine W.qgT rfl rfl (Ev.move (.t rfl)) rfl ?_
    refine W.qgT rfl rfl (Ev.move (.t rfl)) rfl ?_
    first | refine W.qgT rfl rfl (Ev.lensl (.c rfl) Try.underlying22) rfl ?_ | refine W.qgT rfl rfl (Ev.lenar (i := 0) (.c rfl) rfl Try.underlying22) rfl ?_ | refine W.qgT rfl rfl (Ev.lenar (i := 1) (.c rfl) rfl Try.underlying22) rfl ?_ | refine W.qgT rfl rfl (Ev.lenar (i := 2) (.c rfl) rfl Try.underlying22) rfl ?_ | refine W.qgT rfl rfl (Ev.lenar (i := 3) (.c rfl) rfl Try.underlying22) rfl ?_
    refine W.qgT rfl rfl (Ev.lti (.c rfl) (.c rfl)) rfl ?_
    refine W.q (Ev.and (.t rfl) ⟨_, _, rfl, rfl, by first | (simp; done) | (intro hg_ hp_; simp [hp_]; done) | (simp <;> omega; done) | (simp_all; done) | grind⟩) rfl ?_
    refine W.nil ?_
    refine W.then ?_
    refine W.is (t := 17) (g := true) (av' := .lit (.bool true)) rfl (congrArg (fun b => AV.lit (.bool b)) (by simp; omega)) ?_
    refine W.condT (.t rfl) ?_
    refine W.skip ?_
    refine W.then ?_
    refine W.seq ?_
    refine W.block ?_
    refine W.seq ?_
    refine W.drawnE (ι := Nat) (fun ee c => bif ee 11 then (.box c 51 (bif ee 12 then [.str nm, .int (1 + x % 3), .lit (.string ⟨#[]⟩)] else [.lit (.string ⟨#[]⟩), .lit (.int .i64 0), .lit (.string ⟨#[]⟩)]) :: [ME.arr v 51 3 (rs.map rav)]) else [ME.arr v 51 3 (rs.map rav)]) 11 0 (by kernel_rfl) (by kernel_rfl) rfl ?_
    refine DE.q (fun e c hk => (Ev.move (.t rfl))) rfl (fun _ _ => rfl) (by first | exact .inr (fun _ _ => rfl) | exact .inl (by kernel_rfl)) ?_
    refine DE.q (fun e c hk => (Ev.move (.t rfl))) rfl (fun _ _ => rfl) (by first | exact .inr (fun _ _ => rfl) | exact .inl (by kernel_rfl)) ?_
    refine DE.q (fun e c hk => Ev.at (E := 9) (.t rfl) (.t rfl) Try.underlying40 ty9 (fun _ => ⟨by omega, hgn⟩) rfl rfl) rfl (fun _ _ => rfl) (by first | exact .inr (fun _ _ => rfl) | exact .inl (by kernel_rfl)) ?_
    first | refine DE.q (fun e c hk => (Ev.lde1 (.t rfl) ag9)) rfl (fun _ _ => rfl) (by first | exact .inr (fun _ _ => rfl) | exact .inl (by kernel_rfl)) ?_ | refine DE.q (fun e c hk => (Ev.ldb1 0 (.t rfl) rfl ag9 rfl)) rfl (fun _ _ => rfl) (by first | exact .inr (fun _ _ => rfl) | exact .inl (by kernel_rfl)) ?_ | refine DE.q (fun e c hk => (Ev.ldb1 1 (.t rfl) rfl ag9 rfl)) rfl (fun _ _ => rfl) (by first | exact .inr (fun _ _ => rfl) | exact .inl (by kernel_rfl)) ?_ | refine DE.q (fun e c hk => (Ev.ldb1 2 (.t rfl) rfl ag9 rfl)) rfl (fun _ _ => rfl) (by first | exact .inr (fun _ _ => rfl) | exact .inl (by kernel_rfl)) ?_ | refine DE.q (fun e c hk => (Ev.ldb1 3 (.t rfl) rfl ag9 rfl)) rfl (fun _ _ => rfl) (by first | exact .inr (fun _ _ => rfl) | exact .inl (by kernel_rfl)) ?_
    refine DE.q (fun e c hk => (Ev.move (.t rfl))) rfl (fun _ _ => rfl) (by first | exact .inr (fun _ _ => rfl) | exact .inl (by kernel_rfl)) ?_
    refine DE.q (fun e c hk => (Ev.move (.t rfl))) rfl (fun _ _ => rfl) (by first | exact .inr (fun _ _ => rfl) | exact .inl (by kernel_rfl)) ?_
    refine DE.q (fun e c hk => Ev.at (E := 3) (.t rfl) (.t rfl) Try.underlying22 ty3 (fun _ => ⟨by omega, hgx⟩) rfl rfl) rfl (fun _ _ => rfl) (by first | exact .inr (fun _ _ => rfl) | exact .inl (by kernel_rfl)) ?_
    first | refine DE.q (fun e c hk => (Ev.lde1 (.t rfl) ag3)) rfl (fun _ _ => rfl) (by first | exact .inr (fun _ _ => rfl) | exact .inl (by kernel_rfl)) ?_ | refine DE.q (fun e c hk => (Ev.ldb1 0 (.t rfl) rfl ag3 rfl)) rfl (fun _ _ => rfl) (by first | exact .inr (fun _ _ => rfl) | exact .inl (by kernel_rfl)) ?_ | refine DE.q (fun e c hk => (Ev.ldb1 1 (.t rfl) rfl ag3 rfl)) rfl (fun _ _ => rfl) (by first | exact .inr (fun _ _ => rfl) | exact .inl (by kernel_rfl)) ?_ | refine DE.q (fun e c hk => (Ev.ldb1 2 (.t rfl) rfl ag3 rfl)) rfl (fun _ _ => rfl) (by first | exact .inr (fun _ _ => rfl) | exact .inl (by kernel_rfl)) ?_ | refine DE.q (fun e c hk => (Ev.ldb1 3 (.t rfl) rfl ag3 rfl)) rfl (fun _ _ => rfl) (by first | exact .inr (fun _ _ => rfl) | exact .inl (by kernel_rfl)) ?_
    refine DE.callp (fun c => Base.c_Picked x 3 (by decide) (by decide)) (fun c => ⟨(.t rfl), .k, trivial⟩) rfl (fun _ _ => rfl) (by first | exact .inr (fun _ _ => rfl) | exact .inl (by kernel_rfl)) ?_
    first | refine DE.q (fun e c hk => (Ev.add .k (.t rfl) (fun _ => by omega))) rfl (fun _ _ => rfl) (by first | exact .inr (fun _ _ => rfl) | exact .inl (by kernel_rfl)) ?_ | refine DE.q (fun e c hk => (Ev.addw .k (.t rfl))) rfl (fun _ _ => rfl) (by first | exact .inr (fun _ _ => rfl) | exact .inl (by kernel_rfl)) ?_
    refine DE.q (fun e c hk => (Ev.build ty51 st51 rfl (fun hg => ⟨_, _, _, rfl, (.t rfl), rfl, rfl, rfl, _, _, _, rfl, (.t rfl), rfl, rfl, rfl, rfl⟩))) rfl (fun _ _ => rfl) (by first | exact .inr (fun _ _ => rfl) | exact .inl (by kernel_rfl)) ?_
    refine DE.eff1 (av := fun b => .lit (.pointer (some ⟨b, 0, none⟩))) rfl rfl (fun e c hk L_ hs Q h => ?_) ?_
    · have hk_11 := hk.not
      have hk_12 := hk.down 12 (by kernel_rfl)
      simp only [addE, hk_11, hk_12, Nat.reduceAdd, Nat.reduceEqDiff, ↓reduceIte, cond_true, cond_false] at h ⊢
      exact W.alloc ty51 rfl rfl h
    refine DE.eff0 (fun e c hk L_ hs Q h => ?_) ?_
    · have hk_12 := hk.not
      have hk_11 := hk.up 11 (by kernel_rfl)
      simp only [addE, hk_12, hk_11, Nat.reduceAdd, Nat.reduceEqDiff, ↓reduceIte, cond_true, cond_false] at h ⊢
      first | (refine W.stb 0 (.t (hs _ _ rfl)) (.t (hs _ _ rfl)) rfl ty51 rfl rfl rfl ?_; exact h) | (refine W.stb 1 (.t (hs _ _ rfl)) (.t (hs _ _ rfl)) rfl ty51 rfl rfl rfl ?_; exact h) | (refine W.stb 2 (.t (hs _ _ rfl)) (.t (hs _ _ rfl)) rfl ty51 rfl rfl rfl ?_; exact h) | (refine W.stb 3 (.t (hs _ _ rfl)) (.t (hs _ _ rfl)) rfl ty51 rfl rfl rfl ?_; exact h)
    refine DE.nil (fun b6 e_ he_ => ?_)
    simp only [he_ 11 (by decide), he_ 12 (by decide), cond_true, cond_false]
    refine W.then ?_
    refine W.seq ?_
    refine W.seq ?_
    refine W.region ?_
    first | refine W.q (Ev.fae (.t rfl) fa51_1 rfl) rfl ?_ | refine W.q (Ev.fab (.t rfl) fa51_1) rfl ?_ | refine W.q (Ev.faa (.t rfl) fa51_1) rfl ?_
    first | refine W.q (Ev.lde1 (.t rfl) ag3) rfl ?_ | refine W.q (Ev.ldb1 0 (.t rfl) rfl ag3 rfl) rfl ?_ | refine W.q (Ev.ldb1 1 (.t rfl) rfl ag3 rfl) rfl ?_ | refine W.q (Ev.ldb1 2 (.t rfl) rfl ag3 rfl) rfl ?_ | refine W.q (Ev.ldb1 3 (.t rfl) rfl ag3 rfl) rfl ?_
    refine W.q (Ev.eqi (.t rfl) .k) rfl ?_
    refine W.nil ?_
    refine W.then ?_
    refine W.cond (.t rfl) (fun hc_t33 => ?_) (fun hc_t33 => ?_)
    · have ha1 : 1 + x % 3 = 1 := beq_iff_eq.1 hc_t33
      obtain ⟨s45, m45, h45⟩ := pick_mod [nm, [115, 116, 114, 111, 110, 103], [120, 45, 49]] (IntKind.i64.wrap (x.tdiv 3)) 3 rfl (by decide)
      have hsk := nm3 nm hnmm s45 m45
      have hnew : Rl.ok ⟨nm, 1 + x % 3, s45⟩ := ⟨hnmk.1, hnmk.2, hx1, hx3, fun _ => hsk.1, hsk.2, fun h => absurd ha1 h⟩
      refine W.drawnE (ι := Unit) (fun ee c => [.box b6 51 (bif ee 14 then [.str nm, .int (1 + x % 3), .str s45] else [.str nm, .int (1 + x % 3), .lit (.string ⟨#[]⟩)]), ME.arr v 51 3 (rs.map rav)]) 15 () (by kernel_rfl) (by kernel_rfl) rfl ?_
      refine DE.q (fun e c hk => (Ev.move (.t rfl))) rfl (fun _ _ => rfl) (by first | exact .inr (fun _ _ => rfl) | exact .inl (by kernel_rfl)) ?_
      refine DE.q (fun e c hk => (Ev.move (.t rfl))) rfl (fun _ _ => rfl) (by first | exact .inr (fun _ _ => rfl) | exact .inl (by kernel_rfl)) ?_
      refine DE.q (fun e c hk => Ev.at (E := 9) (.t rfl) (.t rfl) Try.underlying40 ty9 (fun _ => ⟨by omega, hgn⟩) rfl rfl) rfl (fun _ _ => rfl) (by first | exact .inr (fun _ _ => rfl) | exact .inl (by kernel_rfl)) ?_
      first | refine DE.q (fun e c hk => (Ev.lde1 (.t rfl) ag9)) rfl (fun _ _ => rfl) (by first | exact .inr (fun _ _ => rfl) | exact .inl (by kernel_rfl)) ?_ | refine DE.q (fun e c hk => (Ev.ldb1 0 (.t rfl) rfl ag9 rfl)) rfl (fun _ _ => rfl) (by first | exact .inr (fun _ _ => rfl) | exact .inl (by kernel_rfl)) ?_ | refine DE.q (fun e c hk => (Ev.ldb1 1 (.t rfl) rfl ag9 rfl)) rfl (fun _ _ => rfl) (by first | exact .inr (fun _ _ => rfl) | exact .inl (by kernel_rfl)) ?_ | refine DE.q (fun e c hk => (Ev.ldb1 2 (.t rfl) rfl ag9 rfl)) rfl (fun _ _ => rfl) (by first | exact .inr (fun _ _ => rfl) | exact .inl (by kernel_rfl)) ?_ | refine DE.q (fun e c hk => (Ev.ldb1 3 (.t rfl) rfl ag9 rfl)) rfl (fun _ _ => rfl) (by first | exact .inr (fun _ _ => rfl) | exact .inl (by kernel_rfl)) ?_
      refine DE.bs (es := fun _ => [_, _, _]) Try.underlying40 ty9 (fun c => ⟨rfl, (.t rfl), rfl, rfl, rfl, .k, rfl, rfl, rfl, .k, rfl, rfl, trivial⟩) (fun _ => rfl) (by decide) rfl rfl (fun _ _ => rfl) (by first | exact .inr (fun _ _ => rfl) | exact .inl (by kernel_rfl)) ?_
      refine DE.q (fun e c hk => (Ev.move (.t rfl))) rfl (fun _ _ => rfl) (by first | exact .inr (fun _ _ => rfl) | exact .inl (by kernel_rfl)) ?_
      refine DE.q (fun e c hk => (Ev.move (.t rfl))) rfl (fun _ _ => rfl) (by first | exact .inr (fun _ _ => rfl) | exact .inl (by kernel_rfl)) ?_
      refine DE.q (fun e c hk => Ev.at (E := 3) (.t rfl) (.t rfl) Try.underlying22 ty3 (fun _ => ⟨by omega, hgx⟩) rfl rfl) rfl (fun _ _ => rfl) (by first | exact .inr (fun _ _ => rfl) | exact .inl (by kernel_rfl)) ?_
      first | refine DE.q (fun e c hk => (Ev.lde1 (.t rfl) ag3)) rfl (fun _ _ => rfl) (by first | exact .inr (fun _ _ => rfl) | exact .inl (by kernel_rfl)) ?_ | refine DE.q (fun e c hk => (Ev.ldb1 0 (.t rfl) rfl ag3 rfl)) rfl (fun _ _ => rfl) (by first | exact .inr (fun _ _ => rfl) | exact .inl (by kernel_rfl)) ?_ | refine DE.q (fun e c hk => (Ev.ldb1 1 (.t rfl) rfl ag3 rfl)) rfl (fun _ _ => rfl) (by first | exact .inr (fun _ _ => rfl) | exact .inl (by kernel_rfl)) ?_ | refine DE.q (fun e c hk => (Ev.ldb1 2 (.t rfl) rfl ag3 rfl)) rfl (fun _ _ => rfl) (by first | exact .inr (fun _ _ => rfl) | exact .inl (by kernel_rfl)) ?_ | refine DE.q (fun e c hk => (Ev.ldb1 3 (.t rfl) rfl ag3 rfl)) rfl (fun _ _ => rfl) (by first | exact .inr (fun _ _ => rfl) | exact .inl (by kernel_rfl)) ?_
      first | refine DE.q (fun e c hk => (Ev.quo (.t rfl) .k (fun _ => by decide))) rfl (fun _ _ => rfl) (by first | exact .inr (fun _ _ => rfl) | exact .inl (by kernel_rfl)) ?_ | refine DE.q (fun e c hk => (Ev.quo (.t rfl) .k (fun _ => by omega))) rfl (fun _ _ => rfl) (by first | exact .inr (fun _ _ => rfl) | exact .inl (by kernel_rfl)) ?_
      refine DE.callp (fun c => Base.c_Picked (IntKind.i64.wrap (x.tdiv 3)) 3 (by decide) (by decide)) (fun c => ⟨(.t rfl), .k, trivial⟩) rfl (fun _ _ => rfl) (by first | exact .inr (fun _ _ => rfl) | exact .inl (by kernel_rfl)) ?_
      refine DE.q (fun e c hk => Ev.at (E := 9) (.t rfl) (.t rfl) Try.underlying40 ty9 (fun _ => ⟨Int.emod_nonneg _ (by decide), h45⟩) rfl rfl) rfl (fun _ _ => rfl) (by first | exact .inr (fun _ _ => rfl) | exact .inl (by kernel_rfl)) ?_
      first | refine DE.q (fun e c hk => (Ev.lde1 (.t rfl) ag9)) rfl (fun _ _ => rfl) (by first | exact .inr (fun _ _ => rfl) | exact .inl (by kernel_rfl)) ?_ | refine DE.q (fun e c hk => (Ev.ldb1 0 (.t rfl) rfl ag9 rfl)) rfl (fun _ _ => rfl) (by first | exact .inr (fun _ _ => rfl) | exact .inl (by kernel_rfl)) ?_ | refine DE.q (fun e c hk => (Ev.ldb1 1 (.t rfl) rfl ag9 rfl)) rfl (fun _ _ => rfl) (by first | exact .inr (fun _ _ => rfl) | exact .inl (by kernel_rfl)) ?_ | refine DE.q (fun e c hk => (Ev.ldb1 2 (.t rfl) rfl ag9 rfl)) rfl (fun _ _ => rfl) (by first | exact .inr (fun _ _ => rfl) | exact .inl (by kernel_rfl)) ?_ | refine DE.q (fun e c hk => (Ev.ldb1 3 (.t rfl) rfl ag9 rfl)) rfl (fun _ _ => rfl) (by first | exact .inr (fun _ _ => rfl) | exact .inl (by kernel_rfl)) ?_
      first | refine DE.q (fun e c hk => (Ev.fae (.t rfl) fa51_2 rfl)) rfl (fun _ _ => rfl) (by first | exact .inr (fun _ _ => rfl) | exact .inl (by kernel_rfl)) ?_ | refine DE.q (fun e c hk => (Ev.fab (.t rfl) fa51_2)) rfl (fun _ _ => rfl) (by first | exact .inr (fun _ _ => rfl) | exact .inl (by kernel_rfl)) ?_ | refine DE.q (fun e c hk => (Ev.faa (.t rfl) fa51_2)) rfl (fun _ _ => rfl) (by first | exact .inr (fun _ _ => rfl) | exact .inl (by kernel_rfl)) ?_
      refine DE.eff0 (fun e c hk L_ hs Q h => ?_) ?_
      · have hk_14 := hk.not
        simp only [addE, hk_14, Nat.reduceAdd, Nat.reduceEqDiff, ↓reduceIte, cond_true, cond_false] at h ⊢
        first | (refine W.stb 0 (.t (hs _ _ rfl)) (.t (hs _ _ rfl)) rfl ty9 rfl rfl rfl ?_; exact h) | (refine W.stb 1 (.t (hs _ _ rfl)) (.t (hs _ _ rfl)) rfl ty9 rfl rfl rfl ?_; exact h) | (refine W.stb 2 (.t (hs _ _ rfl)) (.t (hs _ _ rfl)) rfl ty9 rfl rfl rfl ?_; exact h) | (refine W.stb 3 (.t (hs _ _ rfl)) (.t (hs _ _ rfl)) rfl ty9 rfl rfl rfl ?_; exact h)
      refine DE.nil (fun c_ e_ he_ => ?_)
      simp only [he_ 14 (by decide), cond_true, cond_false]
      refine W.then ?_
      refine W.region ?_
      refine W.q (Ev.move (.t rfl)) rfl ?_
      first | refine W.q (Ev.lden (.t rfl) ag51 ty51 rfl rfl) rfl ?_ | refine W.q (Ev.ldbn 0 (.t rfl) rfl ag51 ty51 rfl) rfl ?_ | refine W.q (Ev.ldbn 1 (.t rfl) rfl ag51 ty51 rfl) rfl ?_ | refine W.q (Ev.ldbn 2 (.t rfl) rfl ag51 ty51 rfl) rfl ?_ | refine W.q (Ev.ldbn 3 (.t rfl) rfl ag51 ty51 rfl) rfl ?_
      refine W.bs (es := [_]) Try.underlying46 ty51 ⟨rfl, (.t rfl), rfl, rfl, trivial⟩ rfl (by decide) rfl rfl ?_
      first | refine W.app 0 (.t rfl) rfl (.sl (.t rfl) (by first | (simp [AV.okc, shV]; done) | (intro e he; rw [List.mem_singleton.1 he]; rfl))) Try.underlying46 ni46 ty51 rfl rfl (by simp only [List.length_map, List.length_cons, List.length_nil]; omega) rfl ?_ | refine W.app 1 (.t rfl) rfl (.sl (.t rfl) (by first | (simp [AV.okc, shV]; done) | (intro e he; rw [List.mem_singleton.1 he]; rfl))) Try.underlying46 ni46 ty51 rfl rfl (by simp only [List.length_map, List.length_cons, List.length_nil]; omega) rfl ?_ | refine W.app 2 (.t rfl) rfl (.sl (.t rfl) (by first | (simp [AV.okc, shV]; done) | (intro e he; rw [List.mem_singleton.1 he]; rfl))) Try.underlying46 ni46 ty51 rfl rfl (by simp only [List.length_map, List.length_cons, List.length_nil]; omega) rfl ?_ | refine W.app 3 (.t rfl) rfl (.sl (.t rfl) (by first | (simp [AV.okc, shV]; done) | (intro e he; rw [List.mem_singleton.1 he]; rfl))) Try.underlying46 ni46 ty51 rfl rfl (by simp only [List.length_map, List.length_cons, List.length_nil]; omega) rfl ?_ | refine W.app 0 (.t rfl) rfl (.arr 0 (.t rfl) rfl (by first | (simp [AV.okc, shV]; done) | (intro e he; rw [List.mem_singleton.1 he]; rfl))) Try.underlying46 ni46 ty51 rfl rfl (by simp only [List.length_map, List.length_cons, List.length_nil]; omega) rfl ?_ | refine W.app 0 (.t rfl) rfl (.arr 1 (.t rfl) rfl (by first | (simp [AV.okc, shV]; done) | (intro e he; rw [List.mem_singleton.1 he]; rfl))) Try.underlying46 ni46 ty51 rfl rfl (by simp only [List.length_map, List.length_cons, List.length_nil]; omega) rfl ?_ | refine W.app 0 (.t rfl) rfl (.arr 2 (.t rfl) rfl (by first | (simp [AV.okc, shV]; done) | (intro e he; rw [List.mem_singleton.1 he]; rfl))) Try.underlying46 ni46 ty51 rfl rfl (by simp only [List.length_map, List.length_cons, List.length_nil]; omega) rfl ?_ | refine W.app 0 (.t rfl) rfl (.arr 3 (.t rfl) rfl (by first | (simp [AV.okc, shV]; done) | (intro e he; rw [List.mem_singleton.1 he]; rfl))) Try.underlying46 ni46 ty51 rfl rfl (by simp only [List.length_map, List.length_cons, List.length_nil]; omega) rfl ?_ | refine W.app 1 (.t rfl) rfl (.arr 0 (.t rfl) rfl (by first | (simp [AV.okc, shV]; done) | (intro e he; rw [List.mem_singleton.1 he]; rfl))) Try.underlying46 ni46 ty51 rfl rfl (by simp only [List.length_map, List.length_cons, List.length_nil]; omega) rfl ?_ | refine W.app 1 (.t rfl) rfl (.arr 1 (.t rfl) rfl (by first | (simp [AV.okc, shV]; done) | (intro e he; rw [List.mem_singleton.1 he]; rfl))) Try.underlying46 ni46 ty51 rfl rfl (by simp only [List.length_map, List.length_cons, List.length_nil]; omega) rfl ?_ | refine W.app 1 (.t rfl) rfl (.arr 2 (.t rfl) rfl (by first | (simp [AV.okc, shV]; done) | (intro e he; rw [List.mem_singleton.1 he]; rfl))) Try.underlying46 ni46 ty51 rfl rfl (by simp only [List.length_map, List.length_cons, List.length_nil]; omega) rfl ?_ | refine W.app 1 (.t rfl) rfl (.arr 3 (.t rfl) rfl (by first | (simp [AV.okc, shV]; done) | (intro e he; rw [List.mem_singleton.1 he]; rfl))) Try.underlying46 ni46 ty51 rfl rfl (by simp only [List.length_map, List.length_cons, List.length_nil]; omega) rfl ?_ | refine W.app 2 (.t rfl) rfl (.arr 0 (.t rfl) rfl (by first | (simp [AV.okc, shV]; done) | (intro e he; rw [List.mem_singleton.1 he]; rfl))) Try.underlying46 ni46 ty51 rfl rfl (by simp only [List.length_map, List.length_cons, List.length_nil]; omega) rfl ?_ | refine W.app 2 (.t rfl) rfl (.arr 1 (.t rfl) rfl (by first | (simp [AV.okc, shV]; done) | (intro e he; rw [List.mem_singleton.1 he]; rfl))) Try.underlying46 ni46 ty51 rfl rfl (by simp only [List.length_map, List.length_cons, List.length_nil]; omega) rfl ?_ | refine W.app 2 (.t rfl) rfl (.arr 2 (.t rfl) rfl (by first | (simp [AV.okc, shV]; done) | (intro e he; rw [List.mem_singleton.1 he]; rfl))) Try.underlying46 ni46 ty51 rfl rfl (by simp only [List.length_map, List.length_cons, List.length_nil]; omega) rfl ?_ | refine W.app 2 (.t rfl) rfl (.arr 3 (.t rfl) rfl (by first | (simp [AV.okc, shV]; done) | (intro e he; rw [List.mem_singleton.1 he]; rfl))) Try.underlying46 ni46 ty51 rfl rfl (by simp only [List.length_map, List.length_cons, List.length_nil]; omega) rfl ?_ | refine W.app 3 (.t rfl) rfl (.arr 0 (.t rfl) rfl (by first | (simp [AV.okc, shV]; done) | (intro e he; rw [List.mem_singleton.1 he]; rfl))) Try.underlying46 ni46 ty51 rfl rfl (by simp only [List.length_map, List.length_cons, List.length_nil]; omega) rfl ?_ | refine W.app 3 (.t rfl) rfl (.arr 1 (.t rfl) rfl (by first | (simp [AV.okc, shV]; done) | (intro e he; rw [List.mem_singleton.1 he]; rfl))) Try.underlying46 ni46 ty51 rfl rfl (by simp only [List.length_map, List.length_cons, List.length_nil]; omega) rfl ?_ | refine W.app 3 (.t rfl) rfl (.arr 2 (.t rfl) rfl (by first | (simp [AV.okc, shV]; done) | (intro e he; rw [List.mem_singleton.1 he]; rfl))) Try.underlying46 ni46 ty51 rfl rfl (by simp only [List.length_map, List.length_cons, List.length_nil]; omega) rfl ?_ | refine W.app 3 (.t rfl) rfl (.arr 3 (.t rfl) rfl (by first | (simp [AV.okc, shV]; done) | (intro e he; rw [List.mem_singleton.1 he]; rfl))) Try.underlying46 ni46 ty51 rfl rfl (by simp only [List.length_map, List.length_cons, List.length_nil]; omega) rfl ?_
      intro v51
      refine W.q (Ev.assign (.t rfl)) rfl ?_
      refine W.nil ?_
      refine W.blk_normal ?_
      refine W.then ?_
      refine W.region ?_
      refine W.q (Ev.move (.t rfl)) rfl ?_
      first | refine W.q (Ev.add (.t rfl) .k (fun _ => by omega)) rfl ?_ | refine W.q (Ev.addw (.t rfl) .k) rfl ?_
      refine W.q (Ev.assign (.t rfl)) rfl ?_
      refine W.nil ?_
      refine W.then ?_
      have hmm : ∀ t, (rs ++ [Rl.mk nm (1 + x % 3) t]).map (·.name) = Rl.nm6.take (i + 1) := fun t => by rw [List.map_append, hi3, hnt]; rfl
      first
      | (refine W.reach (D := [_]) (i + 1, rs ++ [⟨nm, 1 + x % 3, s45⟩], v51) ⟨rfl, rfl, rfl, rfl, trivial⟩ (by rw [List.map_append]; exact List.Perm.swap _ _ []) ⟨⟨by show i + 1 ≤ _; omega, by show i + 1 ≤ _; omega, hmm _, by intro r hr; rcases List.mem_append.1 hr with hr | hr; exact hi4 r hr; rw [List.mem_singleton.1 hr]; exact hnew⟩, by show _ - (i + 1) < _; omega⟩)
      | (refine W.reach (D := [_]) (i + 1, rs ++ [⟨nm, 1 + x % 3, []⟩], v51) ⟨rfl, rfl, rfl, rfl, trivial⟩ (by rw [List.map_append]; exact List.Perm.swap _ _ []) ⟨⟨by show i + 1 ≤ _; omega, by show i + 1 ≤ _; omega, hmm _, by intro r hr; rcases List.mem_append.1 hr with hr | hr; exact hi4 r hr; rw [List.mem_singleton.1 hr]; exact hnew⟩, by show _ - (i + 1) < _; omega⟩)
    · have ha1 : 1 + x % 3 ≠ 1 := beq_eq_false_iff_ne.1 hc_t33
      have hnew : Rl.ok ⟨nm, 1 + x % 3, []⟩ := ⟨hnmk.1, hnmk.2, hx1, hx3, fun h => absurd h ha1, Nat.zero_le _, fun _ => rfl⟩
      refine W.skip ?_
      refine W.then ?_
      refine W.region ?_
      refine W.q (Ev.move (.t rfl)) rfl ?_
      first | refine W.q (Ev.lden (.t rfl) ag51 ty51 rfl rfl) rfl ?_ | refine W.q (Ev.ldbn 0 (.t rfl) rfl ag51 ty51 rfl) rfl ?_ | refine W.q (Ev.ldbn 1 (.t rfl) rfl ag51 ty51 rfl) rfl ?_ | refine W.q (Ev.ldbn 2 (.t rfl) rfl ag51 ty51 rfl) rfl ?_ | refine W.q (Ev.ldbn 3 (.t rfl) rfl ag51 ty51 rfl) rfl ?_
      refine W.bs (es := [_]) Try.underlying46 ty51 ⟨rfl, (.t rfl), rfl, rfl, trivial⟩ rfl (by decide) rfl rfl ?_
      first | refine W.app 0 (.t rfl) rfl (.sl (.t rfl) (by first | (simp [AV.okc, shV]; done) | (intro e he; rw [List.mem_singleton.1 he]; rfl))) Try.underlying46 ni46 ty51 rfl rfl (by simp only [List.length_map, List.length_cons, List.length_nil]; omega) rfl ?_ | refine W.app 1 (.t rfl) rfl (.sl (.t rfl) (by first | (simp [AV.okc, shV]; done) | (intro e he; rw [List.mem_singleton.1 he]; rfl))) Try.underlying46 ni46 ty51 rfl rfl (by simp only [List.length_map, List.length_cons, List.length_nil]; omega) rfl ?_ | refine W.app 2 (.t rfl) rfl (.sl (.t rfl) (by first | (simp [AV.okc, shV]; done) | (intro e he; rw [List.mem_singleton.1 he]; rfl))) Try.underlying46 ni46 ty51 rfl rfl (by simp only [List.length_map, List.length_cons, List.length_nil]; omega) rfl ?_ | refine W.app 3 (.t rfl) rfl (.sl (.t rfl) (by first | (simp [AV.okc, shV]; done) | (intro e he; rw [List.mem_singleton.1 he]; rfl))) Try.underlying46 ni46 ty51 rfl rfl (by simp only [List.length_map, List.length_cons, List.length_nil]; omega) rfl ?_ | refine W.app 0 (.t rfl) rfl (.arr 0 (.t rfl) rfl (by first | (simp [AV.okc, shV]; done) | (intro e he; rw [List.mem_singleton.1 he]; rfl))) Try.underlying46 ni46 ty51 rfl rfl (by simp only [List.length_map, List.length_cons, List.length_nil]; omega) rfl ?_ | refine W.app 0 (.t rfl) rfl (.arr 1 (.t rfl) rfl (by first | (simp [AV.okc, shV]; done) | (intro e he; rw [List.mem_singleton.1 he]; rfl))) Try.underlying46 ni46 ty51 rfl rfl (by simp only [List.length_map, List.length_cons, List.length_nil]; omega) rfl ?_ | refine W.app 0 (.t rfl) rfl (.arr 2 (.t rfl) rfl (by first | (simp [AV.okc, shV]; done) | (intro e he; rw [List.mem_singleton.1 he]; rfl))) Try.underlying46 ni46 ty51 rfl rfl (by simp only [List.length_map, List.length_cons, List.length_nil]; omega) rfl ?_ | refine W.app 0 (.t rfl) rfl (.arr 3 (.t rfl) rfl (by first | (simp [AV.okc, shV]; done) | (intro e he; rw [List.mem_singleton.1 he]; rfl))) Try.underlying46 ni46 ty51 rfl rfl (by simp only [List.length_map, List.length_cons, List.length_nil]; omega) rfl ?_ | refine W.app 1 (.t rfl) rfl (.arr 0 (.t rfl) rfl (by first | (simp [AV.okc, shV]; done) | (intro e he; rw [List.mem_singleton.1 he]; rfl))) Try.underlying46 ni46 ty51 rfl rfl (by simp only [List.length_map, List.length_cons, List.length_nil]; omega) rfl ?_ | refine W.app 1 (.t rfl) rfl (.arr 1 (.t rfl) rfl (by first | (simp [AV.okc, shV]; done) | (intro e he; rw [List.mem_singleton.1 he]; rfl))) Try.underlying46 ni46 ty51 rfl rfl (by simp only [List.length_map, List.length_cons, List.length_nil]; omega) rfl ?_ | refine W.app 1 (.t rfl) rfl (.arr 2 (.t rfl) rfl (by first | (simp [AV.okc, shV]; done) | (intro e he; rw [List.mem_singleton.1 he]; rfl))) Try.underlying46 ni46 ty51 rfl rfl (by simp only [List.length_map, List.length_cons, List.length_nil]; omega) rfl ?_ | refine W.app 1 (.t rfl) rfl (.arr 3 (.t rfl) rfl (by first | (simp [AV.okc, shV]; done) | (intro e he; rw [List.mem_singleton.1 he]; rfl))) Try.underlying46 ni46 ty51 rfl rfl (by simp only [List.length_map, List.length_cons, List.length_nil]; omega) rfl ?_ | refine W.app 2 (.t rfl) rfl (.arr 0 (.t rfl) rfl (by first | (simp [AV.okc, shV]; done) | (intro e he; rw [List.mem_singleton.1 he]; rfl))) Try.underlying46 ni46 ty51 rfl rfl (by simp only [List.length_map, List.length_cons, List.length_nil]; omega) rfl ?_ | refine W.app 2 (.t rfl) rfl (.arr 1 (.t rfl) rfl (by first | (simp [AV.okc, shV]; done) | (intro e he; rw [List.mem_singleton.1 he]; rfl))) Try.underlying46 ni46 ty51 rfl rfl (by simp only [List.length_map, List.length_cons, List.length_nil]; omega) rfl ?_ | refine W.app 2 (.t rfl) rfl (.arr 2 (.t rfl) rfl (by first | (simp [AV.okc, shV]; done) | (intro e he; rw [List.mem_singleton.1 he]; rfl))) Try.underlying46 ni46 ty51 rfl rfl (by simp only [List.length_map, List.length_cons, List.length_nil]; omega) rfl ?_ | refine W.app 2 (.t rfl) rfl (.arr 3 (.t rfl) rfl (by first | (simp [AV.okc, shV]; done) | (intro e he; rw [List.mem_singleton.1 he]; rfl))) Try.underlying46 ni46 ty51 rfl rfl (by simp only [List.length_map, List.length_cons, List.length_nil]; omega) rfl ?_ | refine W.app 3 (.t rfl) rfl (.arr 0 (.t rfl) rfl (by first | (simp [AV.okc, shV]; done) | (intro e he; rw [List.mem_singleton.1 he]; rfl))) Try.underlying46 ni46 ty51 rfl rfl (by simp only [List.length_map, List.length_cons, List.length_nil]; omega) rfl ?_ | refine W.app 3 (.t rfl) rfl (.arr 1 (.t rfl) rfl (by first | (simp [AV.okc, shV]; done) | (intro e he; rw [List.mem_singleton.1 he]; rfl))) Try.underlying46 ni46 ty51 rfl rfl (by simp only [List.length_map, List.length_cons, List.length_nil]; omega) rfl ?_ | refine W.app 3 (.t rfl) rfl (.arr 2 (.t rfl) rfl (by first | (simp [AV.okc, shV]; done) | (intro e he; rw [List.mem_singleton.1 he]; rfl))) Try.underlying46 ni46 ty51 rfl rfl (by simp only [List.length_map, List.length_cons, List.length_nil]; omega) rfl ?_ | refine W.app 3 (.t rfl) rfl (.arr 3 (.t rfl) rfl (by first | (simp [AV.okc, shV]; done) | (intro e he; rw [List.mem_singleton.1 he]; rfl))) Try.underlying46 ni46 ty51 rfl rfl (by simp only [List.length_map, List.length_cons, List.length_nil]; omega) rfl ?_
      intro v51
      refine W.q (Ev.assign (.t rfl)) rfl ?_
      refine W.nil ?_
      refine W.blk_normal ?_
      refine W.then ?_
      refine W.region ?_
      refine W.q (Ev.move (.t rfl)) rfl ?_
      first | refine W.q (Ev.add (.t rfl) .k (fun _ => by omega)) rfl ?_ | refine W.q (Ev.addw (.t rfl) .k) rfl ?_
      refine W.q (Ev.assign (.t rfl)) rfl ?_
      refine W.nil ?_
      refine W.then ?_
      have hmm : ∀ t, (rs ++ [Rl.mk nm (1 + x % 3) t]).map (·.name) = Rl.nm6.take (i + 1) := fun t => by rw [List.map_append, hi3, hnt]; rfl
      first
      | (refine W.reach (D := [_]) (i + 1, rs ++ [⟨nm, 1 + x % 3, s45⟩], v51) ⟨rfl, rfl, rfl, rfl, trivial⟩ (by rw [List.map_append]; exact List.Perm.swap _ _ []) ⟨⟨by show i + 1 ≤ _; omega, by show i + 1 ≤ _; omega, hmm _, by intro r hr; rcases List.mem_append.1 hr with hr | hr; exact hi4 r hr; rw [List.mem_singleton.1 hr]; exact hnew⟩, by show _ - (i + 1) < _; omega⟩)
      | (refine W.reach (D := [_]) (i + 1, rs ++ [⟨nm, 1 + x % 3, []⟩], v51) ⟨rfl, rfl, rfl, rfl, trivial⟩ (by rw [List.map_append]; exact List.Perm.swap _ _ []) ⟨⟨by show i + 1 ≤ _; omega, by show i + 1 ≤ _; omega, hmm _, by intro r hr; rcases List.mem_append.1 hr with hr | hr; exact hi4 r hr; rw [List.mem_singleton.1 hr]; exact hnew⟩, by show _ - (i + 1) < _; omega⟩)
  · skip
    refine W.seq ?_
    refine W.seq ?_
    refine W.region ?_
    refine W.q (Ev.move (.t rfl)) rfl ?_
    refine W.q (Ev.move (.t rfl)) rfl ?_
    first | refine W.q (Ev.lensl (.t rfl) Try.underlying40) rfl ?_ | refine W.q (Ev.lenar (i := 0) (.t rfl) rfl Try.underlying40) rfl ?_ | refine W.q (Ev.lenar (i := 1) (.t rfl) rfl Try.underlying40) rfl ?_ | refine W.q (Ev.lenar (i := 2) (.t rfl) rfl Try.underlying40) rfl ?_ | refine W.q (Ev.lenar (i := 3) (.t rfl) rfl Try.underlying40) rfl ?_
    refine W.q (Ev.lti (.t rfl) (.t rfl)) rfl ?_
    refine W.q (Ev.move (.t rfl)) rfl ?_
    refine W.qgT rfl rfl (Ev.move (.t rfl)) rfl ?_
    refine W.qgT rfl rfl (Ev.move (.t rfl)) rfl ?_
    first | refine W.qgT rfl rfl (Ev.lensl (.c rfl) Try.underlying22) rfl ?_ | refine W.qgT rfl rfl (Ev.lenar (i := 0) (.c rfl) rfl Try.underlying22) rfl ?_ | refine W.qgT rfl rfl (Ev.lenar (i := 1) (.c rfl) rfl Try.underlying22) rfl ?_ | refine W.qgT rfl rfl (Ev.lenar (i := 2) (.c rfl) rfl Try.underlying22) rfl ?_ | refine W.qgT rfl rfl (Ev.lenar (i := 3) (.c rfl) rfl Try.underlying22) rfl ?_
    refine W.qgT rfl rfl (Ev.lti (.c rfl) (.c rfl)) rfl ?_
    refine W.q (Ev.and (.t rfl) ⟨_, _, rfl, rfl, by first | (simp; done) | (intro hg_ hp_; simp [hp_]; done) | (simp <;> omega; done) | (simp_all; done) | grind⟩) rfl ?_
    refine W.nil ?_
    refine W.then ?_
    refine W.is (t := 17) (g := true) (av' := .lit (.bool false)) rfl (congrArg (fun b => AV.lit (.bool b)) (by simp; omega)) ?_
    refine W.condF (.t rfl) ?_
    refine W.exit ?_
    refine W.then_exit ?_
    refine W.then_exit ?_
    refine W.blk_hit ?_
    refine W.then ?_
    refine W.seq ?_
    refine W.region ?_
    refine W.q (Ev.move (.t rfl)) rfl ?_
    refine W.q (Ev.assign (.t rfl)) rfl ?_
    refine W.nil ?_
    refine W.then ?_
    refine W.ret ?_
    refine W.retn (M' := [.arr v 51 3 _]) (rs := [.tmp 2]) (avs := [_]) Try.results23 ⟨rfl, trivial⟩ rfl (.refl _) ?_
    exact ⟨v, rs, rfl, rfl, by rw [hrsl]; exact hi3, hi4⟩

end WRulesOf

end Go.Proofs.Yteepllfbnoaiaaa
