/-
  Selectors that are drawn.
-/
import Derived.Test.YteepllfbnoaiaaaWFind
import Derived.Test.YteepllfbnoaiaaaWCopied
import Derived.Test.YteepllfbnoaiaaaWLet
set_option linter.unusedVariables false
set_option linter.unusedSimpArgs false
set_option maxRecDepth 100000
namespace Go.Proofs.Yteepllfbnoaiaaa
open Go.Vl

namespace WPicks
theorem ty3 : Ty Try.prog 3 1 8 (.int .i64 0) := Ty.of (by kernel_rfl)
theorem ty4 : Ty Try.prog 4 1 1 (.bool false) := Ty.of (by kernel_rfl)
theorem ty9 : Ty Try.prog 9 1 16 (.string ⟨#[]⟩) := Ty.of (by kernel_rfl)
theorem ty22 : Ty Try.prog 22 1 24 (.slice none 0 0) := Ty.of (by kernel_rfl)
theorem ty25 : Ty Try.prog 25 1 24 (.slice none 0 0) := Ty.of (by kernel_rfl)
theorem ty32 : Ty Try.prog 32 3 40 (.agg #[.string ⟨#[]⟩, .string ⟨#[]⟩, .bool false]) := Ty.of (by kernel_rfl)
theorem ty33 : Ty Try.prog 33 1 24 (.slice none 0 0) := Ty.of (by kernel_rfl)
theorem ty35 : Ty Try.prog 35 4 80 (.agg #[.string ⟨#[]⟩, .slice none 0 0, .string ⟨#[]⟩, .slice none 0 0]) := Ty.of (by kernel_rfl)
theorem ag3 : IsAgg Try.prog 3 false := ⟨_, Try.underlying3, rfl⟩
theorem ag9 : IsAgg Try.prog 9 false := ⟨_, Try.underlying9, rfl⟩
theorem ag22 : IsAgg Try.prog 22 false := ⟨_, Try.underlying22, rfl⟩
theorem ag32 : IsAgg Try.prog 32 true := ⟨_, Try.underlying32, rfl⟩
theorem st32 : StructAt Try.prog 32 [(0, 1), (1, 1), (2, 1)] := ⟨_, Try.underlying32, rfl, ty9.size, rfl, ty9.size, rfl, ty4.size, trivial⟩
theorem st35 : StructAt Try.prog 35 [(0, 1), (1, 1), (2, 1), (3, 1)] := ⟨_, Try.underlying35, rfl, ty9.size, rfl, ty33.size, rfl, ty9.size, rfl, ty25.size, trivial⟩
theorem ni23 : NotInt Try.prog 23 := .inl ⟨_, Try.underlying23⟩
theorem names5 : ([[], [100, 105, 118], [98], [112], [101, 109]] : List (List UInt8)).all (fun s => decide (s.length ≤ 1000) && !(Pk.oddS s)) = true := by kernel_rfl
theorem names3 : ([[], [], [104, 114, 101, 102]] : List (List UInt8)).all (fun s => decide (s.length ≤ 1000) && !(Pk.oddS s)) = true := by kernel_rfl
theorem ok_of (s t : List UInt8) (b : Bool) (hs : s ∈ ([[], [100, 105, 118], [98], [112], [101, 109]] : List (List UInt8))) (ht : t ∈ ([[], [], [104, 114, 101, 102]] : List (List UInt8))) : (Pk.mk s t b).ok := by
  have h1 := List.all_eq_true.1 names5 s hs
  have h2 := List.all_eq_true.1 names3 t ht
  simp only [Bool.and_eq_true, decide_eq_true_eq, Bool.not_eq_true'] at h1 h2
  exact ⟨h1.1, h2.1, by rw [Pk.odd, h1.2, h2.2]; rfl⟩
theorem ok_dfl : Pk.dfl.ok := ok_of [] [] false (by simp) (by simp)
theorem c_Picks (l : List Int) (hl : l.length ≤ 1099511627776) (n : Nat) (hn0 : 0 < n) (hn : n ≤ 1000) : FnC Try.prog 14 [.sl 1 (l.map AV.int), .int (n : Int)] [] (fun r M => ∃ (v : Value) (ps : List Pk), r = .lit v ∧ M = [.arr v 32 3 (ps.map kav)] ∧ 0 < ps.length ∧ ps.length ≤ n ∧ ∀ p ∈ ps, p.ok) :=  by
  refine FnC.mk Try.func14 (by kernel_rfl) rfl Try.ntmps14 rfl (fun w0 F => ?_)
  have hll : (l.map AV.int).length = l.length := List.length_map ..
  refine W.seq ?_
  refine W.region ?_
  refine W.q (Ev.assign .k) rfl ?_
  refine W.nil ?_
  refine W.then ?_
  refine W.seq ?_
  refine W.region ?_
  refine W.q (Ev.build ty32 st32 rfl (fun hg => ⟨_, _, _, rfl, .k, rfl, rfl, rfl, _, _, _, rfl, .k, rfl, rfl, rfl, rfl⟩)) rfl ?_
  refine W.bso (es := [_]) Try.underlying23 ty32 ⟨rfl, (.t rfl), rfl, rfl, trivial⟩ rfl (by decide) rfl rfl ?_
  intro v9
  refine W.q (Ev.assign (.t rfl)) rfl ?_
  refine W.nil ?_
  refine W.then ?_
  refine W.seq ?_
  refine W.seq ?_
  refine W.region ?_
  refine W.q (Ev.assign .k) rfl ?_
  refine W.nil ?_
  refine W.then ?_
  refine W.block ?_
  refine W.loop (D := []) (ι := Nat × List Pk × Value) (fun z => [(6, true, .int (z.1 : Int)), (0, true, .sl 1 (l.map AV.int)), (1, true, .int (n : Int)), (5, true, .lit z.2.2)]) (fun z => [.arr z.2.2 32 3 (z.2.1.map kav)]) (fun z => z.1 ≤ l.length ∧ z.1 ≤ n ∧ (z.1 = 0 → z.2.1.length = 1) ∧ (0 < z.1 → z.2.1.length = z.1) ∧ ∀ p ∈ z.2.1, p.ok) (fun z => l.length - z.1) (0, [⟨[98], [], true⟩], v9) ⟨rfl, rfl, rfl, rfl, trivial⟩ (.refl _) ⟨Nat.zero_le _, Nat.zero_le _, fun _ => rfl, fun h => absurd h (Nat.lt_irrefl _), fun p hp => by rw [List.mem_singleton.1 hp]; exact ok_of [98] [] true (by simp) (by simp)⟩ ?_
  rintro ⟨i, ps, v⟩ ⟨hi1, hi2, hi3, hi4, hi5⟩
  dsimp only at hi1 hi2 hi3 hi4 hi5 ⊢
  rcases (show (i < l.length ∧ i < n) ∨ ¬ (i < l.length ∧ i < n) from by omega) with hlt | hge
  · have hgi : (l.map AV.int)[i]? = some (AV.int (l.getD i 0)) := getD_map l i hlt.1
    generalize hz : l.getD i 0 = x at hgi
    have hpl : (ps.map kav).length = ps.length := List.length_map ..
    obtain ⟨s28, m28, h28⟩ := pick_mod [[], [100, 105, 118], [98], [112], [101, 109]] x 5 rfl (by decide)
    obtain ⟨s37, m37, h37⟩ := pick_mod [[], [], [104, 114, 101, 102]] (IntKind.i64.wrap (x.tdiv 5)) 3 rfl (by decide)
    refine W.seq ?_
    refine W.seq ?_
    refine W.region ?_
    refine W.q (Ev.move (.t rfl)) rfl ?_
    refine W.q (Ev.move (.t rfl)) rfl ?_
    first | refine W.q (Ev.lensl (.t rfl) Try.underlying22) rfl ?_ | refine W.q (Ev.lenar (i := 0) (.t rfl) rfl Try.underlying22) rfl ?_ | refine W.q (Ev.lenar (i := 1) (.t rfl) rfl Try.underlying22) rfl ?_ | refine W.q (Ev.lenar (i := 2) (.t rfl) rfl Try.underlying22) rfl ?_ | refine W.q (Ev.lenar (i := 3) (.t rfl) rfl Try.underlying22) rfl ?_
    refine W.q (Ev.lti (.t rfl) (.t rfl)) rfl ?_
    refine W.q (Ev.move (.t rfl)) rfl ?_
    refine W.qgT rfl rfl (Ev.move (.t rfl)) rfl ?_
    refine W.qgT rfl rfl (Ev.move (.t rfl)) rfl ?_
    refine W.qgT rfl rfl (Ev.lti (.c rfl) (.c rfl)) rfl ?_
    refine W.q (Ev.and (.t rfl) ⟨_, _, rfl, rfl, by first | (simp; done) | (intro hg_ hp_; simp [hp_]; done) | (simp <;> omega; done) | (simp_all; done) | grind⟩) rfl ?_
    refine W.nil ?_
    refine W.then ?_
    refine W.is (t := 18) (g := true) (av' := .lit (.bool true)) rfl (congrArg (fun b => AV.lit (.bool b)) (by simp; omega)) ?_
    refine W.condT (.t rfl) ?_
    refine W.skip ?_
    refine W.then ?_
    refine W.seq ?_
    refine W.block ?_
    refine W.seq ?_
    refine W.drawnE (ι := Nat) (fun ee c => bif ee 29 then (.box c 32 (bif ee 30 then [.str s28, .str s37, .bool ((i : Int) == 0 || IntKind.i64.wrap (x.tdiv 15) % 2 == 0)] else [.lit (.string ⟨#[]⟩), .lit (.string ⟨#[]⟩), .lit (.bool false)]) :: [(.arr v 32 3 (ps.map kav))]) else [(.arr v 32 3 (ps.map kav))]) 29 0 (by kernel_rfl) (by kernel_rfl) rfl ?_
    refine DE.bs (es := fun _ => [_, _, _, _, _]) Try.underlying40 ty9 (fun c => ⟨rfl, .k, rfl, rfl, rfl, .k, rfl, rfl, rfl, .k, rfl, rfl, rfl, .k, rfl, rfl, rfl, .k, rfl, rfl, trivial⟩) (fun _ => rfl) (by decide) rfl rfl (fun _ _ => rfl) (by first | exact .inr (fun _ _ => rfl) | exact .inl (by kernel_rfl)) ?_
    refine DE.q (fun e c hk => (Ev.move (.t rfl))) rfl (fun _ _ => rfl) (by first | exact .inr (fun _ _ => rfl) | exact .inl (by kernel_rfl)) ?_
    refine DE.q (fun e c hk => (Ev.move (.t rfl))) rfl (fun _ _ => rfl) (by first | exact .inr (fun _ _ => rfl) | exact .inl (by kernel_rfl)) ?_
    refine DE.q (fun e c hk => Ev.at (E := 3) (.t rfl) (.t rfl) Try.underlying22 ty3 (fun _ => ⟨by omega, hgi⟩) rfl rfl) rfl (fun _ _ => rfl) (by first | exact .inr (fun _ _ => rfl) | exact .inl (by kernel_rfl)) ?_
    first | refine DE.q (fun e c hk => (Ev.lde1 (.t rfl) ag3)) rfl (fun _ _ => rfl) (by first | exact .inr (fun _ _ => rfl) | exact .inl (by kernel_rfl)) ?_ | refine DE.q (fun e c hk => (Ev.ldb1 0 (.t rfl) rfl ag3 rfl)) rfl (fun _ _ => rfl) (by first | exact .inr (fun _ _ => rfl) | exact .inl (by kernel_rfl)) ?_ | refine DE.q (fun e c hk => (Ev.ldb1 1 (.t rfl) rfl ag3 rfl)) rfl (fun _ _ => rfl) (by first | exact .inr (fun _ _ => rfl) | exact .inl (by kernel_rfl)) ?_ | refine DE.q (fun e c hk => (Ev.ldb1 2 (.t rfl) rfl ag3 rfl)) rfl (fun _ _ => rfl) (by first | exact .inr (fun _ _ => rfl) | exact .inl (by kernel_rfl)) ?_ | refine DE.q (fun e c hk => (Ev.ldb1 3 (.t rfl) rfl ag3 rfl)) rfl (fun _ _ => rfl) (by first | exact .inr (fun _ _ => rfl) | exact .inl (by kernel_rfl)) ?_
    refine DE.callp (fun c => Base.c_Picked x 5 (by decide) (by decide)) (fun c => ⟨(.t rfl), .k, trivial⟩) rfl (fun _ _ => rfl) (by first | exact .inr (fun _ _ => rfl) | exact .inl (by kernel_rfl)) ?_
    refine DE.q (fun e c hk => Ev.at (E := 9) (.t rfl) (.t rfl) Try.underlying40 ty9 (fun _ => ⟨Int.emod_nonneg _ (by decide), h28⟩) rfl rfl) rfl (fun _ _ => rfl) (by first | exact .inr (fun _ _ => rfl) | exact .inl (by kernel_rfl)) ?_
    first | refine DE.q (fun e c hk => (Ev.lde1 (.t rfl) ag9)) rfl (fun _ _ => rfl) (by first | exact .inr (fun _ _ => rfl) | exact .inl (by kernel_rfl)) ?_ | refine DE.q (fun e c hk => (Ev.ldb1 0 (.t rfl) rfl ag9 rfl)) rfl (fun _ _ => rfl) (by first | exact .inr (fun _ _ => rfl) | exact .inl (by kernel_rfl)) ?_ | refine DE.q (fun e c hk => (Ev.ldb1 1 (.t rfl) rfl ag9 rfl)) rfl (fun _ _ => rfl) (by first | exact .inr (fun _ _ => rfl) | exact .inl (by kernel_rfl)) ?_ | refine DE.q (fun e c hk => (Ev.ldb1 2 (.t rfl) rfl ag9 rfl)) rfl (fun _ _ => rfl) (by first | exact .inr (fun _ _ => rfl) | exact .inl (by kernel_rfl)) ?_ | refine DE.q (fun e c hk => (Ev.ldb1 3 (.t rfl) rfl ag9 rfl)) rfl (fun _ _ => rfl) (by first | exact .inr (fun _ _ => rfl) | exact .inl (by kernel_rfl)) ?_
    refine DE.bs (es := fun _ => [_, _, _]) Try.underlying40 ty9 (fun c => ⟨rfl, .k, rfl, rfl, rfl, .k, rfl, rfl, rfl, .k, rfl, rfl, trivial⟩) (fun _ => rfl) (by decide) rfl rfl (fun _ _ => rfl) (by first | exact .inr (fun _ _ => rfl) | exact .inl (by kernel_rfl)) ?_
    refine DE.q (fun e c hk => (Ev.move (.t rfl))) rfl (fun _ _ => rfl) (by first | exact .inr (fun _ _ => rfl) | exact .inl (by kernel_rfl)) ?_
    refine DE.q (fun e c hk => (Ev.move (.t rfl))) rfl (fun _ _ => rfl) (by first | exact .inr (fun _ _ => rfl) | exact .inl (by kernel_rfl)) ?_
    refine DE.q (fun e c hk => Ev.at (E := 3) (.t rfl) (.t rfl) Try.underlying22 ty3 (fun _ => ⟨by omega, hgi⟩) rfl rfl) rfl (fun _ _ => rfl) (by first | exact .inr (fun _ _ => rfl) | exact .inl (by kernel_rfl)) ?_
    first | refine DE.q (fun e c hk => (Ev.lde1 (.t rfl) ag3)) rfl (fun _ _ => rfl) (by first | exact .inr (fun _ _ => rfl) | exact .inl (by kernel_rfl)) ?_ | refine DE.q (fun e c hk => (Ev.ldb1 0 (.t rfl) rfl ag3 rfl)) rfl (fun _ _ => rfl) (by first | exact .inr (fun _ _ => rfl) | exact .inl (by kernel_rfl)) ?_ | refine DE.q (fun e c hk => (Ev.ldb1 1 (.t rfl) rfl ag3 rfl)) rfl (fun _ _ => rfl) (by first | exact .inr (fun _ _ => rfl) | exact .inl (by kernel_rfl)) ?_ | refine DE.q (fun e c hk => (Ev.ldb1 2 (.t rfl) rfl ag3 rfl)) rfl (fun _ _ => rfl) (by first | exact .inr (fun _ _ => rfl) | exact .inl (by kernel_rfl)) ?_ | refine DE.q (fun e c hk => (Ev.ldb1 3 (.t rfl) rfl ag3 rfl)) rfl (fun _ _ => rfl) (by first | exact .inr (fun _ _ => rfl) | exact .inl (by kernel_rfl)) ?_
    first | refine DE.q (fun e c hk => (Ev.quo (.t rfl) .k (fun _ => by decide))) rfl (fun _ _ => rfl) (by first | exact .inr (fun _ _ => rfl) | exact .inl (by kernel_rfl)) ?_ | refine DE.q (fun e c hk => (Ev.quo (.t rfl) .k (fun _ => by omega))) rfl (fun _ _ => rfl) (by first | exact .inr (fun _ _ => rfl) | exact .inl (by kernel_rfl)) ?_
    refine DE.callp (fun c => Base.c_Picked (IntKind.i64.wrap (x.tdiv 5)) 3 (by decide) (by decide)) (fun c => ⟨(.t rfl), .k, trivial⟩) rfl (fun _ _ => rfl) (by first | exact .inr (fun _ _ => rfl) | exact .inl (by kernel_rfl)) ?_
    refine DE.q (fun e c hk => Ev.at (E := 9) (.t rfl) (.t rfl) Try.underlying40 ty9 (fun _ => ⟨Int.emod_nonneg _ (by decide), h37⟩) rfl rfl) rfl (fun _ _ => rfl) (by first | exact .inr (fun _ _ => rfl) | exact .inl (by kernel_rfl)) ?_
    first | refine DE.q (fun e c hk => (Ev.lde1 (.t rfl) ag9)) rfl (fun _ _ => rfl) (by first | exact .inr (fun _ _ => rfl) | exact .inl (by kernel_rfl)) ?_ | refine DE.q (fun e c hk => (Ev.ldb1 0 (.t rfl) rfl ag9 rfl)) rfl (fun _ _ => rfl) (by first | exact .inr (fun _ _ => rfl) | exact .inl (by kernel_rfl)) ?_ | refine DE.q (fun e c hk => (Ev.ldb1 1 (.t rfl) rfl ag9 rfl)) rfl (fun _ _ => rfl) (by first | exact .inr (fun _ _ => rfl) | exact .inl (by kernel_rfl)) ?_ | refine DE.q (fun e c hk => (Ev.ldb1 2 (.t rfl) rfl ag9 rfl)) rfl (fun _ _ => rfl) (by first | exact .inr (fun _ _ => rfl) | exact .inl (by kernel_rfl)) ?_ | refine DE.q (fun e c hk => (Ev.ldb1 3 (.t rfl) rfl ag9 rfl)) rfl (fun _ _ => rfl) (by first | exact .inr (fun _ _ => rfl) | exact .inl (by kernel_rfl)) ?_
    refine DE.q (fun e c hk => (Ev.move (.t rfl))) rfl (fun _ _ => rfl) (by first | exact .inr (fun _ _ => rfl) | exact .inl (by kernel_rfl)) ?_
    refine DE.q (fun e c hk => (Ev.eqi (.t rfl) .k)) rfl (fun _ _ => rfl) (by first | exact .inr (fun _ _ => rfl) | exact .inl (by kernel_rfl)) ?_
    refine DE.q (fun e c hk => (Ev.move (.t rfl))) rfl (fun _ _ => rfl) (by first | exact .inr (fun _ _ => rfl) | exact .inl (by kernel_rfl)) ?_
    refine DE.qg rfl (fun _ => rfl) (fun e c hk => (Ev.move (.t rfl))) rfl (fun _ _ => rfl) (by first | exact .inr (fun _ _ => rfl) | exact .inl (by kernel_rfl)) ?_
    refine DE.qg rfl (fun _ => rfl) (fun e c hk => (Ev.move (.t rfl))) rfl (fun _ _ => rfl) (by first | exact .inr (fun _ _ => rfl) | exact .inl (by kernel_rfl)) ?_
    refine DE.qg rfl (fun _ => rfl) (fun e c hk => Ev.at (E := 3) (.c rfl) (.c rfl) Try.underlying22 ty3 (fun _ => ⟨by omega, hgi⟩) rfl rfl) rfl (fun _ _ => rfl) (by first | exact .inr (fun _ _ => rfl) | exact .inl (by kernel_rfl)) ?_
    first | refine DE.qg rfl (fun _ => rfl) (fun e c hk => (Ev.lde1 (.c rfl) ag3)) rfl (fun _ _ => rfl) (by first | exact .inr (fun _ _ => rfl) | exact .inl (by kernel_rfl)) ?_ | refine DE.qg rfl (fun _ => rfl) (fun e c hk => (Ev.ldb1 0 (.c rfl) rfl ag3 rfl)) rfl (fun _ _ => rfl) (by first | exact .inr (fun _ _ => rfl) | exact .inl (by kernel_rfl)) ?_ | refine DE.qg rfl (fun _ => rfl) (fun e c hk => (Ev.ldb1 1 (.c rfl) rfl ag3 rfl)) rfl (fun _ _ => rfl) (by first | exact .inr (fun _ _ => rfl) | exact .inl (by kernel_rfl)) ?_ | refine DE.qg rfl (fun _ => rfl) (fun e c hk => (Ev.ldb1 2 (.c rfl) rfl ag3 rfl)) rfl (fun _ _ => rfl) (by first | exact .inr (fun _ _ => rfl) | exact .inl (by kernel_rfl)) ?_ | refine DE.qg rfl (fun _ => rfl) (fun e c hk => (Ev.ldb1 3 (.c rfl) rfl ag3 rfl)) rfl (fun _ _ => rfl) (by first | exact .inr (fun _ _ => rfl) | exact .inl (by kernel_rfl)) ?_
    first | refine DE.qg rfl (fun _ => rfl) (fun e c hk => (Ev.quo (.c rfl) .k (fun _ => by decide))) rfl (fun _ _ => rfl) (by first | exact .inr (fun _ _ => rfl) | exact .inl (by kernel_rfl)) ?_ | refine DE.qg rfl (fun _ => rfl) (fun e c hk => (Ev.quo (.c rfl) .k (fun _ => by omega))) rfl (fun _ _ => rfl) (by first | exact .inr (fun _ _ => rfl) | exact .inl (by kernel_rfl)) ?_
    refine DE.callg rfl (fun _ => rfl) (fun c hg => Base.c_Picked (IntKind.i64.wrap (x.tdiv 15)) 2 (by decide) (by decide)) (fun c hg => ⟨(.i rfl (fun _ => hg)), .k, trivial⟩) rfl (fun _ _ => rfl) (by first | exact .inr (fun _ _ => rfl) | exact .inl (by kernel_rfl)) ?_
    refine DE.qg rfl (fun _ => rfl) (fun e c hk => (Ev.eqi (.c rfl) .k)) rfl (fun _ _ => rfl) (by first | exact .inr (fun _ _ => rfl) | exact .inl (by kernel_rfl)) ?_
    refine DE.q (fun e c hk => (Ev.or (.t rfl) ⟨_, _, rfl, rfl, by first | (simp; done) | (intro hg_ hp_; simp [hp_]; done) | (simp <;> omega; done) | (simp_all; done) | grind⟩)) rfl (fun _ _ => rfl) (by first | exact .inr (fun _ _ => rfl) | exact .inl (by kernel_rfl)) ?_
    refine DE.q (fun e c hk => (Ev.build ty32 st32 rfl (fun hg => ⟨_, _, _, rfl, (.t rfl), rfl, rfl, rfl, _, _, _, rfl, (.t rfl), rfl, rfl, rfl, _, _, _, rfl, (.t rfl), rfl, rfl, rfl, rfl⟩))) rfl (fun _ _ => rfl) (by first | exact .inr (fun _ _ => rfl) | exact .inl (by kernel_rfl)) ?_
    refine DE.eff1 (av := fun b => .lit (.pointer (some ⟨b, 0, none⟩))) rfl rfl (fun e c hk L_ hs Q h => ?_) ?_
    · have hk_29 := hk.not
      have hk_30 := hk.down 30 (by kernel_rfl)
      simp only [addE, hk_29, hk_30, Nat.reduceAdd, Nat.reduceEqDiff, ↓reduceIte, cond_true, cond_false] at h ⊢
      exact W.alloc ty32 rfl rfl h
    refine DE.eff0 (fun e c hk L_ hs Q h => ?_) ?_
    · have hk_30 := hk.not
      have hk_29 := hk.up 29 (by kernel_rfl)
      simp only [addE, hk_30, hk_29, Nat.reduceAdd, Nat.reduceEqDiff, ↓reduceIte, cond_true, cond_false] at h ⊢
      first | (refine W.stb 0 (.t (hs _ _ rfl)) (.t (hs _ _ rfl)) rfl ty32 rfl rfl rfl ?_; exact h) | (refine W.stb 1 (.t (hs _ _ rfl)) (.t (hs _ _ rfl)) rfl ty32 rfl rfl rfl ?_; exact h) | (refine W.stb 2 (.t (hs _ _ rfl)) (.t (hs _ _ rfl)) rfl ty32 rfl rfl rfl ?_; exact h) | (refine W.stb 3 (.t (hs _ _ rfl)) (.t (hs _ _ rfl)) rfl ty32 rfl rfl rfl ?_; exact h)
    refine DE.nil (fun b7 e_ he_ => ?_)
    simp only [he_ 29 (by decide), he_ 30 (by decide), cond_true, cond_false]
    refine W.then ?_
    refine W.seq ?_
    refine W.seq ?_
    refine W.region ?_
    refine W.q (Ev.move (.t rfl)) rfl ?_
    refine W.q (Ev.eqi (.t rfl) .k) rfl ?_
    refine W.nil ?_
    refine W.then ?_
    refine W.cond (.t rfl) (fun hc_t51 => ?_) (fun hc_t51 => ?_)
    · have hi0 : i = 0 := by have := beq_iff_eq.1 hc_t51; omega
      refine W.own_nil 32 3 ?_
      refine W.region ?_
      refine W.q (Ev.assign .k) rfl ?_
      refine W.nil ?_
      refine W.then ?_
      refine W.region ?_
      refine W.q (Ev.move (.t rfl)) rfl ?_
      first | refine W.q (Ev.lden (.t rfl) ag32 ty32 rfl rfl) rfl ?_ | refine W.q (Ev.ldbn 0 (.t rfl) rfl ag32 ty32 rfl) rfl ?_ | refine W.q (Ev.ldbn 1 (.t rfl) rfl ag32 ty32 rfl) rfl ?_ | refine W.q (Ev.ldbn 2 (.t rfl) rfl ag32 ty32 rfl) rfl ?_ | refine W.q (Ev.ldbn 3 (.t rfl) rfl ag32 ty32 rfl) rfl ?_
      refine W.bs (es := [_]) Try.underlying23 ty32 ⟨rfl, (.t rfl), rfl, rfl, trivial⟩ rfl (by decide) rfl rfl ?_
      first | refine W.app 0 (.t rfl) rfl (.sl (.t rfl) (by first | (simp [AV.okc, shV]; done) | (intro e he; rw [List.mem_singleton.1 he]; rfl))) Try.underlying23 ni23 ty32 rfl rfl (by first | (simp; done) | (simp; omega)) rfl ?_ | refine W.app 1 (.t rfl) rfl (.sl (.t rfl) (by first | (simp [AV.okc, shV]; done) | (intro e he; rw [List.mem_singleton.1 he]; rfl))) Try.underlying23 ni23 ty32 rfl rfl (by first | (simp; done) | (simp; omega)) rfl ?_ | refine W.app 2 (.t rfl) rfl (.sl (.t rfl) (by first | (simp [AV.okc, shV]; done) | (intro e he; rw [List.mem_singleton.1 he]; rfl))) Try.underlying23 ni23 ty32 rfl rfl (by first | (simp; done) | (simp; omega)) rfl ?_ | refine W.app 3 (.t rfl) rfl (.sl (.t rfl) (by first | (simp [AV.okc, shV]; done) | (intro e he; rw [List.mem_singleton.1 he]; rfl))) Try.underlying23 ni23 ty32 rfl rfl (by first | (simp; done) | (simp; omega)) rfl ?_ | refine W.app 0 (.t rfl) rfl (.arr 0 (.t rfl) rfl (by first | (simp [AV.okc, shV]; done) | (intro e he; rw [List.mem_singleton.1 he]; rfl))) Try.underlying23 ni23 ty32 rfl rfl (by first | (simp; done) | (simp; omega)) rfl ?_ | refine W.app 0 (.t rfl) rfl (.arr 1 (.t rfl) rfl (by first | (simp [AV.okc, shV]; done) | (intro e he; rw [List.mem_singleton.1 he]; rfl))) Try.underlying23 ni23 ty32 rfl rfl (by first | (simp; done) | (simp; omega)) rfl ?_ | refine W.app 0 (.t rfl) rfl (.arr 2 (.t rfl) rfl (by first | (simp [AV.okc, shV]; done) | (intro e he; rw [List.mem_singleton.1 he]; rfl))) Try.underlying23 ni23 ty32 rfl rfl (by first | (simp; done) | (simp; omega)) rfl ?_ | refine W.app 0 (.t rfl) rfl (.arr 3 (.t rfl) rfl (by first | (simp [AV.okc, shV]; done) | (intro e he; rw [List.mem_singleton.1 he]; rfl))) Try.underlying23 ni23 ty32 rfl rfl (by first | (simp; done) | (simp; omega)) rfl ?_ | refine W.app 1 (.t rfl) rfl (.arr 0 (.t rfl) rfl (by first | (simp [AV.okc, shV]; done) | (intro e he; rw [List.mem_singleton.1 he]; rfl))) Try.underlying23 ni23 ty32 rfl rfl (by first | (simp; done) | (simp; omega)) rfl ?_ | refine W.app 1 (.t rfl) rfl (.arr 1 (.t rfl) rfl (by first | (simp [AV.okc, shV]; done) | (intro e he; rw [List.mem_singleton.1 he]; rfl))) Try.underlying23 ni23 ty32 rfl rfl (by first | (simp; done) | (simp; omega)) rfl ?_ | refine W.app 1 (.t rfl) rfl (.arr 2 (.t rfl) rfl (by first | (simp [AV.okc, shV]; done) | (intro e he; rw [List.mem_singleton.1 he]; rfl))) Try.underlying23 ni23 ty32 rfl rfl (by first | (simp; done) | (simp; omega)) rfl ?_ | refine W.app 1 (.t rfl) rfl (.arr 3 (.t rfl) rfl (by first | (simp [AV.okc, shV]; done) | (intro e he; rw [List.mem_singleton.1 he]; rfl))) Try.underlying23 ni23 ty32 rfl rfl (by first | (simp; done) | (simp; omega)) rfl ?_ | refine W.app 2 (.t rfl) rfl (.arr 0 (.t rfl) rfl (by first | (simp [AV.okc, shV]; done) | (intro e he; rw [List.mem_singleton.1 he]; rfl))) Try.underlying23 ni23 ty32 rfl rfl (by first | (simp; done) | (simp; omega)) rfl ?_ | refine W.app 2 (.t rfl) rfl (.arr 1 (.t rfl) rfl (by first | (simp [AV.okc, shV]; done) | (intro e he; rw [List.mem_singleton.1 he]; rfl))) Try.underlying23 ni23 ty32 rfl rfl (by first | (simp; done) | (simp; omega)) rfl ?_ | refine W.app 2 (.t rfl) rfl (.arr 2 (.t rfl) rfl (by first | (simp [AV.okc, shV]; done) | (intro e he; rw [List.mem_singleton.1 he]; rfl))) Try.underlying23 ni23 ty32 rfl rfl (by first | (simp; done) | (simp; omega)) rfl ?_ | refine W.app 2 (.t rfl) rfl (.arr 3 (.t rfl) rfl (by first | (simp [AV.okc, shV]; done) | (intro e he; rw [List.mem_singleton.1 he]; rfl))) Try.underlying23 ni23 ty32 rfl rfl (by first | (simp; done) | (simp; omega)) rfl ?_ | refine W.app 3 (.t rfl) rfl (.arr 0 (.t rfl) rfl (by first | (simp [AV.okc, shV]; done) | (intro e he; rw [List.mem_singleton.1 he]; rfl))) Try.underlying23 ni23 ty32 rfl rfl (by first | (simp; done) | (simp; omega)) rfl ?_ | refine W.app 3 (.t rfl) rfl (.arr 1 (.t rfl) rfl (by first | (simp [AV.okc, shV]; done) | (intro e he; rw [List.mem_singleton.1 he]; rfl))) Try.underlying23 ni23 ty32 rfl rfl (by first | (simp; done) | (simp; omega)) rfl ?_ | refine W.app 3 (.t rfl) rfl (.arr 2 (.t rfl) rfl (by first | (simp [AV.okc, shV]; done) | (intro e he; rw [List.mem_singleton.1 he]; rfl))) Try.underlying23 ni23 ty32 rfl rfl (by first | (simp; done) | (simp; omega)) rfl ?_ | refine W.app 3 (.t rfl) rfl (.arr 3 (.t rfl) rfl (by first | (simp [AV.okc, shV]; done) | (intro e he; rw [List.mem_singleton.1 he]; rfl))) Try.underlying23 ni23 ty32 rfl rfl (by first | (simp; done) | (simp; omega)) rfl ?_
      intro v55
      refine W.q (Ev.assign (.t rfl)) rfl ?_
      refine W.nil ?_
      refine W.blk_normal ?_
      refine W.then ?_
      refine W.region ?_
      refine W.q (Ev.move (.t rfl)) rfl ?_
      first | refine W.q (Ev.add (.t rfl) .k (fun _ => by omega)) rfl ?_ | refine W.q (Ev.addw (.t rfl) .k) rfl ?_
      refine W.q (Ev.assign (.t rfl)) rfl ?_
      refine W.nil ?_
      refine W.then ?_
      first
      | (have h0 := hi0; subst h0; refine W.reach (D := [_, _]) (1, [⟨s28, s37, _⟩], v55) ⟨rfl, rfl, rfl, rfl, trivial⟩ (.refl _) ⟨⟨by show 1 ≤ _; omega, by show 1 ≤ _; omega, fun h => absurd h (Nat.succ_ne_zero _), fun _ => rfl, fun p hp => by rw [List.mem_singleton.1 hp]; exact ok_of _ _ _ m28 m37⟩, by show _ - 1 < _; omega⟩)
      | (refine W.reach (D := [_]) (i + 1, ps ++ [⟨s28, s37, _⟩], v55) ⟨rfl, rfl, rfl, rfl, trivial⟩ (by rw [List.map_append]; exact List.perm_append_comm (l₁ := [_])) ⟨⟨by show i + 1 ≤ _; omega, by show i + 1 ≤ _; omega, fun h => absurd h (Nat.succ_ne_zero _), fun _ => ?_, fun p hp => ?_⟩, by show _ - (i + 1) < _; omega⟩
         · show List.length _ = i + 1; rw [List.length_append, hi4 (by omega)]; rfl
         · rcases List.mem_append.1 hp with hp | hp; exact hi5 p hp; rw [List.mem_singleton.1 hp]; exact ok_of _ _ _ m28 m37)
    · have hi0 : i ≠ 0 := by rintro rfl; simp at hc_t51
      refine W.skip ?_
      refine W.then ?_
      refine W.region ?_
      refine W.q (Ev.move (.t rfl)) rfl ?_
      first | refine W.q (Ev.lden (.t rfl) ag32 ty32 rfl rfl) rfl ?_ | refine W.q (Ev.ldbn 0 (.t rfl) rfl ag32 ty32 rfl) rfl ?_ | refine W.q (Ev.ldbn 1 (.t rfl) rfl ag32 ty32 rfl) rfl ?_ | refine W.q (Ev.ldbn 2 (.t rfl) rfl ag32 ty32 rfl) rfl ?_ | refine W.q (Ev.ldbn 3 (.t rfl) rfl ag32 ty32 rfl) rfl ?_
      refine W.bs (es := [_]) Try.underlying23 ty32 ⟨rfl, (.t rfl), rfl, rfl, trivial⟩ rfl (by decide) rfl rfl ?_
      first | refine W.app 0 (.t rfl) rfl (.sl (.t rfl) (by first | (simp [AV.okc, shV]; done) | (intro e he; rw [List.mem_singleton.1 he]; rfl))) Try.underlying23 ni23 ty32 rfl rfl (by first | (simp; done) | (simp; omega)) rfl ?_ | refine W.app 1 (.t rfl) rfl (.sl (.t rfl) (by first | (simp [AV.okc, shV]; done) | (intro e he; rw [List.mem_singleton.1 he]; rfl))) Try.underlying23 ni23 ty32 rfl rfl (by first | (simp; done) | (simp; omega)) rfl ?_ | refine W.app 2 (.t rfl) rfl (.sl (.t rfl) (by first | (simp [AV.okc, shV]; done) | (intro e he; rw [List.mem_singleton.1 he]; rfl))) Try.underlying23 ni23 ty32 rfl rfl (by first | (simp; done) | (simp; omega)) rfl ?_ | refine W.app 3 (.t rfl) rfl (.sl (.t rfl) (by first | (simp [AV.okc, shV]; done) | (intro e he; rw [List.mem_singleton.1 he]; rfl))) Try.underlying23 ni23 ty32 rfl rfl (by first | (simp; done) | (simp; omega)) rfl ?_ | refine W.app 0 (.t rfl) rfl (.arr 0 (.t rfl) rfl (by first | (simp [AV.okc, shV]; done) | (intro e he; rw [List.mem_singleton.1 he]; rfl))) Try.underlying23 ni23 ty32 rfl rfl (by first | (simp; done) | (simp; omega)) rfl ?_ | refine W.app 0 (.t rfl) rfl (.arr 1 (.t rfl) rfl (by first | (simp [AV.okc, shV]; done) | (intro e he; rw [List.mem_singleton.1 he]; rfl))) Try.underlying23 ni23 ty32 rfl rfl (by first | (simp; done) | (simp; omega)) rfl ?_ | refine W.app 0 (.t rfl) rfl (.arr 2 (.t rfl) rfl (by first | (simp [AV.okc, shV]; done) | (intro e he; rw [List.mem_singleton.1 he]; rfl))) Try.underlying23 ni23 ty32 rfl rfl (by first | (simp; done) | (simp; omega)) rfl ?_ | refine W.app 0 (.t rfl) rfl (.arr 3 (.t rfl) rfl (by first | (simp [AV.okc, shV]; done) | (intro e he; rw [List.mem_singleton.1 he]; rfl))) Try.underlying23 ni23 ty32 rfl rfl (by first | (simp; done) | (simp; omega)) rfl ?_ | refine W.app 1 (.t rfl) rfl (.arr 0 (.t rfl) rfl (by first | (simp [AV.okc, shV]; done) | (intro e he; rw [List.mem_singleton.1 he]; rfl))) Try.underlying23 ni23 ty32 rfl rfl (by first | (simp; done) | (simp; omega)) rfl ?_ | refine W.app 1 (.t rfl) rfl (.arr 1 (.t rfl) rfl (by first | (simp [AV.okc, shV]; done) | (intro e he; rw [List.mem_singleton.1 he]; rfl))) Try.underlying23 ni23 ty32 rfl rfl (by first | (simp; done) | (simp; omega)) rfl ?_ | refine W.app 1 (.t rfl) rfl (.arr 2 (.t rfl) rfl (by first | (simp [AV.okc, shV]; done) | (intro e he; rw [List.mem_singleton.1 he]; rfl))) Try.underlying23 ni23 ty32 rfl rfl (by first | (simp; done) | (simp; omega)) rfl ?_ | refine W.app 1 (.t rfl) rfl (.arr 3 (.t rfl) rfl (by first | (simp [AV.okc, shV]; done) | (intro e he; rw [List.mem_singleton.1 he]; rfl))) Try.underlying23 ni23 ty32 rfl rfl (by first | (simp; done) | (simp; omega)) rfl ?_ | refine W.app 2 (.t rfl) rfl (.arr 0 (.t rfl) rfl (by first | (simp [AV.okc, shV]; done) | (intro e he; rw [List.mem_singleton.1 he]; rfl))) Try.underlying23 ni23 ty32 rfl rfl (by first | (simp; done) | (simp; omega)) rfl ?_ | refine W.app 2 (.t rfl) rfl (.arr 1 (.t rfl) rfl (by first | (simp [AV.okc, shV]; done) | (intro e he; rw [List.mem_singleton.1 he]; rfl))) Try.underlying23 ni23 ty32 rfl rfl (by first | (simp; done) | (simp; omega)) rfl ?_ | refine W.app 2 (.t rfl) rfl (.arr 2 (.t rfl) rfl (by first | (simp [AV.okc, shV]; done) | (intro e he; rw [List.mem_singleton.1 he]; rfl))) Try.underlying23 ni23 ty32 rfl rfl (by first | (simp; done) | (simp; omega)) rfl ?_ | refine W.app 2 (.t rfl) rfl (.arr 3 (.t rfl) rfl (by first | (simp [AV.okc, shV]; done) | (intro e he; rw [List.mem_singleton.1 he]; rfl))) Try.underlying23 ni23 ty32 rfl rfl (by first | (simp; done) | (simp; omega)) rfl ?_ | refine W.app 3 (.t rfl) rfl (.arr 0 (.t rfl) rfl (by first | (simp [AV.okc, shV]; done) | (intro e he; rw [List.mem_singleton.1 he]; rfl))) Try.underlying23 ni23 ty32 rfl rfl (by first | (simp; done) | (simp; omega)) rfl ?_ | refine W.app 3 (.t rfl) rfl (.arr 1 (.t rfl) rfl (by first | (simp [AV.okc, shV]; done) | (intro e he; rw [List.mem_singleton.1 he]; rfl))) Try.underlying23 ni23 ty32 rfl rfl (by first | (simp; done) | (simp; omega)) rfl ?_ | refine W.app 3 (.t rfl) rfl (.arr 2 (.t rfl) rfl (by first | (simp [AV.okc, shV]; done) | (intro e he; rw [List.mem_singleton.1 he]; rfl))) Try.underlying23 ni23 ty32 rfl rfl (by first | (simp; done) | (simp; omega)) rfl ?_ | refine W.app 3 (.t rfl) rfl (.arr 3 (.t rfl) rfl (by first | (simp [AV.okc, shV]; done) | (intro e he; rw [List.mem_singleton.1 he]; rfl))) Try.underlying23 ni23 ty32 rfl rfl (by first | (simp; done) | (simp; omega)) rfl ?_
      intro v55
      refine W.q (Ev.assign (.t rfl)) rfl ?_
      refine W.nil ?_
      refine W.blk_normal ?_
      refine W.then ?_
      refine W.region ?_
      refine W.q (Ev.move (.t rfl)) rfl ?_
      first | refine W.q (Ev.add (.t rfl) .k (fun _ => by omega)) rfl ?_ | refine W.q (Ev.addw (.t rfl) .k) rfl ?_
      refine W.q (Ev.assign (.t rfl)) rfl ?_
      refine W.nil ?_
      refine W.then ?_
      first
      | (have h0 := hi0; subst h0; refine W.reach (D := [_, _]) (1, [⟨s28, s37, _⟩], v55) ⟨rfl, rfl, rfl, rfl, trivial⟩ (.refl _) ⟨⟨by show 1 ≤ _; omega, by show 1 ≤ _; omega, fun h => absurd h (Nat.succ_ne_zero _), fun _ => rfl, fun p hp => by rw [List.mem_singleton.1 hp]; exact ok_of _ _ _ m28 m37⟩, by show _ - 1 < _; omega⟩)
      | (refine W.reach (D := [_]) (i + 1, ps ++ [⟨s28, s37, _⟩], v55) ⟨rfl, rfl, rfl, rfl, trivial⟩ (by rw [List.map_append]; exact List.perm_append_comm (l₁ := [_])) ⟨⟨by show i + 1 ≤ _; omega, by show i + 1 ≤ _; omega, fun h => absurd h (Nat.succ_ne_zero _), fun _ => ?_, fun p hp => ?_⟩, by show _ - (i + 1) < _; omega⟩
         · show List.length _ = i + 1; rw [List.length_append, hi4 (by omega)]; rfl
         · rcases List.mem_append.1 hp with hp | hp; exact hi5 p hp; rw [List.mem_singleton.1 hp]; exact ok_of _ _ _ m28 m37)
  · skip
    refine W.seq ?_
    refine W.seq ?_
    refine W.region ?_
    refine W.q (Ev.move (.t rfl)) rfl ?_
    refine W.q (Ev.move (.t rfl)) rfl ?_
    first | refine W.q (Ev.lensl (.t rfl) Try.underlying22) rfl ?_ | refine W.q (Ev.lenar (i := 0) (.t rfl) rfl Try.underlying22) rfl ?_ | refine W.q (Ev.lenar (i := 1) (.t rfl) rfl Try.underlying22) rfl ?_ | refine W.q (Ev.lenar (i := 2) (.t rfl) rfl Try.underlying22) rfl ?_ | refine W.q (Ev.lenar (i := 3) (.t rfl) rfl Try.underlying22) rfl ?_
    refine W.q (Ev.lti (.t rfl) (.t rfl)) rfl ?_
    refine W.q (Ev.move (.t rfl)) rfl ?_
    refine W.qgT rfl rfl (Ev.move (.t rfl)) rfl ?_
    refine W.qgT rfl rfl (Ev.move (.t rfl)) rfl ?_
    refine W.qgT rfl rfl (Ev.lti (.c rfl) (.c rfl)) rfl ?_
    refine W.q (Ev.and (.t rfl) ⟨_, _, rfl, rfl, by first | (simp; done) | (intro hg_ hp_; simp [hp_]; done) | (simp <;> omega; done) | (simp_all; done) | grind⟩) rfl ?_
    refine W.nil ?_
    refine W.then ?_
    refine W.is (t := 18) (g := true) (av' := .lit (.bool false)) rfl (congrArg (fun b => AV.lit (.bool b)) (by simp; omega)) ?_
    refine W.condF (.t rfl) ?_
    refine W.exit ?_
    refine W.then_exit ?_
    refine W.then_exit ?_
    refine W.blk_hit ?_
    refine W.then ?_
    refine W.seq ?_
    refine W.region ?_
    refine W.q (Ev.move (.t rfl)) rfl ?_
    refine W.q (Ev.assign (.t rfl)) rfl ?_
    refine W.nil ?_
    refine W.then ?_
    refine W.ret ?_
    refine W.retn (M' := [.arr v 32 3 _]) (rs := [.tmp 4]) (avs := [_]) Try.results14 ⟨rfl, trivial⟩ rfl (.refl _) ?_
    refine ⟨v, ps, rfl, rfl, ?_, ?_, hi5⟩ <;> (rcases Nat.eq_zero_or_pos i with h | h; have := hi3 h; omega; have := hi4 h; omega)

theorem c_paths (ps : List Pk) (hp0 : 0 < ps.length) (hp1 : ps.length ≤ 10) (hk : ∀ p ∈ ps, p.ok) (l : List Nd) (hl : Nd.szs l ≤ 16777216) : FnP Try.prog 16 [.sl 3 (ps.map kav), .sl 4 (l.map Nd.av)] (.tup [.sl 1 ((Pk.fnds ps 0 l [] (fun _ => false) (fun _ => false)).map pav), .bool true]) :=  by
  refine FnC.mk Try.func16 (by kernel_rfl) rfl Try.ntmps16 rfl (fun w0 F => ?_)
  have hplen : (ps.map kav).length = ps.length := List.length_map ..
  have hone : Pk.fnds [Pk.dfl] 0 [Nd.mk [98] [] [] []] [] (fun _ => false) (fun _ => false) = [[0]] := by kernel_rfl
  have cone := WFind.c_Find [Pk.dfl] (by decide) (by decide) (fun p hp => by rw [List.mem_singleton.1 hp]; exact ok_dfl) [Nd.mk [98] [] [] []] (by decide)
  rw [hone] at cone
  refine W.seq ?_
  refine W.region ?_
  refine W.q (Ev.assign .k) rfl ?_
  refine W.q (Ev.assign .k) rfl ?_
  refine W.nil ?_
  refine W.then ?_
  refine W.seq ?_
  refine W.region ?_
  refine W.q (Ev.move (.t rfl)) rfl ?_
  first | refine W.appn .k (.sl (.t rfl) (by intro e he; obtain ⟨d, _, rfl⟩ := List.mem_map.1 he; rfl)) Try.underlying23 ni23 ty32 rfl rfl (by omega) rfl ?_ | refine W.appn .k (.arr 0 (.t rfl) rfl (by intro e he; obtain ⟨d, _, rfl⟩ := List.mem_map.1 he; rfl)) Try.underlying23 ni23 ty32 rfl rfl (by omega) rfl ?_ | refine W.appn .k (.arr 1 (.t rfl) rfl (by intro e he; obtain ⟨d, _, rfl⟩ := List.mem_map.1 he; rfl)) Try.underlying23 ni23 ty32 rfl rfl (by omega) rfl ?_ | refine W.appn .k (.arr 2 (.t rfl) rfl (by intro e he; obtain ⟨d, _, rfl⟩ := List.mem_map.1 he; rfl)) Try.underlying23 ni23 ty32 rfl rfl (by omega) rfl ?_ | refine W.appn .k (.arr 3 (.t rfl) rfl (by intro e he; obtain ⟨d, _, rfl⟩ := List.mem_map.1 he; rfl)) Try.underlying23 ni23 ty32 rfl rfl (by omega) rfl ?_
  intro v12
  refine W.q (Ev.move (.t rfl)) rfl ?_
  refine W.callp (WCopied.c_copied l hl) ⟨(.t rfl), trivial⟩ rfl ?_
  refine W.freezeA (M1 := []) (M2 := []) (D := []) (v := v12) (L' := [(12, true, .sl 3 (ps.map kav))]) (.refl _) ⟨⟨_, rfl, .one .hit⟩, trivial⟩ (FrzMs.refl _) ?_
  refine W.callp (WFind.c_Find ps hp0 hp1 hk l hl) ⟨(.t rfl), (.t rfl), trivial⟩ rfl ?_
  refine W.q (Ev.move (.t rfl)) rfl ?_
  refine W.q (Ev.extract (.t rfl) rfl) rfl ?_
  refine W.q (Ev.extract (.t rfl) rfl) rfl ?_
  refine W.q (Ev.assign (.t rfl)) rfl ?_
  refine W.q (Ev.assign (.t rfl)) rfl ?_
  refine W.nil ?_
  refine W.then ?_
  refine W.seq ?_
  refine W.region ?_
  refine W.q (Ev.build ty32 st32 rfl (fun hg => rfl)) rfl ?_
  refine W.bs (es := [_]) Try.underlying23 ty32 ⟨rfl, (.t rfl), rfl, rfl, trivial⟩ rfl (by decide) rfl rfl ?_
  refine W.q (Ev.build ty35 st35 rfl (fun hg => ⟨_, _, _, rfl, .k, rfl, rfl, rfl, rfl⟩)) rfl ?_
  refine W.nils (t := 21) (g := true) (cs' := [.str [98], .sl 2 [], .str [], .sl 4 []]) rfl ⟨.inl rfl, .inr ⟨rfl, 2, rfl⟩, .inl rfl, .inr ⟨rfl, 4, rfl⟩, trivial⟩ ?_
  refine W.bs (es := [_]) Try.underlying25 ty35 ⟨rfl, (.t rfl), rfl, rfl, trivial⟩ rfl (by decide) rfl rfl ?_
  refine W.callp (cone) ⟨(.t rfl), (.t rfl), trivial⟩ rfl ?_
  refine W.q (Ev.move (.t rfl)) rfl ?_
  refine W.q (Ev.extract (.t rfl) rfl) rfl ?_
  refine W.q (Ev.extract (.t rfl) rfl) rfl ?_
  refine W.q (Ev.assign (.t rfl)) rfl ?_
  refine W.q (Ev.assign (.t rfl)) rfl ?_
  refine W.nil ?_
  refine W.then ?_
  refine W.seq ?_
  refine W.region ?_
  refine W.q (Ev.move (.t rfl)) rfl ?_
  refine W.q (Ev.move (.t rfl)) rfl ?_
  refine W.q (Ev.eqi (.t rfl) .k) rfl ?_
  refine W.q (Ev.move (.t rfl)) rfl ?_
  refine W.gyes rfl rfl ?_
  refine W.q (Ev.move (.t rfl)) rfl ?_
  refine W.gyes rfl rfl ?_
  refine W.q (Ev.eqi (.t rfl) .k) rfl ?_
  refine W.q (Ev.and (.t rfl) ⟨_, _, rfl, rfl, by first | (simp; done) | (intro hg_ hp_; simp [hp_]; done) | (simp <;> omega; done) | (simp_all; done) | grind⟩) rfl ?_
  refine W.q (Ev.move (.t rfl)) rfl ?_
  refine W.gyes rfl rfl ?_
  refine W.q (Ev.move (.t rfl)) rfl ?_
  refine W.gyes rfl rfl ?_
  first | refine W.q (Ev.lensl (.t rfl) Try.underlying28) rfl ?_ | refine W.q (Ev.lenar (i := 0) (.t rfl) rfl Try.underlying28) rfl ?_ | refine W.q (Ev.lenar (i := 1) (.t rfl) rfl Try.underlying28) rfl ?_ | refine W.q (Ev.lenar (i := 2) (.t rfl) rfl Try.underlying28) rfl ?_ | refine W.q (Ev.lenar (i := 3) (.t rfl) rfl Try.underlying28) rfl ?_
  refine W.gyes rfl rfl ?_
  refine W.q (Ev.eqi (.t rfl) .k) rfl ?_
  refine W.q (Ev.and (.t rfl) ⟨_, _, rfl, rfl, by first | (simp; done) | (intro hg_ hp_; simp [hp_]; done) | (simp <;> omega; done) | (simp_all; done) | grind⟩) rfl ?_
  refine W.q (Ev.move (.t rfl)) rfl ?_
  refine W.gyes rfl rfl ?_
  refine W.q (Ev.move (.t rfl)) rfl ?_
  refine W.gyes rfl rfl ?_
  refine W.q (Ev.at (E := 22) (e := pav [0]) (.t rfl) .k Try.underlying28 ty22 (fun _ => ⟨by decide, rfl⟩) rfl rfl) rfl ?_
  refine W.gyes rfl rfl ?_
  first | refine W.q (Ev.lde1 (.t rfl) ag22) rfl ?_ | refine W.q (Ev.ldb1 0 (.t rfl) rfl ag22 rfl) rfl ?_ | refine W.q (Ev.ldb1 1 (.t rfl) rfl ag22 rfl) rfl ?_ | refine W.q (Ev.ldb1 2 (.t rfl) rfl ag22 rfl) rfl ?_ | refine W.q (Ev.ldb1 3 (.t rfl) rfl ag22 rfl) rfl ?_
  refine W.gyes rfl rfl ?_
  refine W.bs (es := [_]) Try.underlying22 ty3 ⟨rfl, .k, rfl, rfl, trivial⟩ rfl (by decide) rfl rfl ?_
  refine W.gyes rfl rfl ?_
  refine W.callp (WLet.c_sameInts [0] [0] (by decide)) ⟨(.t rfl), (.t rfl), trivial⟩ rfl ?_
  refine W.q (Ev.and (.t rfl) ⟨_, _, rfl, rfl, by first | (simp; done) | (intro hg_ hp_; simp [hp_]; done) | (simp <;> omega; done) | (simp_all; done) | grind⟩) rfl ?_
  refine W.q (Ev.assign (.t rfl)) rfl ?_
  refine W.q (Ev.assign (.t rfl)) rfl ?_
  refine W.nil ?_
  refine W.then ?_
  refine W.ret ?_
  refine W.retn (M' := []) (rs := [.tmp 4, .tmp 5]) (avs := [_, _]) Try.results16 ⟨rfl, rfl, trivial⟩ rfl (.refl _) ?_
  exact ⟨rfl, rfl⟩

theorem c_hasPath (L : List (List Int)) (p : List Int) (hL : L.length ≤ 1099511627776) (hq : ∀ q ∈ L, q.length ≤ 1099511627776) : FnP Try.prog 18 [.sl 1 (L.map pav), .sl 1 (p.map AV.int)] (.bool (decide (p ∈ L))) :=  by
  refine FnC.mk Try.func18 (by kernel_rfl) rfl Try.ntmps18 rfl (fun w0 F => ?_)
  have hll : (L.map pav).length = L.length := List.length_map ..
  refine W.seq ?_
  refine W.region ?_
  refine W.q (Ev.assign .k) rfl ?_
  refine W.nil ?_
  refine W.then ?_
  refine W.seq ?_
  refine W.seq ?_
  refine W.region ?_
  refine W.q (Ev.assign .k) rfl ?_
  refine W.nil ?_
  refine W.then ?_
  refine W.block ?_
  refine W.loop (D := []) (ι := Nat) (fun i => [(5, true, .int (i : Int)), (0, true, .sl 1 (L.map pav)), (1, true, .sl 1 (p.map AV.int))]) (fun _ => []) (fun i => i ≤ L.length ∧ ∀ q ∈ L.take i, q ≠ p) (fun i => L.length - i) 0 ⟨rfl, rfl, rfl, trivial⟩ (.refl _) ⟨Nat.zero_le _, by simp⟩ ?_
  rintro i ⟨hi, hi2⟩
  dsimp only at hi hi2 ⊢
  rcases (show i < L.length ∨ i = L.length from by omega) with hlt | hend
  · have hga := getD_mapG pav [] L i hlt
    have hqm := getD_memG [] L i hlt
    have htk := take_getDG [] L i hlt
    generalize L.getD i [] = q at hga hqm htk
    refine W.seq ?_
    refine W.seq ?_
    refine W.region ?_
    refine W.q (Ev.move (.t rfl)) rfl ?_
    refine W.q (Ev.move (.t rfl)) rfl ?_
    first | refine W.q (Ev.lensl (.t rfl) Try.underlying28) rfl ?_ | refine W.q (Ev.lenar (i := 0) (.t rfl) rfl Try.underlying28) rfl ?_ | refine W.q (Ev.lenar (i := 1) (.t rfl) rfl Try.underlying28) rfl ?_ | refine W.q (Ev.lenar (i := 2) (.t rfl) rfl Try.underlying28) rfl ?_ | refine W.q (Ev.lenar (i := 3) (.t rfl) rfl Try.underlying28) rfl ?_
    refine W.q (Ev.lti (.t rfl) (.t rfl)) rfl ?_
    refine W.nil ?_
    refine W.then ?_
    refine W.is (t := 9) (g := true) (av' := .lit (.bool true)) rfl (congrArg (fun b => AV.lit (.bool b)) (by simp; omega)) ?_
    refine W.condT (.t rfl) ?_
    refine W.skip ?_
    refine W.then ?_
    refine W.seq ?_
    refine W.block ?_
    refine W.seq ?_
    refine W.region ?_
    refine W.q (Ev.move (.t rfl)) rfl ?_
    refine W.q (Ev.move (.t rfl)) rfl ?_
    refine W.q (Ev.at (E := 22) (.t rfl) (.t rfl) Try.underlying28 ty22 (fun _ => ⟨by omega, hga⟩) rfl rfl) rfl ?_
    first | refine W.q (Ev.lde1 (.t rfl) ag22) rfl ?_ | refine W.q (Ev.ldb1 0 (.t rfl) rfl ag22 rfl) rfl ?_ | refine W.q (Ev.ldb1 1 (.t rfl) rfl ag22 rfl) rfl ?_ | refine W.q (Ev.ldb1 2 (.t rfl) rfl ag22 rfl) rfl ?_ | refine W.q (Ev.ldb1 3 (.t rfl) rfl ag22 rfl) rfl ?_
    refine W.q (Ev.move (.t rfl)) rfl ?_
    refine W.callp (WLet.c_sameInts q p (hq q hqm)) ⟨(.t rfl), (.t rfl), trivial⟩ rfl ?_
    refine W.nil ?_
    refine W.then ?_
    refine W.cond (.t rfl) (fun hc_t17 => ?_) (fun hc_t17 => ?_)
    · have heq : q = p := of_decide_eq_true hc_t17
      have hin : p ∈ L := heq ▸ hqm
      refine W.seq ?_
      refine W.region ?_
      refine W.q (Ev.assign .k) rfl ?_
      refine W.nil ?_
      refine W.then ?_
      refine W.ret ?_
      refine W.blk_ret ?_
      refine W.then_ret ?_
      refine W.then_ret ?_
      refine W.blk_ret ?_
      refine W.then_ret ?_
      refine W.retn (M' := []) (rs := [.tmp 4]) (avs := [_]) Try.results18 ⟨rfl, trivial⟩ rfl (.refl _) ?_
      exact ⟨congrArg AV.bool (by simp [hin]), rfl⟩
    · have hne : q ≠ p := of_decide_eq_false hc_t17
      refine W.skip ?_
      refine W.blk_normal ?_
      refine W.then ?_
      refine W.region ?_
      refine W.q (Ev.move (.t rfl)) rfl ?_
      first | refine W.q (Ev.add (.t rfl) .k (fun _ => by omega)) rfl ?_ | refine W.q (Ev.addw (.t rfl) .k) rfl ?_
      refine W.q (Ev.assign (.t rfl)) rfl ?_
      refine W.nil ?_
      refine W.then ?_
      refine W.reach (D := []) (i + 1) ⟨rfl, rfl, rfl, trivial⟩ (.refl _) ⟨⟨by show i + 1 ≤ _; omega, fun y hy => ?_⟩, by show _ - (i + 1) < _; omega⟩
      rw [htk] at hy
      rcases List.mem_append.1 hy with hy | hy
      · exact hi2 y hy
      · rw [List.mem_singleton.1 hy]; exact hne
  · have hin : p ∉ L := fun h => hi2 p (by rw [List.take_of_length_le (by omega)]; exact h) rfl
    refine W.seq ?_
    refine W.seq ?_
    refine W.region ?_
    refine W.q (Ev.move (.t rfl)) rfl ?_
    refine W.q (Ev.move (.t rfl)) rfl ?_
    first | refine W.q (Ev.lensl (.t rfl) Try.underlying28) rfl ?_ | refine W.q (Ev.lenar (i := 0) (.t rfl) rfl Try.underlying28) rfl ?_ | refine W.q (Ev.lenar (i := 1) (.t rfl) rfl Try.underlying28) rfl ?_ | refine W.q (Ev.lenar (i := 2) (.t rfl) rfl Try.underlying28) rfl ?_ | refine W.q (Ev.lenar (i := 3) (.t rfl) rfl Try.underlying28) rfl ?_
    refine W.q (Ev.lti (.t rfl) (.t rfl)) rfl ?_
    refine W.nil ?_
    refine W.then ?_
    refine W.is (t := 9) (g := true) (av' := .lit (.bool false)) rfl (congrArg (fun b => AV.lit (.bool b)) (by simp; omega)) ?_
    refine W.condF (.t rfl) ?_
    refine W.exit ?_
    refine W.then_exit ?_
    refine W.then_exit ?_
    refine W.blk_hit ?_
    refine W.then ?_
    refine W.seq ?_
    refine W.region ?_
    refine W.q (Ev.assign .k) rfl ?_
    refine W.nil ?_
    refine W.then ?_
    refine W.ret ?_
    refine W.retn (M' := []) (rs := [.tmp 4]) (avs := [_]) Try.results18 ⟨rfl, trivial⟩ rfl (.refl _) ?_
    exact ⟨congrArg AV.bool (by simp [hin]), rfl⟩

end WPicks

end Go.Proofs.Yteepllfbnoaiaaa
