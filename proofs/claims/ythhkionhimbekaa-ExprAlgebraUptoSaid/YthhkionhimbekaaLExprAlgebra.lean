/-
  The law ExprAlgebra, walked.
-/
import Derived.Test.YthhkionhimbekaaWWords
import Derived.Test.YthhkionhimbekaaWDrawX
set_option linter.unusedVariables false
set_option linter.unusedSimpArgs false
set_option maxRecDepth 100000
namespace Go.Proofs.Ythhkionhimbekaa
open Go.Vl

namespace LExprAlgebra
theorem ty3 : Ty Try.prog 3 1 8 (.int .i64 0) := Ty.of (by kernel_rfl)
theorem ty22 : Ty Try.prog 22 1 24 (.slice none 0 0) := Ty.of (by kernel_rfl)
theorem ty28 : Ty Try.prog 28 3 40 (.agg #[.int .i64 0, .int .i64 0, .slice none 0 0]) := Ty.of (by kernel_rfl)
theorem ag22 : IsAgg Try.prog 22 false := ⟨_, Try.underlying22, rfl⟩
theorem ag28 : IsAgg Try.prog 28 true := ⟨_, Try.underlying28, rfl⟩
theorem c_same1 (b : Nat) (w : List Int) (hw : w.length ≤ 40) (hwr : ∀ c ∈ w, 0 ≤ c ∧ c < 8) (t1 t2 : List UInt8) (s1 : List It) (a1 : List (List It)) (hs1 : It.oks s1) (ha1 : It.oka a1) (e1 : t1 = It.stx s1 ++ It.atl a1) (l1 : t1.length ≤ 40) (s2 : List It) (a2 : List (List It)) (hs2 : It.oks s2) (ha2 : It.oka a2) (e2 : t2 = It.stx s2 ++ It.atl a2) (l2 : t2.length ≤ 40) (he : Lg.alt (It.slg s1) (It.alg a1) = Lg.alt (It.slg s2) (It.alg a2)) : FnC Try.prog 13 ([.str (t1), .str (t2)] ++ [Value.pointer (some ⟨b, 0, none⟩)].map .lit) [.box b 22 [.sl 1 (w.map AV.int)]] (fun r M => r = .bool true ∧ M = [.box b 22 [.sl 1 (w.map AV.int)]]) :=  by
  refine FnC.mk Try.func13 (by kernel_rfl) rfl Try.ntmps13 rfl (fun w0 F => ?_)
  have k1 := WWords.c_is s1 a1 hs1 ha1 (by rw [← e1]; exact l1) w hw hwr
  have k2 := WWords.c_is s2 a2 hs2 ha2 (by rw [← e2]; exact l2) w hw hwr
  rw [he] at k1
  refine W.seq ?_
  refine W.region ?_
  refine W.q (Ev.assign .k) rfl ?_
  refine W.nil ?_
  refine W.then ?_
  refine W.seq ?_
  refine W.region ?_
  refine W.q (Ev.move (.t rfl)) rfl ?_
  refine W.callp (WWords.c_of t1 s1 a1 hs1 ha1 e1 l1) ⟨(.t rfl), trivial⟩ rfl ?_
  refine W.q (Ev.move (.t rfl)) rfl ?_
  refine W.q (Ev.extract (.t rfl) rfl) rfl ?_
  refine W.q (Ev.extract (.t rfl) rfl) rfl ?_
  refine W.alloc ty28 rfl rfl ?_
  intro b6
  first | refine W.stb 0 (.t rfl) (.t rfl) rfl ty28 rfl rfl rfl ?_ | refine W.stb 1 (.t rfl) (.t rfl) rfl ty28 rfl rfl rfl ?_ | refine W.stb 2 (.t rfl) (.t rfl) rfl ty28 rfl rfl rfl ?_ | refine W.stb 3 (.t rfl) (.t rfl) rfl ty28 rfl rfl rfl ?_
  refine W.q (Ev.assign (.t rfl)) rfl ?_
  refine W.nil ?_
  refine W.then ?_
  refine W.seq ?_
  refine W.region ?_
  refine W.q (Ev.move (.t rfl)) rfl ?_
  refine W.callp (WWords.c_of t2 s2 a2 hs2 ha2 e2 l2) ⟨(.t rfl), trivial⟩ rfl ?_
  refine W.q (Ev.move (.t rfl)) rfl ?_
  refine W.q (Ev.extract (.t rfl) rfl) rfl ?_
  refine W.q (Ev.extract (.t rfl) rfl) rfl ?_
  refine W.alloc ty28 rfl rfl ?_
  intro b8
  first | refine W.stb 0 (.t rfl) (.t rfl) rfl ty28 rfl rfl rfl ?_ | refine W.stb 1 (.t rfl) (.t rfl) rfl ty28 rfl rfl rfl ?_ | refine W.stb 2 (.t rfl) (.t rfl) rfl ty28 rfl rfl rfl ?_ | refine W.stb 3 (.t rfl) (.t rfl) rfl ty28 rfl rfl rfl ?_
  refine W.q (Ev.assign (.t rfl)) rfl ?_
  refine W.nil ?_
  refine W.then ?_
  refine W.seq ?_
  refine W.drawnE (ι := Unit) (fun _ _ => _) 14 () (by kernel_rfl) (by kernel_rfl) rfl ?_
  refine DE.q (fun e c hk => (Ev.move (.t rfl))) rfl (fun _ _ => rfl) (by first | exact .inr (fun _ _ => rfl) | exact .inl (by kernel_rfl)) ?_
  refine DE.q (fun e c hk => (Ev.move (.t rfl))) rfl (fun _ _ => rfl) (by first | exact .inr (fun _ _ => rfl) | exact .inl (by kernel_rfl)) ?_
  refine DE.qg rfl (fun _ => rfl) (fun e c hk => (Ev.move (.t rfl))) rfl (fun _ _ => rfl) (by first | exact .inr (fun _ _ => rfl) | exact .inl (by kernel_rfl)) ?_
  refine DE.q (fun e c hk => (Ev.and (.t rfl) ⟨_, _, rfl, rfl, by first | (simp; done) | (intro hg_ hp_; simp [hp_]; done) | (simp <;> omega; done) | (simp_all; done) | grind⟩)) rfl (fun _ _ => rfl) (by first | exact .inr (fun _ _ => rfl) | exact .inl (by kernel_rfl)) ?_
  refine DE.q (fun e c hk => (Ev.move (.t rfl))) rfl (fun _ _ => rfl) (by first | exact .inr (fun _ _ => rfl) | exact .inl (by kernel_rfl)) ?_
  first | refine DE.qg rfl (fun _ => rfl) (fun e c hk => (Ev.lden (.t rfl) ag28 ty28 rfl rfl)) rfl (fun _ _ => rfl) (by first | exact .inr (fun _ _ => rfl) | exact .inl (by kernel_rfl)) ?_ | refine DE.qg rfl (fun _ => rfl) (fun e c hk => (Ev.ldbn 0 (.t rfl) rfl ag28 ty28 rfl)) rfl (fun _ _ => rfl) (by first | exact .inr (fun _ _ => rfl) | exact .inl (by kernel_rfl)) ?_ | refine DE.qg rfl (fun _ => rfl) (fun e c hk => (Ev.ldbn 1 (.t rfl) rfl ag28 ty28 rfl)) rfl (fun _ _ => rfl) (by first | exact .inr (fun _ _ => rfl) | exact .inl (by kernel_rfl)) ?_ | refine DE.qg rfl (fun _ => rfl) (fun e c hk => (Ev.ldbn 2 (.t rfl) rfl ag28 ty28 rfl)) rfl (fun _ _ => rfl) (by first | exact .inr (fun _ _ => rfl) | exact .inl (by kernel_rfl)) ?_ | refine DE.qg rfl (fun _ => rfl) (fun e c hk => (Ev.ldbn 3 (.t rfl) rfl ag28 ty28 rfl)) rfl (fun _ _ => rfl) (by first | exact .inr (fun _ _ => rfl) | exact .inl (by kernel_rfl)) ?_
  first | refine DE.qg rfl (fun _ => rfl) (fun e c hk => (Ev.lde1 (.t rfl) ag22)) rfl (fun _ _ => rfl) (by first | exact .inr (fun _ _ => rfl) | exact .inl (by kernel_rfl)) ?_ | refine DE.qg rfl (fun _ => rfl) (fun e c hk => (Ev.ldb1 0 (.t rfl) rfl ag22 rfl)) rfl (fun _ _ => rfl) (by first | exact .inr (fun _ _ => rfl) | exact .inl (by kernel_rfl)) ?_ | refine DE.qg rfl (fun _ => rfl) (fun e c hk => (Ev.ldb1 1 (.t rfl) rfl ag22 rfl)) rfl (fun _ _ => rfl) (by first | exact .inr (fun _ _ => rfl) | exact .inl (by kernel_rfl)) ?_ | refine DE.qg rfl (fun _ => rfl) (fun e c hk => (Ev.ldb1 2 (.t rfl) rfl ag22 rfl)) rfl (fun _ _ => rfl) (by first | exact .inr (fun _ _ => rfl) | exact .inl (by kernel_rfl)) ?_ | refine DE.qg rfl (fun _ => rfl) (fun e c hk => (Ev.ldb1 3 (.t rfl) rfl ag22 rfl)) rfl (fun _ _ => rfl) (by first | exact .inr (fun _ _ => rfl) | exact .inl (by kernel_rfl)) ?_
  refine DE.callg rfl (fun _ => rfl) (fun c hg => k1) (fun c hg => ⟨(.i rfl (fun _ => hg)), (.i rfl (fun _ => hg)), trivial⟩) rfl (fun _ _ => rfl) (by first | exact .inr (fun _ _ => rfl) | exact .inl (by kernel_rfl)) ?_
  first | refine DE.qg rfl (fun _ => rfl) (fun e c hk => (Ev.lden (.t rfl) ag28 ty28 rfl rfl)) rfl (fun _ _ => rfl) (by first | exact .inr (fun _ _ => rfl) | exact .inl (by kernel_rfl)) ?_ | refine DE.qg rfl (fun _ => rfl) (fun e c hk => (Ev.ldbn 0 (.t rfl) rfl ag28 ty28 rfl)) rfl (fun _ _ => rfl) (by first | exact .inr (fun _ _ => rfl) | exact .inl (by kernel_rfl)) ?_ | refine DE.qg rfl (fun _ => rfl) (fun e c hk => (Ev.ldbn 1 (.t rfl) rfl ag28 ty28 rfl)) rfl (fun _ _ => rfl) (by first | exact .inr (fun _ _ => rfl) | exact .inl (by kernel_rfl)) ?_ | refine DE.qg rfl (fun _ => rfl) (fun e c hk => (Ev.ldbn 2 (.t rfl) rfl ag28 ty28 rfl)) rfl (fun _ _ => rfl) (by first | exact .inr (fun _ _ => rfl) | exact .inl (by kernel_rfl)) ?_ | refine DE.qg rfl (fun _ => rfl) (fun e c hk => (Ev.ldbn 3 (.t rfl) rfl ag28 ty28 rfl)) rfl (fun _ _ => rfl) (by first | exact .inr (fun _ _ => rfl) | exact .inl (by kernel_rfl)) ?_
  first | refine DE.qg rfl (fun _ => rfl) (fun e c hk => (Ev.lde1 (.t rfl) ag22)) rfl (fun _ _ => rfl) (by first | exact .inr (fun _ _ => rfl) | exact .inl (by kernel_rfl)) ?_ | refine DE.qg rfl (fun _ => rfl) (fun e c hk => (Ev.ldb1 0 (.t rfl) rfl ag22 rfl)) rfl (fun _ _ => rfl) (by first | exact .inr (fun _ _ => rfl) | exact .inl (by kernel_rfl)) ?_ | refine DE.qg rfl (fun _ => rfl) (fun e c hk => (Ev.ldb1 1 (.t rfl) rfl ag22 rfl)) rfl (fun _ _ => rfl) (by first | exact .inr (fun _ _ => rfl) | exact .inl (by kernel_rfl)) ?_ | refine DE.qg rfl (fun _ => rfl) (fun e c hk => (Ev.ldb1 2 (.t rfl) rfl ag22 rfl)) rfl (fun _ _ => rfl) (by first | exact .inr (fun _ _ => rfl) | exact .inl (by kernel_rfl)) ?_ | refine DE.qg rfl (fun _ => rfl) (fun e c hk => (Ev.ldb1 3 (.t rfl) rfl ag22 rfl)) rfl (fun _ _ => rfl) (by first | exact .inr (fun _ _ => rfl) | exact .inl (by kernel_rfl)) ?_
  refine DE.callg rfl (fun _ => rfl) (fun c hg => k2) (fun c hg => ⟨(.i rfl (fun _ => hg)), (.i rfl (fun _ => hg)), trivial⟩) rfl (fun _ _ => rfl) (by first | exact .inr (fun _ _ => rfl) | exact .inl (by kernel_rfl)) ?_
  refine DE.qg rfl (fun _ => rfl) (fun e c hk => (Ev.eqb (.c rfl) (.c rfl) Try.underlying4)) rfl (fun _ _ => rfl) (by first | exact .inr (fun _ _ => rfl) | exact .inl (by kernel_rfl)) ?_
  refine DE.q (fun e c hk => (Ev.and (.t rfl) ⟨_, _, rfl, rfl, by first | (simp; done) | (intro hg_ hp_; simp [hp_]; done) | (simp <;> omega; done) | (simp_all; done) | grind⟩)) rfl (fun _ _ => rfl) (by first | exact .inr (fun _ _ => rfl) | exact .inl (by kernel_rfl)) ?_
  refine DE.q (fun e c hk => (Ev.assign (.t rfl))) rfl (fun _ _ => rfl) (by first | exact .inr (fun _ _ => rfl) | exact .inl (by kernel_rfl)) ?_
  refine DE.nil (fun c_ e_ he_ => ?_)
  dsimp only
  refine W.then ?_
  refine W.ret ?_
  refine W.retn (M' := [_]) (D := _) (rs := [.tmp 5]) (avs := [_]) Try.results13 ⟨rfl, trivial⟩ rfl (List.perm_middle (l₁ := [_, _])) ?_
  exact ⟨congrArg AV.bool (by simp), rfl⟩

theorem c_ExprAlgebra (l m o ws : List Int) (hl : l.length ≤ 1048576) (hm : m.length ≤ 1048576) (ho : o.length ≤ 1048576) (hw0 : ws.length ≤ 1048576) : FnP Try.prog 4 [.sl 1 (l.map AV.int), .sl 1 (m.map AV.int), .sl 1 (o.map AV.int), .sl 1 (ws.map AV.int)] (.bool true) :=  by
  refine FnC.mk Try.func4 (by kernel_rfl) rfl Try.ntmps4 rfl (fun w0 F => ?_)
  refine W.seq ?_
  refine W.region ?_
  refine W.q (Ev.assign .k) rfl ?_
  refine W.nil ?_
  refine W.then ?_
  refine W.seq ?_
  refine W.region ?_
  refine W.q (Ev.move (.t rfl)) rfl ?_
  refine W.call (WDrawX.c_ExprText 2 (by decide) l (by omega)) ⟨(.t rfl), .k, trivial⟩ (.refl _) rfl ?_
  rintro _ _ ⟨rfl, A, rA, rfl, hA, hrA⟩
  have lA : (It.stx A).length ≤ 8 := hA.len
  refine W.q (Ev.move (.t rfl)) rfl ?_
  refine W.q (Ev.extract (.t rfl) rfl) rfl ?_
  refine W.q (Ev.extract (.t rfl) rfl) rfl ?_
  refine W.q (Ev.assign (.t rfl)) rfl ?_
  refine W.q (Ev.assign (.t rfl)) rfl ?_
  refine W.nil ?_
  refine W.then ?_
  refine W.seq ?_
  refine W.region ?_
  refine W.q (Ev.move (.t rfl)) rfl ?_
  refine W.call (WDrawX.c_ExprText 2 (by decide) m (by omega)) ⟨(.t rfl), .k, trivial⟩ (.refl _) rfl ?_
  rintro _ _ ⟨rfl, B, rB, rfl, hB, hrB⟩
  have lB : (It.stx B).length ≤ 8 := hB.len
  refine W.q (Ev.move (.t rfl)) rfl ?_
  refine W.q (Ev.extract (.t rfl) rfl) rfl ?_
  refine W.q (Ev.extract (.t rfl) rfl) rfl ?_
  refine W.q (Ev.assign (.t rfl)) rfl ?_
  refine W.q (Ev.assign (.t rfl)) rfl ?_
  refine W.nil ?_
  refine W.then ?_
  refine W.seq ?_
  refine W.region ?_
  refine W.q (Ev.move (.t rfl)) rfl ?_
  refine W.call (WDrawX.c_ExprText 2 (by decide) o (by omega)) ⟨(.t rfl), .k, trivial⟩ (.refl _) rfl ?_
  rintro _ _ ⟨rfl, C, rC, rfl, hC, hrC⟩
  have lC : (It.stx C).length ≤ 8 := hC.len
  refine W.q (Ev.move (.t rfl)) rfl ?_
  refine W.q (Ev.extract (.t rfl) rfl) rfl ?_
  refine W.q (Ev.extract (.t rfl) rfl) rfl ?_
  refine W.q (Ev.assign (.t rfl)) rfl ?_
  refine W.q (Ev.assign (.t rfl)) rfl ?_
  refine W.nil ?_
  refine W.then ?_
  refine W.seq ?_
  refine W.seq ?_
  refine W.region ?_
  refine W.q (Ev.move (.t rfl)) rfl ?_
  refine W.q (Ev.lens (.t rfl) Try.underlying9) rfl ?_
  refine W.q (Ev.gti (.t rfl) .k) rfl ?_
  refine W.q (Ev.move (.t rfl)) rfl ?_
  refine W.qgF rfl rfl (Ev.move (.t rfl)) rfl ?_
  refine W.qgF rfl rfl (Ev.lens (.c rfl) Try.underlying9) rfl ?_
  refine W.qgF rfl rfl (Ev.gti (.c rfl) .k) rfl ?_
  refine W.q (Ev.or (.t rfl) ⟨_, _, rfl, rfl, by first | (simp; done) | (intro hg_ hp_; simp [hp_]; done) | (simp <;> omega; done) | (simp_all; done) | grind⟩) rfl ?_
  refine W.q (Ev.move (.t rfl)) rfl ?_
  refine W.qgF rfl rfl (Ev.move (.t rfl)) rfl ?_
  refine W.qgF rfl rfl (Ev.lens (.c rfl) Try.underlying9) rfl ?_
  refine W.qgF rfl rfl (Ev.gti (.c rfl) .k) rfl ?_
  refine W.q (Ev.or (.t rfl) ⟨_, _, rfl, rfl, by first | (simp; done) | (intro hg_ hp_; simp [hp_]; done) | (simp <;> omega; done) | (simp_all; done) | grind⟩) rfl ?_
  refine W.nil ?_
  refine W.then ?_
  refine W.cond (.t rfl) (fun hc_t46 => ?_) (fun hc_t46 => ?_)
  · refine W.seq ?_
    refine W.region ?_
    refine W.q (Ev.assign .k) rfl ?_
    refine W.nil ?_
    refine W.then ?_
    refine W.ret ?_
    refine W.then_ret ?_
    refine W.retn (M' := []) (D := _) (rs := [.tmp 8]) (avs := [_]) Try.results4 ⟨rfl, trivial⟩ rfl (.refl _) ?_
    exact ⟨rfl, rfl⟩
  · have h46 := hc_t46
    simp only [Bool.or_eq_false_iff, decide_eq_false_iff_not] at h46
    have mA : (It.stx [It.gr A [] []]).length = (It.stx A).length + 2 := by simp [It.stx, It.tx, It.atl]
    have mB : (It.stx [It.gr B [] []]).length = (It.stx B).length + 2 := by simp [It.stx, It.tx, It.atl]
    have mC : (It.stx [It.gr C [] []]).length = (It.stx C).length + 2 := by simp [It.stx, It.tx, It.atl]
    refine W.skip ?_
    refine W.then ?_
    refine W.seq ?_
    refine W.region ?_
    refine W.q (Ev.move (.t rfl)) rfl ?_
    refine W.callp (WMatch2.c_WordOf ws 10 (by omega) (by decide)) ⟨(.t rfl), .k, trivial⟩ rfl ?_
    refine W.alloc ty22 rfl rfl ?_
    intro b15
    first | refine W.stb 0 (.t rfl) (.t rfl) rfl ty22 rfl rfl rfl ?_ | refine W.stb 1 (.t rfl) (.t rfl) rfl ty22 rfl rfl rfl ?_ | refine W.stb 2 (.t rfl) (.t rfl) rfl ty22 rfl rfl rfl ?_ | refine W.stb 3 (.t rfl) (.t rfl) rfl ty22 rfl rfl rfl ?_
    refine W.nil ?_
    have hwi : ∀ c ∈ wordOf ws 10, 0 ≤ c ∧ c < 8 := fun c hc => by have := wordOf_in ws 10 c hc; omega
    have hwl := wordOf_len ws 10
    generalize wordOf ws 10 = w at hwi hwl ⊢
    have q79 : ∀ b, FnC Try.prog 13 ([.str (((It.stx [It.gr A [] []]) ++ [124]) ++ (It.stx [It.gr B [] []])), .str (((It.stx [It.gr B [] []]) ++ [124]) ++ (It.stx [It.gr A [] []]))] ++ [Value.pointer (some ⟨b, 0, none⟩)].map .lit) [.box b 22 [.sl 1 (w.map AV.int)]] (fun r M => r = .bool true ∧ M = [.box b 22 [.sl 1 (w.map AV.int)]]) := fun b => c_same1 b w (by omega) hwi _ _ [It.gr A [] []] [[It.gr B [] []]] (by simp [It.oks, It.ok, It.oka, hA.ok, hB.ok, hC.ok]) (by simp [It.oks, It.ok, It.oka, hA.ok, hB.ok, hC.ok]) (by simp [It.stx, It.tx, It.atl, sg]) (by simp only [List.length_append, List.length_cons, List.length_nil]; omega) [It.gr B [] []] [[It.gr A [] []]] (by simp [It.oks, It.ok, It.oka, hA.ok, hB.ok, hC.ok]) (by simp [It.oks, It.ok, It.oka, hA.ok, hB.ok, hC.ok]) (by simp [It.stx, It.tx, It.atl, sg]) (by simp only [List.length_append, List.length_cons, List.length_nil]; omega) (by
      simp only [It.slg, It.lg, It.alg, List.foldl_cons, List.foldl_nil, Lg.alt_none, Lg.cat_eps, Lg.sfl, if_true, Nat.one_ne_zero, Nat.reduceEqDiff, if_false]
      first | rfl | exact Lg.alt_comm _ _ | done)
    have q99 : ∀ b, FnC Try.prog 13 ([.str (((((It.stx [It.gr A [] []]) ++ [40]) ++ (It.stx [It.gr B [] []])) ++ [124]) ++ (It.stx [It.gr C [] []]) ++ [41]), .str (((((It.stx [It.gr A [] []]) ++ (It.stx [It.gr B [] []])) ++ [124]) ++ (It.stx [It.gr A [] []])) ++ (It.stx [It.gr C [] []]))] ++ [Value.pointer (some ⟨b, 0, none⟩)].map .lit) [.box b 22 [.sl 1 (w.map AV.int)]] (fun r M => r = .bool true ∧ M = [.box b 22 [.sl 1 (w.map AV.int)]]) := fun b => c_same1 b w (by omega) hwi _ _ [It.gr A [] [], It.gr [It.gr B [] []] [[It.gr C [] []]] []] [] (by simp [It.oks, It.ok, It.oka, hA.ok, hB.ok, hC.ok]) (by simp [It.oks, It.ok, It.oka, hA.ok, hB.ok, hC.ok]) (by simp [It.stx, It.tx, It.atl, sg]) (by simp only [List.length_append, List.length_cons, List.length_nil]; omega) [It.gr A [] [], It.gr B [] []] [[It.gr A [] [], It.gr C [] []]] (by simp [It.oks, It.ok, It.oka, hA.ok, hB.ok, hC.ok]) (by simp [It.oks, It.ok, It.oka, hA.ok, hB.ok, hC.ok]) (by simp [It.stx, It.tx, It.atl, sg]) (by simp only [List.length_append, List.length_cons, List.length_nil]; omega) (by
      simp only [It.slg, It.lg, It.alg, List.foldl_cons, List.foldl_nil, Lg.alt_none, Lg.cat_eps, Lg.sfl, if_true, Nat.one_ne_zero, Nat.reduceEqDiff, if_false]
      first | rfl | exact Lg.cat_alt _ _ _ | done)
    have q110 : ∀ b, FnC Try.prog 13 ([.str ((It.stx [It.gr A [] []]) ++ [42]), .str ((([124] ++ (It.stx [It.gr A [] []])) ++ (It.stx [It.gr A [] []])) ++ [42])] ++ [Value.pointer (some ⟨b, 0, none⟩)].map .lit) [.box b 22 [.sl 1 (w.map AV.int)]] (fun r M => r = .bool true ∧ M = [.box b 22 [.sl 1 (w.map AV.int)]]) := fun b => c_same1 b w (by omega) hwi _ _ [It.gr A [] [0]] [] (by simp [It.oks, It.ok, It.oka, hA.ok, hB.ok, hC.ok]) (by simp [It.oks, It.ok, It.oka, hA.ok, hB.ok, hC.ok]) (by simp [It.stx, It.tx, It.atl, sg]) (by simp only [List.length_append, List.length_cons, List.length_nil]; omega) [] [[It.gr A [] [], It.gr A [] [0]]] (by simp [It.oks, It.ok, It.oka, hA.ok, hB.ok, hC.ok]) (by simp [It.oks, It.ok, It.oka, hA.ok, hB.ok, hC.ok]) (by simp [It.stx, It.tx, It.atl, sg]) (by simp only [List.length_append, List.length_cons, List.length_nil]; omega) (by
      simp only [It.slg, It.lg, It.alg, List.foldl_cons, List.foldl_nil, Lg.alt_none, Lg.cat_eps, Lg.sfl, if_true, Nat.one_ne_zero, Nat.reduceEqDiff, if_false]
      first | rfl | exact Lg.star_unfold _ | done)
    have q120 : ∀ b, FnC Try.prog 13 ([.str ((It.stx [It.gr A [] []]) ++ [43]), .str (((It.stx [It.gr A [] []]) ++ (It.stx [It.gr A [] []])) ++ [42])] ++ [Value.pointer (some ⟨b, 0, none⟩)].map .lit) [.box b 22 [.sl 1 (w.map AV.int)]] (fun r M => r = .bool true ∧ M = [.box b 22 [.sl 1 (w.map AV.int)]]) := fun b => c_same1 b w (by omega) hwi _ _ [It.gr A [] [1]] [] (by simp [It.oks, It.ok, It.oka, hA.ok, hB.ok, hC.ok]) (by simp [It.oks, It.ok, It.oka, hA.ok, hB.ok, hC.ok]) (by simp [It.stx, It.tx, It.atl, sg]) (by simp only [List.length_append, List.length_cons, List.length_nil]; omega) [It.gr A [] [], It.gr A [] [0]] [] (by simp [It.oks, It.ok, It.oka, hA.ok, hB.ok, hC.ok]) (by simp [It.oks, It.ok, It.oka, hA.ok, hB.ok, hC.ok]) (by simp [It.stx, It.tx, It.atl, sg]) (by simp only [List.length_append, List.length_cons, List.length_nil]; omega) (by
      simp only [It.slg, It.lg, It.alg, List.foldl_cons, List.foldl_nil, Lg.alt_none, Lg.cat_eps, Lg.sfl, if_true, Nat.one_ne_zero, Nat.reduceEqDiff, if_false]
      first | rfl | rfl | done)
    have q128 : ∀ b, FnC Try.prog 13 ([.str ((It.stx [It.gr A [] []]) ++ [63]), .str ((It.stx [It.gr A [] []]) ++ [124])] ++ [Value.pointer (some ⟨b, 0, none⟩)].map .lit) [.box b 22 [.sl 1 (w.map AV.int)]] (fun r M => r = .bool true ∧ M = [.box b 22 [.sl 1 (w.map AV.int)]]) := fun b => c_same1 b w (by omega) hwi _ _ [It.gr A [] [2]] [] (by simp [It.oks, It.ok, It.oka, hA.ok, hB.ok, hC.ok]) (by simp [It.oks, It.ok, It.oka, hA.ok, hB.ok, hC.ok]) (by simp [It.stx, It.tx, It.atl, sg]) (by simp only [List.length_append, List.length_cons, List.length_nil]; omega) [It.gr A [] []] [[]] (by simp [It.oks, It.ok, It.oka, hA.ok, hB.ok, hC.ok]) (by simp [It.oks, It.ok, It.oka, hA.ok, hB.ok, hC.ok]) (by simp [It.stx, It.tx, It.atl, sg]) (by simp only [List.length_append, List.length_cons, List.length_nil]; omega) (by
      simp only [It.slg, It.lg, It.alg, List.foldl_cons, List.foldl_nil, Lg.alt_none, Lg.cat_eps, Lg.sfl, if_true, Nat.one_ne_zero, Nat.reduceEqDiff, if_false]
      first | rfl | exact Lg.alt_comm _ _ | done)
    have q147 : ∀ b, FnC Try.prog 13 ([.str (((([40] ++ (It.stx [It.gr A [] []])) ++ [124]) ++ (It.stx [It.gr B [] []])) ++ [41, 42]), .str ((((((([40] ++ (It.stx [It.gr A [] []])) ++ [42]) ++ (It.stx [It.gr B [] []])) ++ [41, 42]) ++ (It.stx [It.gr A [] []])) ++ [42]))] ++ [Value.pointer (some ⟨b, 0, none⟩)].map .lit) [.box b 22 [.sl 1 (w.map AV.int)]] (fun r M => r = .bool true ∧ M = [.box b 22 [.sl 1 (w.map AV.int)]]) := fun b => c_same1 b w (by omega) hwi _ _ [It.gr [It.gr A [] []] [[It.gr B [] []]] [0]] [] (by simp [It.oks, It.ok, It.oka, hA.ok, hB.ok, hC.ok]) (by simp [It.oks, It.ok, It.oka, hA.ok, hB.ok, hC.ok]) (by simp [It.stx, It.tx, It.atl, sg]) (by simp only [List.length_append, List.length_cons, List.length_nil]; omega) [It.gr [It.gr A [] [0], It.gr B [] []] [] [0], It.gr A [] [0]] [] (by simp [It.oks, It.ok, It.oka, hA.ok, hB.ok, hC.ok]) (by simp [It.oks, It.ok, It.oka, hA.ok, hB.ok, hC.ok]) (by simp [It.stx, It.tx, It.atl, sg]) (by simp only [List.length_append, List.length_cons, List.length_nil]; omega) (by
      simp only [It.slg, It.lg, It.alg, List.foldl_cons, List.foldl_nil, Lg.alt_none, Lg.cat_eps, Lg.sfl, if_true, Nat.one_ne_zero, Nat.reduceEqDiff, if_false]
      first | rfl | exact Lg.star_alt _ _ | done)
    have cOne := WWords.c_is [It.ch 0 [0]] [] (by simp [It.oks, It.ok]) trivial (by decide) [0, 0] (by decide) (by simp)
    rw [show Lg.dec (Lg.alt (It.slg [It.ch 0 [0]]) (It.alg [])) [0, 0] = true from Lg.dec_true (.inl ⟨[0, 0], [], rfl, .cons [0] [0] rfl (.cons [0] [] rfl .nil), rfl⟩)] at cOne
    refine W.then ?_
    refine W.seq ?_
    refine W.region ?_
    refine W.q (Ev.mkfn (caps := [.tmp 15]) (vs := [_]) ⟨(.t rfl), trivial⟩) rfl ?_
    refine W.q (Ev.assign (.t rfl)) rfl ?_
    refine W.nil ?_
    refine W.then ?_
    refine W.seq ?_
    refine W.region ?_
    refine W.q (Ev.move (.t rfl)) rfl ?_
    refine W.q (Ev.cat .k (.t rfl) (fun _ => by first | omega | (simp only [List.length_append]; omega) | (simp [-List.length_flatMap]; omega) | (simp; omega))) rfl ?_
    refine W.q (Ev.cat (.t rfl) .k (fun _ => by first | omega | (simp only [List.length_append]; omega) | (simp [-List.length_flatMap]; omega) | (simp; omega))) rfl ?_
    refine W.q (Ev.assign (.t rfl)) rfl ?_
    refine W.nil ?_
    refine W.is (t := 9) (g := true) (av' := .str (It.stx [It.gr A [] []])) rfl (congrArg AV.str (by simp [It.stx, It.tx, It.atl])) ?_
    refine W.then ?_
    refine W.seq ?_
    refine W.region ?_
    refine W.q (Ev.move (.t rfl)) rfl ?_
    refine W.q (Ev.cat .k (.t rfl) (fun _ => by first | omega | (simp only [List.length_append]; omega) | (simp [-List.length_flatMap]; omega) | (simp; omega))) rfl ?_
    refine W.q (Ev.cat (.t rfl) .k (fun _ => by first | omega | (simp only [List.length_append]; omega) | (simp [-List.length_flatMap]; omega) | (simp; omega))) rfl ?_
    refine W.q (Ev.assign (.t rfl)) rfl ?_
    refine W.nil ?_
    refine W.is (t := 11) (g := true) (av' := .str (It.stx [It.gr B [] []])) rfl (congrArg AV.str (by simp [It.stx, It.tx, It.atl])) ?_
    refine W.then ?_
    refine W.seq ?_
    refine W.region ?_
    refine W.q (Ev.move (.t rfl)) rfl ?_
    refine W.q (Ev.cat .k (.t rfl) (fun _ => by first | omega | (simp only [List.length_append]; omega) | (simp [-List.length_flatMap]; omega) | (simp; omega))) rfl ?_
    refine W.q (Ev.cat (.t rfl) .k (fun _ => by first | omega | (simp only [List.length_append]; omega) | (simp [-List.length_flatMap]; omega) | (simp; omega))) rfl ?_
    refine W.q (Ev.assign (.t rfl)) rfl ?_
    refine W.nil ?_
    refine W.is (t := 13) (g := true) (av' := .str (It.stx [It.gr C [] []])) rfl (congrArg AV.str (by simp [It.stx, It.tx, It.atl])) ?_
    refine W.then ?_
    refine W.seq ?_
    refine W.region ?_
    refine W.callp (WWords.c_of [97, 42] [It.ch 0 [0]] [] (by simp [It.oks, It.ok]) trivial rfl (by decide)) ⟨.k, trivial⟩ rfl ?_
    refine W.q (Ev.move (.t rfl)) rfl ?_
    refine W.q (Ev.extract (.t rfl) rfl) rfl ?_
    refine W.q (Ev.extract (.t rfl) rfl) rfl ?_
    refine W.alloc ty28 rfl rfl ?_
    intro b17
    first | refine W.stb 0 (.t rfl) (.t rfl) rfl ty28 rfl rfl rfl ?_ | refine W.stb 1 (.t rfl) (.t rfl) rfl ty28 rfl rfl rfl ?_ | refine W.stb 2 (.t rfl) (.t rfl) rfl ty28 rfl rfl rfl ?_ | refine W.stb 3 (.t rfl) (.t rfl) rfl ty28 rfl rfl rfl ?_
    refine W.q (Ev.assign (.t rfl)) rfl ?_
    refine W.nil ?_
    refine W.then ?_
    refine W.seq ?_
    refine W.region ?_
    refine W.q (Ev.move (.t rfl)) rfl ?_
    refine W.q (Ev.move (.t rfl)) rfl ?_
    refine W.gyes rfl rfl ?_
    first | refine W.q (Ev.lden (.t rfl) ag28 ty28 rfl rfl) rfl ?_ | refine W.q (Ev.ldbn 0 (.t rfl) rfl ag28 ty28 rfl) rfl ?_ | refine W.q (Ev.ldbn 1 (.t rfl) rfl ag28 ty28 rfl) rfl ?_ | refine W.q (Ev.ldbn 2 (.t rfl) rfl ag28 ty28 rfl) rfl ?_ | refine W.q (Ev.ldbn 3 (.t rfl) rfl ag28 ty28 rfl) rfl ?_
    refine W.gyes rfl rfl ?_
    refine W.bs (es := [_, _]) Try.underlying22 ty3 ⟨rfl, .k, rfl, rfl, rfl, .k, rfl, rfl, trivial⟩ rfl (by decide) rfl rfl ?_
    refine W.gyes rfl rfl ?_
    refine W.callp (cOne) ⟨(.t rfl), (.t rfl), trivial⟩ rfl ?_
    refine W.q (Ev.and (.t rfl) ⟨_, _, rfl, rfl, by first | (simp; done) | (intro hg_ hp_; simp [hp_]; done) | (simp <;> omega; done) | (simp_all; done) | grind⟩) rfl ?_
    refine W.q (Ev.move (.t rfl)) rfl ?_
    refine W.gyes rfl rfl ?_
    refine W.q (Ev.move (.t rfl)) rfl ?_
    refine W.gyes rfl rfl ?_
    refine W.q (Ev.move (.t rfl)) rfl ?_
    refine W.gyes rfl rfl ?_
    refine W.q (Ev.cat (.t rfl) .k (fun _ => by first | omega | (simp only [List.length_append]; omega) | (simp [-List.length_flatMap]; omega) | (simp; omega))) rfl ?_
    refine W.gyes rfl rfl ?_
    refine W.q (Ev.move (.t rfl)) rfl ?_
    refine W.gyes rfl rfl ?_
    refine W.q (Ev.cat (.t rfl) (.t rfl) (fun _ => by first | omega | (simp only [List.length_append]; omega) | (simp [-List.length_flatMap]; omega) | (simp; omega))) rfl ?_
    refine W.gyes rfl rfl ?_
    refine W.q (Ev.move (.t rfl)) rfl ?_
    refine W.gyes rfl rfl ?_
    refine W.q (Ev.cat (.t rfl) .k (fun _ => by first | omega | (simp only [List.length_append]; omega) | (simp [-List.length_flatMap]; omega) | (simp; omega))) rfl ?_
    refine W.gyes rfl rfl ?_
    refine W.q (Ev.move (.t rfl)) rfl ?_
    refine W.gyes rfl rfl ?_
    refine W.q (Ev.cat (.t rfl) (.t rfl) (fun _ => by first | omega | (simp only [List.length_append]; omega) | (simp [-List.length_flatMap]; omega) | (simp; omega))) rfl ?_
    refine W.gyes rfl rfl ?_
    refine W.callv (caps := [Value.pointer (some ⟨b15, 0, none⟩)]) (avs := [_, _]) (q79 b15) (.t rfl) ⟨(.t rfl), (.t rfl), trivial⟩ rfl ((List.Perm.swap _ _ [])) rfl ?_
    rintro _ _ ⟨rfl, rfl⟩
    refine W.q (Ev.and (.t rfl) ⟨_, _, rfl, rfl, by first | (simp; done) | (intro hg_ hp_; simp [hp_]; done) | (simp <;> omega; done) | (simp_all; done) | grind⟩) rfl ?_
    refine W.q (Ev.move (.t rfl)) rfl ?_
    refine W.gyes rfl rfl ?_
    refine W.q (Ev.move (.t rfl)) rfl ?_
    refine W.gyes rfl rfl ?_
    refine W.q (Ev.move (.t rfl)) rfl ?_
    refine W.gyes rfl rfl ?_
    refine W.q (Ev.cat (.t rfl) .k (fun _ => by first | omega | (simp only [List.length_append]; omega) | (simp [-List.length_flatMap]; omega) | (simp; omega))) rfl ?_
    refine W.gyes rfl rfl ?_
    refine W.q (Ev.move (.t rfl)) rfl ?_
    refine W.gyes rfl rfl ?_
    refine W.q (Ev.cat (.t rfl) (.t rfl) (fun _ => by first | omega | (simp only [List.length_append]; omega) | (simp [-List.length_flatMap]; omega) | (simp; omega))) rfl ?_
    refine W.gyes rfl rfl ?_
    refine W.q (Ev.cat (.t rfl) .k (fun _ => by first | omega | (simp only [List.length_append]; omega) | (simp [-List.length_flatMap]; omega) | (simp; omega))) rfl ?_
    refine W.gyes rfl rfl ?_
    refine W.q (Ev.move (.t rfl)) rfl ?_
    refine W.gyes rfl rfl ?_
    refine W.q (Ev.cat (.t rfl) (.t rfl) (fun _ => by first | omega | (simp only [List.length_append]; omega) | (simp [-List.length_flatMap]; omega) | (simp; omega))) rfl ?_
    refine W.gyes rfl rfl ?_
    refine W.q (Ev.cat (.t rfl) .k (fun _ => by first | omega | (simp only [List.length_append]; omega) | (simp [-List.length_flatMap]; omega) | (simp; omega))) rfl ?_
    refine W.gyes rfl rfl ?_
    refine W.q (Ev.move (.t rfl)) rfl ?_
    refine W.gyes rfl rfl ?_
    refine W.q (Ev.move (.t rfl)) rfl ?_
    refine W.gyes rfl rfl ?_
    refine W.q (Ev.cat (.t rfl) (.t rfl) (fun _ => by first | omega | (simp only [List.length_append]; omega) | (simp [-List.length_flatMap]; omega) | (simp; omega))) rfl ?_
    refine W.gyes rfl rfl ?_
    refine W.q (Ev.cat (.t rfl) .k (fun _ => by first | omega | (simp only [List.length_append]; omega) | (simp [-List.length_flatMap]; omega) | (simp; omega))) rfl ?_
    refine W.gyes rfl rfl ?_
    refine W.q (Ev.move (.t rfl)) rfl ?_
    refine W.gyes rfl rfl ?_
    refine W.q (Ev.cat (.t rfl) (.t rfl) (fun _ => by first | omega | (simp only [List.length_append]; omega) | (simp [-List.length_flatMap]; omega) | (simp; omega))) rfl ?_
    refine W.gyes rfl rfl ?_
    refine W.q (Ev.move (.t rfl)) rfl ?_
    refine W.gyes rfl rfl ?_
    refine W.q (Ev.cat (.t rfl) (.t rfl) (fun _ => by first | omega | (simp only [List.length_append]; omega) | (simp [-List.length_flatMap]; omega) | (simp; omega))) rfl ?_
    refine W.gyes rfl rfl ?_
    refine W.callv (caps := [Value.pointer (some ⟨b15, 0, none⟩)]) (avs := [_, _]) (q99 b15) (.t rfl) ⟨(.t rfl), (.t rfl), trivial⟩ rfl (.refl _) rfl ?_
    rintro _ _ ⟨rfl, rfl⟩
    refine W.q (Ev.and (.t rfl) ⟨_, _, rfl, rfl, by first | (simp; done) | (intro hg_ hp_; simp [hp_]; done) | (simp <;> omega; done) | (simp_all; done) | grind⟩) rfl ?_
    refine W.q (Ev.move (.t rfl)) rfl ?_
    refine W.gyes rfl rfl ?_
    refine W.q (Ev.move (.t rfl)) rfl ?_
    refine W.gyes rfl rfl ?_
    refine W.q (Ev.move (.t rfl)) rfl ?_
    refine W.gyes rfl rfl ?_
    refine W.q (Ev.cat (.t rfl) .k (fun _ => by first | omega | (simp only [List.length_append]; omega) | (simp [-List.length_flatMap]; omega) | (simp; omega))) rfl ?_
    refine W.gyes rfl rfl ?_
    refine W.q (Ev.move (.t rfl)) rfl ?_
    refine W.gyes rfl rfl ?_
    refine W.q (Ev.cat .k (.t rfl) (fun _ => by first | omega | (simp only [List.length_append]; omega) | (simp [-List.length_flatMap]; omega) | (simp; omega))) rfl ?_
    refine W.gyes rfl rfl ?_
    refine W.q (Ev.move (.t rfl)) rfl ?_
    refine W.gyes rfl rfl ?_
    refine W.q (Ev.cat (.t rfl) (.t rfl) (fun _ => by first | omega | (simp only [List.length_append]; omega) | (simp [-List.length_flatMap]; omega) | (simp; omega))) rfl ?_
    refine W.gyes rfl rfl ?_
    refine W.q (Ev.cat (.t rfl) .k (fun _ => by first | omega | (simp only [List.length_append]; omega) | (simp [-List.length_flatMap]; omega) | (simp; omega))) rfl ?_
    refine W.gyes rfl rfl ?_
    refine W.callv (caps := [Value.pointer (some ⟨b15, 0, none⟩)]) (avs := [_, _]) (q110 b15) (.t rfl) ⟨(.t rfl), (.t rfl), trivial⟩ rfl (.refl _) rfl ?_
    rintro _ _ ⟨rfl, rfl⟩
    refine W.q (Ev.and (.t rfl) ⟨_, _, rfl, rfl, by first | (simp; done) | (intro hg_ hp_; simp [hp_]; done) | (simp <;> omega; done) | (simp_all; done) | grind⟩) rfl ?_
    refine W.q (Ev.move (.t rfl)) rfl ?_
    refine W.gyes rfl rfl ?_
    refine W.q (Ev.move (.t rfl)) rfl ?_
    refine W.gyes rfl rfl ?_
    refine W.q (Ev.move (.t rfl)) rfl ?_
    refine W.gyes rfl rfl ?_
    refine W.q (Ev.cat (.t rfl) .k (fun _ => by first | omega | (simp only [List.length_append]; omega) | (simp [-List.length_flatMap]; omega) | (simp; omega))) rfl ?_
    refine W.gyes rfl rfl ?_
    refine W.q (Ev.move (.t rfl)) rfl ?_
    refine W.gyes rfl rfl ?_
    refine W.q (Ev.move (.t rfl)) rfl ?_
    refine W.gyes rfl rfl ?_
    refine W.q (Ev.cat (.t rfl) (.t rfl) (fun _ => by first | omega | (simp only [List.length_append]; omega) | (simp [-List.length_flatMap]; omega) | (simp; omega))) rfl ?_
    refine W.gyes rfl rfl ?_
    refine W.q (Ev.cat (.t rfl) .k (fun _ => by first | omega | (simp only [List.length_append]; omega) | (simp [-List.length_flatMap]; omega) | (simp; omega))) rfl ?_
    refine W.gyes rfl rfl ?_
    refine W.callv (caps := [Value.pointer (some ⟨b15, 0, none⟩)]) (avs := [_, _]) (q120 b15) (.t rfl) ⟨(.t rfl), (.t rfl), trivial⟩ rfl (.refl _) rfl ?_
    rintro _ _ ⟨rfl, rfl⟩
    refine W.q (Ev.and (.t rfl) ⟨_, _, rfl, rfl, by first | (simp; done) | (intro hg_ hp_; simp [hp_]; done) | (simp <;> omega; done) | (simp_all; done) | grind⟩) rfl ?_
    refine W.q (Ev.move (.t rfl)) rfl ?_
    refine W.gyes rfl rfl ?_
    refine W.q (Ev.move (.t rfl)) rfl ?_
    refine W.gyes rfl rfl ?_
    refine W.q (Ev.move (.t rfl)) rfl ?_
    refine W.gyes rfl rfl ?_
    refine W.q (Ev.cat (.t rfl) .k (fun _ => by first | omega | (simp only [List.length_append]; omega) | (simp [-List.length_flatMap]; omega) | (simp; omega))) rfl ?_
    refine W.gyes rfl rfl ?_
    refine W.q (Ev.move (.t rfl)) rfl ?_
    refine W.gyes rfl rfl ?_
    refine W.q (Ev.cat (.t rfl) .k (fun _ => by first | omega | (simp only [List.length_append]; omega) | (simp [-List.length_flatMap]; omega) | (simp; omega))) rfl ?_
    refine W.gyes rfl rfl ?_
    refine W.callv (caps := [Value.pointer (some ⟨b15, 0, none⟩)]) (avs := [_, _]) (q128 b15) (.t rfl) ⟨(.t rfl), (.t rfl), trivial⟩ rfl (.refl _) rfl ?_
    rintro _ _ ⟨rfl, rfl⟩
    refine W.q (Ev.and (.t rfl) ⟨_, _, rfl, rfl, by first | (simp; done) | (intro hg_ hp_; simp [hp_]; done) | (simp <;> omega; done) | (simp_all; done) | grind⟩) rfl ?_
    refine W.q (Ev.move (.t rfl)) rfl ?_
    refine W.gyes rfl rfl ?_
    refine W.q (Ev.move (.t rfl)) rfl ?_
    refine W.gyes rfl rfl ?_
    refine W.q (Ev.move (.t rfl)) rfl ?_
    refine W.gyes rfl rfl ?_
    refine W.q (Ev.cat .k (.t rfl) (fun _ => by first | omega | (simp only [List.length_append]; omega) | (simp [-List.length_flatMap]; omega) | (simp; omega))) rfl ?_
    refine W.gyes rfl rfl ?_
    refine W.q (Ev.cat (.t rfl) .k (fun _ => by first | omega | (simp only [List.length_append]; omega) | (simp [-List.length_flatMap]; omega) | (simp; omega))) rfl ?_
    refine W.gyes rfl rfl ?_
    refine W.q (Ev.move (.t rfl)) rfl ?_
    refine W.gyes rfl rfl ?_
    refine W.q (Ev.cat (.t rfl) (.t rfl) (fun _ => by first | omega | (simp only [List.length_append]; omega) | (simp [-List.length_flatMap]; omega) | (simp; omega))) rfl ?_
    refine W.gyes rfl rfl ?_
    refine W.q (Ev.cat (.t rfl) .k (fun _ => by first | omega | (simp only [List.length_append]; omega) | (simp [-List.length_flatMap]; omega) | (simp; omega))) rfl ?_
    refine W.gyes rfl rfl ?_
    refine W.q (Ev.move (.t rfl)) rfl ?_
    refine W.gyes rfl rfl ?_
    refine W.q (Ev.cat .k (.t rfl) (fun _ => by first | omega | (simp only [List.length_append]; omega) | (simp [-List.length_flatMap]; omega) | (simp; omega))) rfl ?_
    refine W.gyes rfl rfl ?_
    refine W.q (Ev.cat (.t rfl) .k (fun _ => by first | omega | (simp only [List.length_append]; omega) | (simp [-List.length_flatMap]; omega) | (simp; omega))) rfl ?_
    refine W.gyes rfl rfl ?_
    refine W.q (Ev.move (.t rfl)) rfl ?_
    refine W.gyes rfl rfl ?_
    refine W.q (Ev.cat (.t rfl) (.t rfl) (fun _ => by first | omega | (simp only [List.length_append]; omega) | (simp [-List.length_flatMap]; omega) | (simp; omega))) rfl ?_
    refine W.gyes rfl rfl ?_
    refine W.q (Ev.cat (.t rfl) .k (fun _ => by first | omega | (simp only [List.length_append]; omega) | (simp [-List.length_flatMap]; omega) | (simp; omega))) rfl ?_
    refine W.gyes rfl rfl ?_
    refine W.q (Ev.move (.t rfl)) rfl ?_
    refine W.gyes rfl rfl ?_
    refine W.q (Ev.cat (.t rfl) (.t rfl) (fun _ => by first | omega | (simp only [List.length_append]; omega) | (simp [-List.length_flatMap]; omega) | (simp; omega))) rfl ?_
    refine W.gyes rfl rfl ?_
    refine W.q (Ev.cat (.t rfl) .k (fun _ => by first | omega | (simp only [List.length_append]; omega) | (simp [-List.length_flatMap]; omega) | (simp; omega))) rfl ?_
    refine W.gyes rfl rfl ?_
    refine W.callv (caps := [Value.pointer (some ⟨b15, 0, none⟩)]) (avs := [_, _]) (q147 b15) (.t rfl) ⟨(.t rfl), (.t rfl), trivial⟩ rfl (.refl _) rfl ?_
    rintro _ _ ⟨rfl, rfl⟩
    refine W.q (Ev.and (.t rfl) ⟨_, _, rfl, rfl, by first | (simp; done) | (intro hg_ hp_; simp [hp_]; done) | (simp <;> omega; done) | (simp_all; done) | grind⟩) rfl ?_
    refine W.q (Ev.assign (.t rfl)) rfl ?_
    refine W.nil ?_
    refine W.then ?_
    refine W.ret ?_
    refine W.retn (M' := []) (D := _) (rs := [.tmp 8]) (avs := [_]) Try.results4 ⟨rfl, trivial⟩ rfl (.refl _) ?_
    exact ⟨rfl, rfl⟩

end LExprAlgebra

end Go.Proofs.Ythhkionhimbekaa
