/-
  Expressions that are drawn.
-/
import Derived.Test.YthhkionhimbekaaReach
import Derived.Test.YthhkionhimbekaaBase
set_option linter.unusedVariables false
set_option linter.unusedSimpArgs false
set_option maxRecDepth 100000
namespace Go.Proofs.Ythhkionhimbekaa
open Go.Vl

namespace WDrawX
theorem ty3 : Ty Try.prog 3 1 8 (.int .i64 0) := Ty.of (by kernel_rfl)
theorem ty9 : Ty Try.prog 9 1 16 (.string ⟨#[]⟩) := Ty.of (by kernel_rfl)
theorem ag3 : IsAgg Try.prog 3 false := ⟨_, Try.underlying3, rfl⟩
theorem ag9 : IsAgg Try.prog 9 false := ⟨_, Try.underlying9, rfl⟩
theorem c_ExprText_step (d : Nat) (hd : d ≤ 10) (ih : 2 ≤ d → ∀ l : List Int, l.length ≤ 1048576 → FnC Try.prog 7 [.sl 1 ((l).map AV.int), .int ((d - 1 : Nat) : Int)] [] (fun r M => M = [] ∧ ∃ (s : List It) (rest : List Int), r = .tup [.str (It.stx s), .sl 1 (rest.map AV.int)] ∧ Dx (d - 1) s ∧ rest.length ≤ (l).length)) (l : List Int) (hl : l.length ≤ 1048576) : FnC Try.prog 7 [.sl 1 ((l).map AV.int), .int ((d : Nat) : Int)] [] (fun r M => M = [] ∧ ∃ (s : List It) (rest : List Int), r = .tup [.str (It.stx s), .sl 1 (rest.map AV.int)] ∧ Dx (d) s ∧ rest.length ≤ (l).length) :=  by
  refine FnC.mk Try.func7 (by kernel_rfl) rfl Try.ntmps7 rfl (fun w0 F => ?_)
  have hll : (l.map AV.int).length = l.length := List.length_map ..
  have htb := tb_ge d
  refine W.seq ?_
  refine W.region ?_
  refine W.q (Ev.assign .k) rfl ?_
  refine W.q (Ev.assign .k) rfl ?_
  refine W.nil ?_
  refine W.then ?_
  refine W.seq ?_
  refine W.region ?_
  refine W.q (Ev.assign .k) rfl ?_
  refine W.nil ?_
  refine W.then ?_
  refine W.seq ?_
  refine W.seq ?_
  refine W.region ?_
  refine W.q (Ev.move (.t rfl)) rfl ?_
  first | refine W.q (Ev.lensl (.t rfl) Try.underlying22) rfl ?_ | refine W.q (Ev.lenar (i := 0) (.t rfl) rfl Try.underlying22) rfl ?_ | refine W.q (Ev.lenar (i := 1) (.t rfl) rfl Try.underlying22) rfl ?_ | refine W.q (Ev.lenar (i := 2) (.t rfl) rfl Try.underlying22) rfl ?_ | refine W.q (Ev.lenar (i := 3) (.t rfl) rfl Try.underlying22) rfl ?_
  refine W.q (Ev.gti (.t rfl) .k) rfl ?_
  refine W.nil ?_
  refine W.then ?_
  refine W.cond (.t rfl) (fun hc_t12 => ?_) (fun hc_t12 => ?_)
  · obtain ⟨x, l2, rfl⟩ : ∃ x l2, l = x :: l2 := List.exists_cons_of_ne_nil (by intro h; rw [h] at hc_t12; simp at hc_t12)
    have hl2l : l2.length ≤ (x :: l2).length := by simp
    rw [List.length_cons] at hl
    refine W.seq ?_
    refine W.region ?_
    refine W.q (Ev.move (.t rfl)) rfl ?_
    refine W.q (Ev.at (E := 3) (.t rfl) .k Try.underlying22 ty3 (e := .int x) (fun _ => ⟨by decide, rfl⟩) rfl rfl) rfl ?_
    first | refine W.q (Ev.lde1 (.t rfl) ag3) rfl ?_ | refine W.q (Ev.ldb1 0 (.t rfl) rfl ag3 rfl) rfl ?_ | refine W.q (Ev.ldb1 1 (.t rfl) rfl ag3 rfl) rfl ?_ | refine W.q (Ev.ldb1 2 (.t rfl) rfl ag3 rfl) rfl ?_ | refine W.q (Ev.ldb1 3 (.t rfl) rfl ag3 rfl) rfl ?_
    refine W.q (Ev.assign (.t rfl)) rfl ?_
    refine W.nil ?_
    refine W.then ?_
    refine W.region ?_
    refine W.q (Ev.move (.t rfl)) rfl ?_
    refine W.q (Ev.subsl (lo := some (.const (.int .i64 1))) (hi := none) (.t rfl) Try.underlying22 ty3 (Ov.k (g := true) (L := [])) rfl (fun _ => by first | omega | (simp; omega))) rfl ?_
    refine W.q (Ev.assign (.t rfl)) rfl ?_
    refine W.nil ?_
    refine W.is (t := 0) (g := true) (av' := .sl 1 (l2.map AV.int)) rfl (congrArg (AV.sl 1) (by rw [List.take_of_length_le (by simp)]; rfl)) ?_
    refine W.then ?_
    refine W.seq ?_
    refine W.region ?_
    refine W.q (Ev.move (.t rfl)) rfl ?_
    refine W.callp (Base.c_Picked x 9 (by decide) (by decide)) ⟨(.t rfl), .k, trivial⟩ rfl ?_
    refine W.q (Ev.assign (.t rfl)) rfl ?_
    refine W.nil ?_
    obtain ⟨k9, hk9, lk9⟩ : ∃ k : Nat, x % 9 = (k : Int) ∧ k < 9 := ⟨(x % 9).toNat, by have := Int.emod_nonneg x (show (9 : Int) ≠ 0 by decide); omega, by have := Int.emod_lt_of_pos x (show (0 : Int) < 9 by decide); omega⟩
    refine W.is (t := 7) (g := true) (av' := .int (k9 : Int)) rfl (congrArg AV.int hk9) ?_
    refine W.then ?_
    refine W.seq ?_
    refine W.seq ?_
    refine W.region ?_
    refine W.q (Ev.move (.t rfl)) rfl ?_
    refine W.q (Ev.lei (.t rfl) .k) rfl ?_
    refine W.q (Ev.move (.t rfl)) rfl ?_
    refine W.qgF rfl rfl (Ev.move (.t rfl)) rfl ?_
    refine W.qgF rfl rfl (Ev.lti (.c rfl) .k) rfl ?_
    refine W.q (Ev.or (.t rfl) ⟨_, _, rfl, rfl, by first | (simp; done) | (intro hg_ hp_; simp [hp_]; done) | (simp <;> omega; done) | (simp_all; done) | grind⟩) rfl ?_
    refine W.nil ?_
    refine W.then ?_
    refine W.cond (.t rfl) (fun hc_t25 => ?_) (fun hc_t25 => ?_)
    · obtain ⟨n1, hn1, ln1⟩ : ∃ k : Nat, IntKind.i64.wrap (x.tdiv 9) % 3 = (k : Int) ∧ k < 3 := ⟨(IntKind.i64.wrap (x.tdiv 9) % 3).toNat, by have := Int.emod_nonneg (IntKind.i64.wrap (x.tdiv 9)) (show (3 : Int) ≠ 0 by decide); omega, by have := Int.emod_lt_of_pos (IntKind.i64.wrap (x.tdiv 9)) (show (0 : Int) < 3 by decide); omega⟩
      obtain ⟨p1, hp1, lp1⟩ : ∃ k : Nat, IntKind.i64.wrap (x.tdiv 27) % 4 = (k : Int) ∧ k < 4 := ⟨(IntKind.i64.wrap (x.tdiv 27) % 4).toNat, by have := Int.emod_nonneg (IntKind.i64.wrap (x.tdiv 27)) (show (4 : Int) ≠ 0 by decide); omega, by have := Int.emod_lt_of_pos (IntKind.i64.wrap (x.tdiv 27)) (show (0 : Int) < 4 by decide); omega⟩
      have hL4 : ∀ k, k < 4 → ([[], [], [42], [63]].getD k [] : List UInt8).length ≤ 1 := by decide
      refine W.seq ?_
      refine W.drawnE (ι := Unit) (fun _ _ => _) 15 () (by kernel_rfl) (by kernel_rfl) rfl ?_
      refine DE.q (fun e c hk => (Ev.move (.t rfl))) rfl (fun _ _ => rfl) (by first | exact .inr (fun _ _ => rfl) | exact .inl (by kernel_rfl)) ?_
      first | refine DE.q (fun e c hk => (Ev.quo (.t rfl) .k (fun _ => by decide))) rfl (fun _ _ => rfl) (by first | exact .inr (fun _ _ => rfl) | exact .inl (by kernel_rfl)) ?_ | refine DE.q (fun e c hk => (Ev.quo (.t rfl) .k (fun _ => by omega))) rfl (fun _ _ => rfl) (by first | exact .inr (fun _ _ => rfl) | exact .inl (by kernel_rfl)) ?_
      refine DE.callp (fun c => Base.c_Picked (IntKind.i64.wrap (x.tdiv 9)) 3 (by decide) (by decide)) (fun c => ⟨(.t rfl), .k, trivial⟩) rfl (fun _ _ => rfl) (by first | exact .inr (fun _ _ => rfl) | exact .inl (by kernel_rfl)) ?_
      refine DE.q (fun e c hk => Ev.subs (lo := some (.tmp 28)) (hi := none) .k Try.underlying9 (.t rfl) rfl (fun _ => ⟨by omega, by show _ ≤ (3 : Int); omega, Int.le_refl _⟩)) rfl (fun _ _ => rfl) (by first | exact .inr (fun _ _ => rfl) | exact .inl (by kernel_rfl)) ?_
      refine DE.q (fun e c hk => Ev.subs (lo := none) (hi := some (.const (.int .i64 1))) (.t rfl) Try.underlying9 rfl (Ov.k (g := true) (L := [])) (fun _ => ⟨by decide, by decide, by rw [hn1]; simp; omega⟩)) rfl (fun _ _ => rfl) (by first | exact .inr (fun _ _ => rfl) | exact .inl (by kernel_rfl)) ?_
      refine DE.bs (es := fun _ => [_, _, _, _]) Try.underlying42 ty9 (fun c => ⟨rfl, .k, rfl, rfl, rfl, .k, rfl, rfl, rfl, .k, rfl, rfl, rfl, .k, rfl, rfl, trivial⟩) (fun _ => rfl) (by decide) rfl rfl (fun _ _ => rfl) (by first | exact .inr (fun _ _ => rfl) | exact .inl (by kernel_rfl)) ?_
      refine DE.q (fun e c hk => (Ev.move (.t rfl))) rfl (fun _ _ => rfl) (by first | exact .inr (fun _ _ => rfl) | exact .inl (by kernel_rfl)) ?_
      first | refine DE.q (fun e c hk => (Ev.quo (.t rfl) .k (fun _ => by decide))) rfl (fun _ _ => rfl) (by first | exact .inr (fun _ _ => rfl) | exact .inl (by kernel_rfl)) ?_ | refine DE.q (fun e c hk => (Ev.quo (.t rfl) .k (fun _ => by omega))) rfl (fun _ _ => rfl) (by first | exact .inr (fun _ _ => rfl) | exact .inl (by kernel_rfl)) ?_
      refine DE.callp (fun c => Base.c_Picked (IntKind.i64.wrap (x.tdiv 27)) 4 (by decide) (by decide)) (fun c => ⟨(.t rfl), .k, trivial⟩) rfl (fun _ _ => rfl) (by first | exact .inr (fun _ _ => rfl) | exact .inl (by kernel_rfl)) ?_
      refine DE.q (fun e c hk => Ev.at (E := 9) (.t rfl) (.t rfl) Try.underlying42 ty9 (e := .str ([[], [], [42], [63]].getD p1 [])) (fun _ => ⟨by omega, by rw [hp1, Int.toNat_natCast]; exact getD_mapG AV.str [] [[], [], [42], [63]] p1 lp1⟩) rfl rfl) rfl (fun _ _ => rfl) (by first | exact .inr (fun _ _ => rfl) | exact .inl (by kernel_rfl)) ?_
      first | refine DE.q (fun e c hk => (Ev.lde1 (.t rfl) ag9)) rfl (fun _ _ => rfl) (by first | exact .inr (fun _ _ => rfl) | exact .inl (by kernel_rfl)) ?_ | refine DE.q (fun e c hk => (Ev.ldb1 0 (.t rfl) rfl ag9 rfl)) rfl (fun _ _ => rfl) (by first | exact .inr (fun _ _ => rfl) | exact .inl (by kernel_rfl)) ?_ | refine DE.q (fun e c hk => (Ev.ldb1 1 (.t rfl) rfl ag9 rfl)) rfl (fun _ _ => rfl) (by first | exact .inr (fun _ _ => rfl) | exact .inl (by kernel_rfl)) ?_ | refine DE.q (fun e c hk => (Ev.ldb1 2 (.t rfl) rfl ag9 rfl)) rfl (fun _ _ => rfl) (by first | exact .inr (fun _ _ => rfl) | exact .inl (by kernel_rfl)) ?_ | refine DE.q (fun e c hk => (Ev.ldb1 3 (.t rfl) rfl ag9 rfl)) rfl (fun _ _ => rfl) (by first | exact .inr (fun _ _ => rfl) | exact .inl (by kernel_rfl)) ?_
      refine DE.q (fun e c hk => Ev.cat (.t rfl) (.t rfl) (fun _ => by have h1 := hL4 p1 lp1; simp only [List.length_drop, List.length_take]; omega)) rfl (fun _ _ => rfl) (by first | exact .inr (fun _ _ => rfl) | exact .inl (by kernel_rfl)) ?_
      refine DE.q (fun e c hk => (Ev.move (.t rfl))) rfl (fun _ _ => rfl) (by first | exact .inr (fun _ _ => rfl) | exact .inl (by kernel_rfl)) ?_
      refine DE.q (fun e c hk => (Ev.assign (.t rfl))) rfl (fun _ _ => rfl) (by first | exact .inr (fun _ _ => rfl) | exact .inl (by kernel_rfl)) ?_
      refine DE.q (fun e c hk => (Ev.assign (.t rfl))) rfl (fun _ _ => rfl) (by first | exact .inr (fun _ _ => rfl) | exact .inl (by kernel_rfl)) ?_
      refine DE.nil (fun c_ e_ he_ => ?_)
      dsimp only
      refine W.then ?_
      refine W.ret ?_
      refine W.then_ret ?_
      refine W.retn (M' := []) (rs := [.tmp 4, .tmp 5]) (avs := [_, _]) Try.results7 ⟨rfl, rfl, trivial⟩ rfl (.refl _) ?_
      first
      | (refine ⟨rfl, [It.ch n1 (Dx.sf4 p1)], l2, congrArg (fun z => AV.tup [AV.str z, _]) ?_, Dx.leaf d n1 _ ln1 (Dx.sf4_in p1), hl2l⟩; rw [hn1]; exact Dx.leaf_tx n1 p1 ln1 lp1)
      | (refine ⟨rfl, s1 ++ s2, r2, congrArg (fun z => AV.tup [AV.str z, _]) ?_, Dx.cat hd2 hs1 hs2, ?_⟩; exact (It.stx_append s1 s2).symm; (first | exact hl2l | omega | (simp only [List.length_cons] at *; omega)))
      | (refine ⟨rfl, [It.gr s1 [s2] []], r2, congrArg (fun z => AV.tup [AV.str z, _]) ?_, Dx.alt hd2 hs1 hs2 [] (.inl rfl), ?_⟩; exact Dx.alt_tx s1 s2; (first | exact hl2l | omega | (simp only [List.length_cons] at *; omega)))
      | (refine ⟨rfl, [It.gr s1 [s2] [0]], r2, congrArg (fun z => AV.tup [AV.str z, _]) ?_, Dx.alt hd2 hs1 hs2 [0] (.inr rfl), ?_⟩; exact Dx.alts_tx s1 s2; (first | exact hl2l | omega | (simp only [List.length_cons] at *; omega)))
      | (refine ⟨rfl, [It.gr (s1 ++ s2) [] [q1 + 1]], r2, congrArg (fun z => AV.tup [AV.str z, _]) ?_, Dx.grp hd2 hs1 hs2 (q1 + 1) (by omega), ?_⟩; exact Dx.grp_tx s1 s2 q1 lq1; (first | exact hl2l | omega | (simp only [List.length_cons] at *; omega)))
    · have h25 := hc_t25
      simp only [Bool.or_eq_false_iff, decide_eq_false_iff_not] at h25
      have hd2 : 2 ≤ d := by omega
      obtain ⟨q1, hq1, lq1⟩ : ∃ k : Nat, IntKind.i64.wrap (x.tdiv 9) % 2 = (k : Int) ∧ k < 2 := ⟨(IntKind.i64.wrap (x.tdiv 9) % 2).toNat, by have := Int.emod_nonneg (IntKind.i64.wrap (x.tdiv 9)) (show (2 : Int) ≠ 0 by decide); omega, by have := Int.emod_lt_of_pos (IntKind.i64.wrap (x.tdiv 9)) (show (0 : Int) < 2 by decide); omega⟩
      have hL2 : ∀ k, k < 2 → ([[43], [63]].getD k [] : List UInt8).length ≤ 1 := by decide
      refine W.skip ?_
      refine W.then ?_
      refine W.seq ?_
      refine W.region ?_
      refine W.q (Ev.move (.t rfl)) rfl ?_
      refine W.q (Ev.move (.t rfl)) rfl ?_
      refine W.q (Ev.sub (.t rfl) .k (fun _ => by omega)) rfl ?_
      refine W.is (t := 42) (g := true) (av' := .int ((d - 1 : Nat) : Int)) rfl (congrArg AV.int (by omega)) ?_
      refine W.call (ih hd2 l2 (by omega)) ⟨(.t rfl), (.t rfl), trivial⟩ (.refl _) rfl ?_
      rintro _ _ ⟨rfl, s1, r1, rfl, hs1, hr1⟩
      refine W.q (Ev.move (.t rfl)) rfl ?_
      refine W.q (Ev.extract (.t rfl) rfl) rfl ?_
      refine W.q (Ev.extract (.t rfl) rfl) rfl ?_
      refine W.q (Ev.assign (.t rfl)) rfl ?_
      refine W.q (Ev.assign (.t rfl)) rfl ?_
      refine W.nil ?_
      refine W.then ?_
      refine W.seq ?_
      refine W.region ?_
      refine W.q (Ev.move (.t rfl)) rfl ?_
      refine W.q (Ev.move (.t rfl)) rfl ?_
      refine W.q (Ev.sub (.t rfl) .k (fun _ => by omega)) rfl ?_
      refine W.is (t := 49) (g := true) (av' := .int ((d - 1 : Nat) : Int)) rfl (congrArg AV.int (by omega)) ?_
      refine W.call (ih hd2 r1 (by omega)) ⟨(.t rfl), (.t rfl), trivial⟩ (.refl _) rfl ?_
      rintro _ _ ⟨rfl, s2, r2, rfl, hs2, hr2⟩
      have hl1 := hs1.len
      have hl2 := hs2.len
      have htd := (tb_step d hd2).1
      have htm := tb_small d hd
      refine W.q (Ev.move (.t rfl)) rfl ?_
      refine W.q (Ev.extract (.t rfl) rfl) rfl ?_
      refine W.q (Ev.extract (.t rfl) rfl) rfl ?_
      refine W.q (Ev.assign (.t rfl)) rfl ?_
      refine W.q (Ev.assign (.t rfl)) rfl ?_
      refine W.nil ?_
      refine W.then ?_
      refine W.seq ?_
      refine W.block ?_
      refine W.seq ?_
      refine W.region ?_
      refine W.q (Ev.move (.t rfl)) rfl ?_
      refine W.q (Ev.lti (.t rfl) .k) rfl ?_
      refine W.q (Ev.assign (.t rfl)) rfl ?_
      refine W.nil ?_
      refine W.then ?_
      refine W.cond (.t rfl) (fun hc_t53 => ?_) (fun hc_t53 => ?_)
      · refine W.seq ?_
        refine W.region ?_
        refine W.q (Ev.move (.t rfl)) rfl ?_
        refine W.q (Ev.move (.t rfl)) rfl ?_
        refine W.q (Ev.cat (.t rfl) (.t rfl) (fun _ => by first | omega | (simp only [List.length_append]; omega) | (simp [-List.length_flatMap]; omega) | (simp; omega))) rfl ?_
        refine W.q (Ev.move (.t rfl)) rfl ?_
        refine W.q (Ev.assign (.t rfl)) rfl ?_
        refine W.q (Ev.assign (.t rfl)) rfl ?_
        refine W.nil ?_
        refine W.then ?_
        refine W.ret ?_
        refine W.blk_ret ?_
        refine W.then_ret ?_
        refine W.retn (M' := []) (rs := [.tmp 4, .tmp 5]) (avs := [_, _]) Try.results7 ⟨rfl, rfl, trivial⟩ rfl (.refl _) ?_
        first
        | (refine ⟨rfl, [It.ch n1 (Dx.sf4 p1)], l2, congrArg (fun z => AV.tup [AV.str z, _]) ?_, Dx.leaf d n1 _ ln1 (Dx.sf4_in p1), hl2l⟩; rw [hn1]; exact Dx.leaf_tx n1 p1 ln1 lp1)
        | (refine ⟨rfl, s1 ++ s2, r2, congrArg (fun z => AV.tup [AV.str z, _]) ?_, Dx.cat hd2 hs1 hs2, ?_⟩; exact (It.stx_append s1 s2).symm; (first | exact hl2l | omega | (simp only [List.length_cons] at *; omega)))
        | (refine ⟨rfl, [It.gr s1 [s2] []], r2, congrArg (fun z => AV.tup [AV.str z, _]) ?_, Dx.alt hd2 hs1 hs2 [] (.inl rfl), ?_⟩; exact Dx.alt_tx s1 s2; (first | exact hl2l | omega | (simp only [List.length_cons] at *; omega)))
        | (refine ⟨rfl, [It.gr s1 [s2] [0]], r2, congrArg (fun z => AV.tup [AV.str z, _]) ?_, Dx.alt hd2 hs1 hs2 [0] (.inr rfl), ?_⟩; exact Dx.alts_tx s1 s2; (first | exact hl2l | omega | (simp only [List.length_cons] at *; omega)))
        | (refine ⟨rfl, [It.gr (s1 ++ s2) [] [q1 + 1]], r2, congrArg (fun z => AV.tup [AV.str z, _]) ?_, Dx.grp hd2 hs1 hs2 (q1 + 1) (by omega), ?_⟩; exact Dx.grp_tx s1 s2 q1 lq1; (first | exact hl2l | omega | (simp only [List.length_cons] at *; omega)))
      · refine W.seq ?_
        refine W.region ?_
        refine W.q (Ev.move (.t rfl)) rfl ?_
        refine W.q (Ev.eqi (.t rfl) .k) rfl ?_
        refine W.q (Ev.assign (.t rfl)) rfl ?_
        refine W.nil ?_
        refine W.then ?_
        refine W.cond (.t rfl) (fun hc_t60 => ?_) (fun hc_t60 => ?_)
        · refine W.seq ?_
          refine W.region ?_
          refine W.q (Ev.move (.t rfl)) rfl ?_
          refine W.q (Ev.cat .k (.t rfl) (fun _ => by first | omega | (simp only [List.length_append]; omega) | (simp [-List.length_flatMap]; omega) | (simp; omega))) rfl ?_
          refine W.q (Ev.cat (.t rfl) .k (fun _ => by first | omega | (simp only [List.length_append]; omega) | (simp [-List.length_flatMap]; omega) | (simp; omega))) rfl ?_
          refine W.q (Ev.move (.t rfl)) rfl ?_
          refine W.q (Ev.cat (.t rfl) (.t rfl) (fun _ => by first | omega | (simp only [List.length_append]; omega) | (simp [-List.length_flatMap]; omega) | (simp; omega))) rfl ?_
          refine W.q (Ev.cat (.t rfl) .k (fun _ => by first | omega | (simp only [List.length_append]; omega) | (simp [-List.length_flatMap]; omega) | (simp; omega))) rfl ?_
          refine W.q (Ev.move (.t rfl)) rfl ?_
          refine W.q (Ev.assign (.t rfl)) rfl ?_
          refine W.q (Ev.assign (.t rfl)) rfl ?_
          refine W.nil ?_
          refine W.then ?_
          refine W.ret ?_
          refine W.blk_ret ?_
          refine W.then_ret ?_
          refine W.retn (M' := []) (rs := [.tmp 4, .tmp 5]) (avs := [_, _]) Try.results7 ⟨rfl, rfl, trivial⟩ rfl (.refl _) ?_
          first
          | (refine ⟨rfl, [It.ch n1 (Dx.sf4 p1)], l2, congrArg (fun z => AV.tup [AV.str z, _]) ?_, Dx.leaf d n1 _ ln1 (Dx.sf4_in p1), hl2l⟩; rw [hn1]; exact Dx.leaf_tx n1 p1 ln1 lp1)
          | (refine ⟨rfl, s1 ++ s2, r2, congrArg (fun z => AV.tup [AV.str z, _]) ?_, Dx.cat hd2 hs1 hs2, ?_⟩; exact (It.stx_append s1 s2).symm; (first | exact hl2l | omega | (simp only [List.length_cons] at *; omega)))
          | (refine ⟨rfl, [It.gr s1 [s2] []], r2, congrArg (fun z => AV.tup [AV.str z, _]) ?_, Dx.alt hd2 hs1 hs2 [] (.inl rfl), ?_⟩; exact Dx.alt_tx s1 s2; (first | exact hl2l | omega | (simp only [List.length_cons] at *; omega)))
          | (refine ⟨rfl, [It.gr s1 [s2] [0]], r2, congrArg (fun z => AV.tup [AV.str z, _]) ?_, Dx.alt hd2 hs1 hs2 [0] (.inr rfl), ?_⟩; exact Dx.alts_tx s1 s2; (first | exact hl2l | omega | (simp only [List.length_cons] at *; omega)))
          | (refine ⟨rfl, [It.gr (s1 ++ s2) [] [q1 + 1]], r2, congrArg (fun z => AV.tup [AV.str z, _]) ?_, Dx.grp hd2 hs1 hs2 (q1 + 1) (by omega), ?_⟩; exact Dx.grp_tx s1 s2 q1 lq1; (first | exact hl2l | omega | (simp only [List.length_cons] at *; omega)))
        · refine W.seq ?_
          refine W.region ?_
          refine W.q (Ev.move (.t rfl)) rfl ?_
          refine W.q (Ev.eqi (.t rfl) .k) rfl ?_
          refine W.q (Ev.assign (.t rfl)) rfl ?_
          refine W.nil ?_
          refine W.then ?_
          refine W.cond (.t rfl) (fun hc_t70 => ?_) (fun hc_t70 => ?_)
          · refine W.seq ?_
            refine W.region ?_
            refine W.q (Ev.move (.t rfl)) rfl ?_
            refine W.q (Ev.cat .k (.t rfl) (fun _ => by first | omega | (simp only [List.length_append]; omega) | (simp [-List.length_flatMap]; omega) | (simp; omega))) rfl ?_
            refine W.q (Ev.cat (.t rfl) .k (fun _ => by first | omega | (simp only [List.length_append]; omega) | (simp [-List.length_flatMap]; omega) | (simp; omega))) rfl ?_
            refine W.q (Ev.move (.t rfl)) rfl ?_
            refine W.q (Ev.cat (.t rfl) (.t rfl) (fun _ => by first | omega | (simp only [List.length_append]; omega) | (simp [-List.length_flatMap]; omega) | (simp; omega))) rfl ?_
            refine W.q (Ev.cat (.t rfl) .k (fun _ => by first | omega | (simp only [List.length_append]; omega) | (simp [-List.length_flatMap]; omega) | (simp; omega))) rfl ?_
            refine W.q (Ev.move (.t rfl)) rfl ?_
            refine W.q (Ev.assign (.t rfl)) rfl ?_
            refine W.q (Ev.assign (.t rfl)) rfl ?_
            refine W.nil ?_
            refine W.then ?_
            refine W.ret ?_
            refine W.blk_ret ?_
            refine W.then_ret ?_
            refine W.retn (M' := []) (rs := [.tmp 4, .tmp 5]) (avs := [_, _]) Try.results7 ⟨rfl, rfl, trivial⟩ rfl (.refl _) ?_
            first
            | (refine ⟨rfl, [It.ch n1 (Dx.sf4 p1)], l2, congrArg (fun z => AV.tup [AV.str z, _]) ?_, Dx.leaf d n1 _ ln1 (Dx.sf4_in p1), hl2l⟩; rw [hn1]; exact Dx.leaf_tx n1 p1 ln1 lp1)
            | (refine ⟨rfl, s1 ++ s2, r2, congrArg (fun z => AV.tup [AV.str z, _]) ?_, Dx.cat hd2 hs1 hs2, ?_⟩; exact (It.stx_append s1 s2).symm; (first | exact hl2l | omega | (simp only [List.length_cons] at *; omega)))
            | (refine ⟨rfl, [It.gr s1 [s2] []], r2, congrArg (fun z => AV.tup [AV.str z, _]) ?_, Dx.alt hd2 hs1 hs2 [] (.inl rfl), ?_⟩; exact Dx.alt_tx s1 s2; (first | exact hl2l | omega | (simp only [List.length_cons] at *; omega)))
            | (refine ⟨rfl, [It.gr s1 [s2] [0]], r2, congrArg (fun z => AV.tup [AV.str z, _]) ?_, Dx.alt hd2 hs1 hs2 [0] (.inr rfl), ?_⟩; exact Dx.alts_tx s1 s2; (first | exact hl2l | omega | (simp only [List.length_cons] at *; omega)))
            | (refine ⟨rfl, [It.gr (s1 ++ s2) [] [q1 + 1]], r2, congrArg (fun z => AV.tup [AV.str z, _]) ?_, Dx.grp hd2 hs1 hs2 (q1 + 1) (by omega), ?_⟩; exact Dx.grp_tx s1 s2 q1 lq1; (first | exact hl2l | omega | (simp only [List.length_cons] at *; omega)))
          · refine W.skip ?_
            refine W.blk_normal ?_
            refine W.then ?_
            refine W.seq ?_
            refine W.region ?_
            refine W.q (Ev.move (.t rfl)) rfl ?_
            refine W.q (Ev.cat .k (.t rfl) (fun _ => by first | omega | (simp only [List.length_append]; omega) | (simp [-List.length_flatMap]; omega) | (simp; omega))) rfl ?_
            refine W.q (Ev.move (.t rfl)) rfl ?_
            refine W.q (Ev.cat (.t rfl) (.t rfl) (fun _ => by first | omega | (simp only [List.length_append]; omega) | (simp [-List.length_flatMap]; omega) | (simp; omega))) rfl ?_
            refine W.q (Ev.cat (.t rfl) .k (fun _ => by first | omega | (simp only [List.length_append]; omega) | (simp [-List.length_flatMap]; omega) | (simp; omega))) rfl ?_
            refine W.bs (es := [_, _]) Try.underlying42 ty9 ⟨rfl, .k, rfl, rfl, rfl, .k, rfl, rfl, trivial⟩ rfl (by decide) rfl rfl ?_
            refine W.q (Ev.move (.t rfl)) rfl ?_
            first | refine W.q (Ev.quo (.t rfl) .k (fun _ => by decide)) rfl ?_ | refine W.q (Ev.quo (.t rfl) .k (fun _ => by omega)) rfl ?_
            refine W.callp (Base.c_Picked (IntKind.i64.wrap (x.tdiv 9)) 2 (by decide) (by decide)) ⟨(.t rfl), .k, trivial⟩ rfl ?_
            refine W.q (Ev.at (E := 9) (.t rfl) (.t rfl) Try.underlying42 ty9 (e := .str ([[43], [63]].getD q1 [])) (fun _ => ⟨by omega, by rw [hq1, Int.toNat_natCast]; exact getD_mapG AV.str [] [[43], [63]] q1 lq1⟩) rfl rfl) rfl ?_
            first | refine W.q (Ev.lde1 (.t rfl) ag9) rfl ?_ | refine W.q (Ev.ldb1 0 (.t rfl) rfl ag9 rfl) rfl ?_ | refine W.q (Ev.ldb1 1 (.t rfl) rfl ag9 rfl) rfl ?_ | refine W.q (Ev.ldb1 2 (.t rfl) rfl ag9 rfl) rfl ?_ | refine W.q (Ev.ldb1 3 (.t rfl) rfl ag9 rfl) rfl ?_
            refine W.q (Ev.cat (.t rfl) (.t rfl) (fun _ => by have h1 := hL2 q1 lq1; simp only [List.length_append, List.length_cons, List.length_nil]; omega)) rfl ?_
            refine W.q (Ev.move (.t rfl)) rfl ?_
            refine W.q (Ev.assign (.t rfl)) rfl ?_
            refine W.q (Ev.assign (.t rfl)) rfl ?_
            refine W.nil ?_
            refine W.then ?_
            refine W.ret ?_
            refine W.retn (M' := []) (rs := [.tmp 4, .tmp 5]) (avs := [_, _]) Try.results7 ⟨rfl, rfl, trivial⟩ rfl (.refl _) ?_
            first
            | (refine ⟨rfl, [It.ch n1 (Dx.sf4 p1)], l2, congrArg (fun z => AV.tup [AV.str z, _]) ?_, Dx.leaf d n1 _ ln1 (Dx.sf4_in p1), hl2l⟩; rw [hn1]; exact Dx.leaf_tx n1 p1 ln1 lp1)
            | (refine ⟨rfl, s1 ++ s2, r2, congrArg (fun z => AV.tup [AV.str z, _]) ?_, Dx.cat hd2 hs1 hs2, ?_⟩; exact (It.stx_append s1 s2).symm; (first | exact hl2l | omega | (simp only [List.length_cons] at *; omega)))
            | (refine ⟨rfl, [It.gr s1 [s2] []], r2, congrArg (fun z => AV.tup [AV.str z, _]) ?_, Dx.alt hd2 hs1 hs2 [] (.inl rfl), ?_⟩; exact Dx.alt_tx s1 s2; (first | exact hl2l | omega | (simp only [List.length_cons] at *; omega)))
            | (refine ⟨rfl, [It.gr s1 [s2] [0]], r2, congrArg (fun z => AV.tup [AV.str z, _]) ?_, Dx.alt hd2 hs1 hs2 [0] (.inr rfl), ?_⟩; exact Dx.alts_tx s1 s2; (first | exact hl2l | omega | (simp only [List.length_cons] at *; omega)))
            | (refine ⟨rfl, [It.gr (s1 ++ s2) [] [q1 + 1]], r2, congrArg (fun z => AV.tup [AV.str z, _]) ?_, Dx.grp hd2 hs1 hs2 (q1 + 1) (by omega), ?_⟩; exact Dx.grp_tx s1 s2 q1 lq1; (first | exact hl2l | omega | (simp only [List.length_cons] at *; omega)))
  · obtain ⟨x, hx⟩ : ∃ x : Int, x = 0 := ⟨0, rfl⟩
    refine W.is (t := 6) (g := true) (av' := .int x) rfl (congrArg AV.int hx.symm) ?_
    obtain ⟨l2, hl2⟩ : ∃ l2 : List Int, l2 = l := ⟨l, rfl⟩
    refine W.is (t := 0) (g := true) (av' := .sl 1 (l2.map AV.int)) rfl (by rw [hl2]) ?_
    have hl2l : l2.length ≤ l.length := by rw [hl2]; exact Nat.le_refl _
    refine W.skip ?_
    refine W.then ?_
    refine W.seq ?_
    refine W.region ?_
    refine W.q (Ev.move (.t rfl)) rfl ?_
    refine W.callp (Base.c_Picked x 9 (by decide) (by decide)) ⟨(.t rfl), .k, trivial⟩ rfl ?_
    refine W.q (Ev.assign (.t rfl)) rfl ?_
    refine W.nil ?_
    obtain ⟨k9, hk9, lk9⟩ : ∃ k : Nat, x % 9 = (k : Int) ∧ k < 9 := ⟨(x % 9).toNat, by have := Int.emod_nonneg x (show (9 : Int) ≠ 0 by decide); omega, by have := Int.emod_lt_of_pos x (show (0 : Int) < 9 by decide); omega⟩
    refine W.is (t := 7) (g := true) (av' := .int (k9 : Int)) rfl (congrArg AV.int hk9) ?_
    refine W.then ?_
    refine W.seq ?_
    refine W.seq ?_
    refine W.region ?_
    refine W.q (Ev.move (.t rfl)) rfl ?_
    refine W.q (Ev.lei (.t rfl) .k) rfl ?_
    refine W.q (Ev.move (.t rfl)) rfl ?_
    refine W.qgF rfl rfl (Ev.move (.t rfl)) rfl ?_
    refine W.qgF rfl rfl (Ev.lti (.c rfl) .k) rfl ?_
    refine W.q (Ev.or (.t rfl) ⟨_, _, rfl, rfl, by first | (simp; done) | (intro hg_ hp_; simp [hp_]; done) | (simp <;> omega; done) | (simp_all; done) | grind⟩) rfl ?_
    refine W.nil ?_
    refine W.then ?_
    refine W.cond (.t rfl) (fun hc_t25 => ?_) (fun hc_t25 => ?_)
    · obtain ⟨n1, hn1, ln1⟩ : ∃ k : Nat, IntKind.i64.wrap (x.tdiv 9) % 3 = (k : Int) ∧ k < 3 := ⟨(IntKind.i64.wrap (x.tdiv 9) % 3).toNat, by have := Int.emod_nonneg (IntKind.i64.wrap (x.tdiv 9)) (show (3 : Int) ≠ 0 by decide); omega, by have := Int.emod_lt_of_pos (IntKind.i64.wrap (x.tdiv 9)) (show (0 : Int) < 3 by decide); omega⟩
      obtain ⟨p1, hp1, lp1⟩ : ∃ k : Nat, IntKind.i64.wrap (x.tdiv 27) % 4 = (k : Int) ∧ k < 4 := ⟨(IntKind.i64.wrap (x.tdiv 27) % 4).toNat, by have := Int.emod_nonneg (IntKind.i64.wrap (x.tdiv 27)) (show (4 : Int) ≠ 0 by decide); omega, by have := Int.emod_lt_of_pos (IntKind.i64.wrap (x.tdiv 27)) (show (0 : Int) < 4 by decide); omega⟩
      have hL4 : ∀ k, k < 4 → ([[], [], [42], [63]].getD k [] : List UInt8).length ≤ 1 := by decide
      refine W.seq ?_
      refine W.drawnE (ι := Unit) (fun _ _ => _) 15 () (by kernel_rfl) (by kernel_rfl) rfl ?_
      refine DE.q (fun e c hk => (Ev.move (.t rfl))) rfl (fun _ _ => rfl) (by first | exact .inr (fun _ _ => rfl) | exact .inl (by kernel_rfl)) ?_
      first | refine DE.q (fun e c hk => (Ev.quo (.t rfl) .k (fun _ => by decide))) rfl (fun _ _ => rfl) (by first | exact .inr (fun _ _ => rfl) | exact .inl (by kernel_rfl)) ?_ | refine DE.q (fun e c hk => (Ev.quo (.t rfl) .k (fun _ => by omega))) rfl (fun _ _ => rfl) (by first | exact .inr (fun _ _ => rfl) | exact .inl (by kernel_rfl)) ?_
      refine DE.callp (fun c => Base.c_Picked (IntKind.i64.wrap (x.tdiv 9)) 3 (by decide) (by decide)) (fun c => ⟨(.t rfl), .k, trivial⟩) rfl (fun _ _ => rfl) (by first | exact .inr (fun _ _ => rfl) | exact .inl (by kernel_rfl)) ?_
      refine DE.q (fun e c hk => Ev.subs (lo := some (.tmp 28)) (hi := none) .k Try.underlying9 (.t rfl) rfl (fun _ => ⟨by omega, by show _ ≤ (3 : Int); omega, Int.le_refl _⟩)) rfl (fun _ _ => rfl) (by first | exact .inr (fun _ _ => rfl) | exact .inl (by kernel_rfl)) ?_
      refine DE.q (fun e c hk => Ev.subs (lo := none) (hi := some (.const (.int .i64 1))) (.t rfl) Try.underlying9 rfl (Ov.k (g := true) (L := [])) (fun _ => ⟨by decide, by decide, by rw [hn1]; simp; omega⟩)) rfl (fun _ _ => rfl) (by first | exact .inr (fun _ _ => rfl) | exact .inl (by kernel_rfl)) ?_
      refine DE.bs (es := fun _ => [_, _, _, _]) Try.underlying42 ty9 (fun c => ⟨rfl, .k, rfl, rfl, rfl, .k, rfl, rfl, rfl, .k, rfl, rfl, rfl, .k, rfl, rfl, trivial⟩) (fun _ => rfl) (by decide) rfl rfl (fun _ _ => rfl) (by first | exact .inr (fun _ _ => rfl) | exact .inl (by kernel_rfl)) ?_
      refine DE.q (fun e c hk => (Ev.move (.t rfl))) rfl (fun _ _ => rfl) (by first | exact .inr (fun _ _ => rfl) | exact .inl (by kernel_rfl)) ?_
      first | refine DE.q (fun e c hk => (Ev.quo (.t rfl) .k (fun _ => by decide))) rfl (fun _ _ => rfl) (by first | exact .inr (fun _ _ => rfl) | exact .inl (by kernel_rfl)) ?_ | refine DE.q (fun e c hk => (Ev.quo (.t rfl) .k (fun _ => by omega))) rfl (fun _ _ => rfl) (by first | exact .inr (fun _ _ => rfl) | exact .inl (by kernel_rfl)) ?_
      refine DE.callp (fun c => Base.c_Picked (IntKind.i64.wrap (x.tdiv 27)) 4 (by decide) (by decide)) (fun c => ⟨(.t rfl), .k, trivial⟩) rfl (fun _ _ => rfl) (by first | exact .inr (fun _ _ => rfl) | exact .inl (by kernel_rfl)) ?_
      refine DE.q (fun e c hk => Ev.at (E := 9) (.t rfl) (.t rfl) Try.underlying42 ty9 (e := .str ([[], [], [42], [63]].getD p1 [])) (fun _ => ⟨by omega, by rw [hp1, Int.toNat_natCast]; exact getD_mapG AV.str [] [[], [], [42], [63]] p1 lp1⟩) rfl rfl) rfl (fun _ _ => rfl) (by first | exact .inr (fun _ _ => rfl) | exact .inl (by kernel_rfl)) ?_
      first | refine DE.q (fun e c hk => (Ev.lde1 (.t rfl) ag9)) rfl (fun _ _ => rfl) (by first | exact .inr (fun _ _ => rfl) | exact .inl (by kernel_rfl)) ?_ | refine DE.q (fun e c hk => (Ev.ldb1 0 (.t rfl) rfl ag9 rfl)) rfl (fun _ _ => rfl) (by first | exact .inr (fun _ _ => rfl) | exact .inl (by kernel_rfl)) ?_ | refine DE.q (fun e c hk => (Ev.ldb1 1 (.t rfl) rfl ag9 rfl)) rfl (fun _ _ => rfl) (by first | exact .inr (fun _ _ => rfl) | exact .inl (by kernel_rfl)) ?_ | refine DE.q (fun e c hk => (Ev.ldb1 2 (.t rfl) rfl ag9 rfl)) rfl (fun _ _ => rfl) (by first | exact .inr (fun _ _ => rfl) | exact .inl (by kernel_rfl)) ?_ | refine DE.q (fun e c hk => (Ev.ldb1 3 (.t rfl) rfl ag9 rfl)) rfl (fun _ _ => rfl) (by first | exact .inr (fun _ _ => rfl) | exact .inl (by kernel_rfl)) ?_
      refine DE.q (fun e c hk => Ev.cat (.t rfl) (.t rfl) (fun _ => by have h1 := hL4 p1 lp1; simp only [List.length_drop, List.length_take]; omega)) rfl (fun _ _ => rfl) (by first | exact .inr (fun _ _ => rfl) | exact .inl (by kernel_rfl)) ?_
      refine DE.q (fun e c hk => (Ev.move (.t rfl))) rfl (fun _ _ => rfl) (by first | exact .inr (fun _ _ => rfl) | exact .inl (by kernel_rfl)) ?_
      refine DE.q (fun e c hk => (Ev.assign (.t rfl))) rfl (fun _ _ => rfl) (by first | exact .inr (fun _ _ => rfl) | exact .inl (by kernel_rfl)) ?_
      refine DE.q (fun e c hk => (Ev.assign (.t rfl))) rfl (fun _ _ => rfl) (by first | exact .inr (fun _ _ => rfl) | exact .inl (by kernel_rfl)) ?_
      refine DE.nil (fun c_ e_ he_ => ?_)
      dsimp only
      refine W.then ?_
      refine W.ret ?_
      refine W.then_ret ?_
      refine W.retn (M' := []) (rs := [.tmp 4, .tmp 5]) (avs := [_, _]) Try.results7 ⟨rfl, rfl, trivial⟩ rfl (.refl _) ?_
      first
      | (refine ⟨rfl, [It.ch n1 (Dx.sf4 p1)], l2, congrArg (fun z => AV.tup [AV.str z, _]) ?_, Dx.leaf d n1 _ ln1 (Dx.sf4_in p1), hl2l⟩; rw [hn1]; exact Dx.leaf_tx n1 p1 ln1 lp1)
      | (refine ⟨rfl, s1 ++ s2, r2, congrArg (fun z => AV.tup [AV.str z, _]) ?_, Dx.cat hd2 hs1 hs2, ?_⟩; exact (It.stx_append s1 s2).symm; (first | exact hl2l | omega | (simp only [List.length_cons] at *; omega)))
      | (refine ⟨rfl, [It.gr s1 [s2] []], r2, congrArg (fun z => AV.tup [AV.str z, _]) ?_, Dx.alt hd2 hs1 hs2 [] (.inl rfl), ?_⟩; exact Dx.alt_tx s1 s2; (first | exact hl2l | omega | (simp only [List.length_cons] at *; omega)))
      | (refine ⟨rfl, [It.gr s1 [s2] [0]], r2, congrArg (fun z => AV.tup [AV.str z, _]) ?_, Dx.alt hd2 hs1 hs2 [0] (.inr rfl), ?_⟩; exact Dx.alts_tx s1 s2; (first | exact hl2l | omega | (simp only [List.length_cons] at *; omega)))
      | (refine ⟨rfl, [It.gr (s1 ++ s2) [] [q1 + 1]], r2, congrArg (fun z => AV.tup [AV.str z, _]) ?_, Dx.grp hd2 hs1 hs2 (q1 + 1) (by omega), ?_⟩; exact Dx.grp_tx s1 s2 q1 lq1; (first | exact hl2l | omega | (simp only [List.length_cons] at *; omega)))
    · have h25 := hc_t25
      simp only [Bool.or_eq_false_iff, decide_eq_false_iff_not] at h25
      have hd2 : 2 ≤ d := by omega
      obtain ⟨q1, hq1, lq1⟩ : ∃ k : Nat, IntKind.i64.wrap (x.tdiv 9) % 2 = (k : Int) ∧ k < 2 := ⟨(IntKind.i64.wrap (x.tdiv 9) % 2).toNat, by have := Int.emod_nonneg (IntKind.i64.wrap (x.tdiv 9)) (show (2 : Int) ≠ 0 by decide); omega, by have := Int.emod_lt_of_pos (IntKind.i64.wrap (x.tdiv 9)) (show (0 : Int) < 2 by decide); omega⟩
      have hL2 : ∀ k, k < 2 → ([[43], [63]].getD k [] : List UInt8).length ≤ 1 := by decide
      refine W.skip ?_
      refine W.then ?_
      refine W.seq ?_
      refine W.region ?_
      refine W.q (Ev.move (.t rfl)) rfl ?_
      refine W.q (Ev.move (.t rfl)) rfl ?_
      refine W.q (Ev.sub (.t rfl) .k (fun _ => by omega)) rfl ?_
      refine W.is (t := 42) (g := true) (av' := .int ((d - 1 : Nat) : Int)) rfl (congrArg AV.int (by omega)) ?_
      refine W.call (ih hd2 l2 (by omega)) ⟨(.t rfl), (.t rfl), trivial⟩ (.refl _) rfl ?_
      rintro _ _ ⟨rfl, s1, r1, rfl, hs1, hr1⟩
      refine W.q (Ev.move (.t rfl)) rfl ?_
      refine W.q (Ev.extract (.t rfl) rfl) rfl ?_
      refine W.q (Ev.extract (.t rfl) rfl) rfl ?_
      refine W.q (Ev.assign (.t rfl)) rfl ?_
      refine W.q (Ev.assign (.t rfl)) rfl ?_
      refine W.nil ?_
      refine W.then ?_
      refine W.seq ?_
      refine W.region ?_
      refine W.q (Ev.move (.t rfl)) rfl ?_
      refine W.q (Ev.move (.t rfl)) rfl ?_
      refine W.q (Ev.sub (.t rfl) .k (fun _ => by omega)) rfl ?_
      refine W.is (t := 49) (g := true) (av' := .int ((d - 1 : Nat) : Int)) rfl (congrArg AV.int (by omega)) ?_
      refine W.call (ih hd2 r1 (by omega)) ⟨(.t rfl), (.t rfl), trivial⟩ (.refl _) rfl ?_
      rintro _ _ ⟨rfl, s2, r2, rfl, hs2, hr2⟩
      have hl1 := hs1.len
      have hl2 := hs2.len
      have htd := (tb_step d hd2).1
      have htm := tb_small d hd
      refine W.q (Ev.move (.t rfl)) rfl ?_
      refine W.q (Ev.extract (.t rfl) rfl) rfl ?_
      refine W.q (Ev.extract (.t rfl) rfl) rfl ?_
      refine W.q (Ev.assign (.t rfl)) rfl ?_
      refine W.q (Ev.assign (.t rfl)) rfl ?_
      refine W.nil ?_
      refine W.then ?_
      refine W.seq ?_
      refine W.block ?_
      refine W.seq ?_
      refine W.region ?_
      refine W.q (Ev.move (.t rfl)) rfl ?_
      refine W.q (Ev.lti (.t rfl) .k) rfl ?_
      refine W.q (Ev.assign (.t rfl)) rfl ?_
      refine W.nil ?_
      refine W.then ?_
      refine W.cond (.t rfl) (fun hc_t53 => ?_) (fun hc_t53 => ?_)
      · refine W.seq ?_
        refine W.region ?_
        refine W.q (Ev.move (.t rfl)) rfl ?_
        refine W.q (Ev.move (.t rfl)) rfl ?_
        refine W.q (Ev.cat (.t rfl) (.t rfl) (fun _ => by first | omega | (simp only [List.length_append]; omega) | (simp [-List.length_flatMap]; omega) | (simp; omega))) rfl ?_
        refine W.q (Ev.move (.t rfl)) rfl ?_
        refine W.q (Ev.assign (.t rfl)) rfl ?_
        refine W.q (Ev.assign (.t rfl)) rfl ?_
        refine W.nil ?_
        refine W.then ?_
        refine W.ret ?_
        refine W.blk_ret ?_
        refine W.then_ret ?_
        refine W.retn (M' := []) (rs := [.tmp 4, .tmp 5]) (avs := [_, _]) Try.results7 ⟨rfl, rfl, trivial⟩ rfl (.refl _) ?_
        first
        | (refine ⟨rfl, [It.ch n1 (Dx.sf4 p1)], l2, congrArg (fun z => AV.tup [AV.str z, _]) ?_, Dx.leaf d n1 _ ln1 (Dx.sf4_in p1), hl2l⟩; rw [hn1]; exact Dx.leaf_tx n1 p1 ln1 lp1)
        | (refine ⟨rfl, s1 ++ s2, r2, congrArg (fun z => AV.tup [AV.str z, _]) ?_, Dx.cat hd2 hs1 hs2, ?_⟩; exact (It.stx_append s1 s2).symm; (first | exact hl2l | omega | (simp only [List.length_cons] at *; omega)))
        | (refine ⟨rfl, [It.gr s1 [s2] []], r2, congrArg (fun z => AV.tup [AV.str z, _]) ?_, Dx.alt hd2 hs1 hs2 [] (.inl rfl), ?_⟩; exact Dx.alt_tx s1 s2; (first | exact hl2l | omega | (simp only [List.length_cons] at *; omega)))
        | (refine ⟨rfl, [It.gr s1 [s2] [0]], r2, congrArg (fun z => AV.tup [AV.str z, _]) ?_, Dx.alt hd2 hs1 hs2 [0] (.inr rfl), ?_⟩; exact Dx.alts_tx s1 s2; (first | exact hl2l | omega | (simp only [List.length_cons] at *; omega)))
        | (refine ⟨rfl, [It.gr (s1 ++ s2) [] [q1 + 1]], r2, congrArg (fun z => AV.tup [AV.str z, _]) ?_, Dx.grp hd2 hs1 hs2 (q1 + 1) (by omega), ?_⟩; exact Dx.grp_tx s1 s2 q1 lq1; (first | exact hl2l | omega | (simp only [List.length_cons] at *; omega)))
      · refine W.seq ?_
        refine W.region ?_
        refine W.q (Ev.move (.t rfl)) rfl ?_
        refine W.q (Ev.eqi (.t rfl) .k) rfl ?_
        refine W.q (Ev.assign (.t rfl)) rfl ?_
        refine W.nil ?_
        refine W.then ?_
        refine W.cond (.t rfl) (fun hc_t60 => ?_) (fun hc_t60 => ?_)
        · refine W.seq ?_
          refine W.region ?_
          refine W.q (Ev.move (.t rfl)) rfl ?_
          refine W.q (Ev.cat .k (.t rfl) (fun _ => by first | omega | (simp only [List.length_append]; omega) | (simp [-List.length_flatMap]; omega) | (simp; omega))) rfl ?_
          refine W.q (Ev.cat (.t rfl) .k (fun _ => by first | omega | (simp only [List.length_append]; omega) | (simp [-List.length_flatMap]; omega) | (simp; omega))) rfl ?_
          refine W.q (Ev.move (.t rfl)) rfl ?_
          refine W.q (Ev.cat (.t rfl) (.t rfl) (fun _ => by first | omega | (simp only [List.length_append]; omega) | (simp [-List.length_flatMap]; omega) | (simp; omega))) rfl ?_
          refine W.q (Ev.cat (.t rfl) .k (fun _ => by first | omega | (simp only [List.length_append]; omega) | (simp [-List.length_flatMap]; omega) | (simp; omega))) rfl ?_
          refine W.q (Ev.move (.t rfl)) rfl ?_
          refine W.q (Ev.assign (.t rfl)) rfl ?_
          refine W.q (Ev.assign (.t rfl)) rfl ?_
          refine W.nil ?_
          refine W.then ?_
          refine W.ret ?_
          refine W.blk_ret ?_
          refine W.then_ret ?_
          refine W.retn (M' := []) (rs := [.tmp 4, .tmp 5]) (avs := [_, _]) Try.results7 ⟨rfl, rfl, trivial⟩ rfl (.refl _) ?_
          first
          | (refine ⟨rfl, [It.ch n1 (Dx.sf4 p1)], l2, congrArg (fun z => AV.tup [AV.str z, _]) ?_, Dx.leaf d n1 _ ln1 (Dx.sf4_in p1), hl2l⟩; rw [hn1]; exact Dx.leaf_tx n1 p1 ln1 lp1)
          | (refine ⟨rfl, s1 ++ s2, r2, congrArg (fun z => AV.tup [AV.str z, _]) ?_, Dx.cat hd2 hs1 hs2, ?_⟩; exact (It.stx_append s1 s2).symm; (first | exact hl2l | omega | (simp only [List.length_cons] at *; omega)))
          | (refine ⟨rfl, [It.gr s1 [s2] []], r2, congrArg (fun z => AV.tup [AV.str z, _]) ?_, Dx.alt hd2 hs1 hs2 [] (.inl rfl), ?_⟩; exact Dx.alt_tx s1 s2; (first | exact hl2l | omega | (simp only [List.length_cons] at *; omega)))
          | (refine ⟨rfl, [It.gr s1 [s2] [0]], r2, congrArg (fun z => AV.tup [AV.str z, _]) ?_, Dx.alt hd2 hs1 hs2 [0] (.inr rfl), ?_⟩; exact Dx.alts_tx s1 s2; (first | exact hl2l | omega | (simp only [List.length_cons] at *; omega)))
          | (refine ⟨rfl, [It.gr (s1 ++ s2) [] [q1 + 1]], r2, congrArg (fun z => AV.tup [AV.str z, _]) ?_, Dx.grp hd2 hs1 hs2 (q1 + 1) (by omega), ?_⟩; exact Dx.grp_tx s1 s2 q1 lq1; (first | exact hl2l | omega | (simp only [List.length_cons] at *; omega)))
        · refine W.seq ?_
          refine W.region ?_
          refine W.q (Ev.move (.t rfl)) rfl ?_
          refine W.q (Ev.eqi (.t rfl) .k) rfl ?_
          refine W.q (Ev.assign (.t rfl)) rfl ?_
          refine W.nil ?_
          refine W.then ?_
          refine W.cond (.t rfl) (fun hc_t70 => ?_) (fun hc_t70 => ?_)
          · refine W.seq ?_
            refine W.region ?_
            refine W.q (Ev.move (.t rfl)) rfl ?_
            refine W.q (Ev.cat .k (.t rfl) (fun _ => by first | omega | (simp only [List.length_append]; omega) | (simp [-List.length_flatMap]; omega) | (simp; omega))) rfl ?_
            refine W.q (Ev.cat (.t rfl) .k (fun _ => by first | omega | (simp only [List.length_append]; omega) | (simp [-List.length_flatMap]; omega) | (simp; omega))) rfl ?_
            refine W.q (Ev.move (.t rfl)) rfl ?_
            refine W.q (Ev.cat (.t rfl) (.t rfl) (fun _ => by first | omega | (simp only [List.length_append]; omega) | (simp [-List.length_flatMap]; omega) | (simp; omega))) rfl ?_
            refine W.q (Ev.cat (.t rfl) .k (fun _ => by first | omega | (simp only [List.length_append]; omega) | (simp [-List.length_flatMap]; omega) | (simp; omega))) rfl ?_
            refine W.q (Ev.move (.t rfl)) rfl ?_
            refine W.q (Ev.assign (.t rfl)) rfl ?_
            refine W.q (Ev.assign (.t rfl)) rfl ?_
            refine W.nil ?_
            refine W.then ?_
            refine W.ret ?_
            refine W.blk_ret ?_
            refine W.then_ret ?_
            refine W.retn (M' := []) (rs := [.tmp 4, .tmp 5]) (avs := [_, _]) Try.results7 ⟨rfl, rfl, trivial⟩ rfl (.refl _) ?_
            first
            | (refine ⟨rfl, [It.ch n1 (Dx.sf4 p1)], l2, congrArg (fun z => AV.tup [AV.str z, _]) ?_, Dx.leaf d n1 _ ln1 (Dx.sf4_in p1), hl2l⟩; rw [hn1]; exact Dx.leaf_tx n1 p1 ln1 lp1)
            | (refine ⟨rfl, s1 ++ s2, r2, congrArg (fun z => AV.tup [AV.str z, _]) ?_, Dx.cat hd2 hs1 hs2, ?_⟩; exact (It.stx_append s1 s2).symm; (first | exact hl2l | omega | (simp only [List.length_cons] at *; omega)))
            | (refine ⟨rfl, [It.gr s1 [s2] []], r2, congrArg (fun z => AV.tup [AV.str z, _]) ?_, Dx.alt hd2 hs1 hs2 [] (.inl rfl), ?_⟩; exact Dx.alt_tx s1 s2; (first | exact hl2l | omega | (simp only [List.length_cons] at *; omega)))
            | (refine ⟨rfl, [It.gr s1 [s2] [0]], r2, congrArg (fun z => AV.tup [AV.str z, _]) ?_, Dx.alt hd2 hs1 hs2 [0] (.inr rfl), ?_⟩; exact Dx.alts_tx s1 s2; (first | exact hl2l | omega | (simp only [List.length_cons] at *; omega)))
            | (refine ⟨rfl, [It.gr (s1 ++ s2) [] [q1 + 1]], r2, congrArg (fun z => AV.tup [AV.str z, _]) ?_, Dx.grp hd2 hs1 hs2 (q1 + 1) (by omega), ?_⟩; exact Dx.grp_tx s1 s2 q1 lq1; (first | exact hl2l | omega | (simp only [List.length_cons] at *; omega)))
          · refine W.skip ?_
            refine W.blk_normal ?_
            refine W.then ?_
            refine W.seq ?_
            refine W.region ?_
            refine W.q (Ev.move (.t rfl)) rfl ?_
            refine W.q (Ev.cat .k (.t rfl) (fun _ => by first | omega | (simp only [List.length_append]; omega) | (simp [-List.length_flatMap]; omega) | (simp; omega))) rfl ?_
            refine W.q (Ev.move (.t rfl)) rfl ?_
            refine W.q (Ev.cat (.t rfl) (.t rfl) (fun _ => by first | omega | (simp only [List.length_append]; omega) | (simp [-List.length_flatMap]; omega) | (simp; omega))) rfl ?_
            refine W.q (Ev.cat (.t rfl) .k (fun _ => by first | omega | (simp only [List.length_append]; omega) | (simp [-List.length_flatMap]; omega) | (simp; omega))) rfl ?_
            refine W.bs (es := [_, _]) Try.underlying42 ty9 ⟨rfl, .k, rfl, rfl, rfl, .k, rfl, rfl, trivial⟩ rfl (by decide) rfl rfl ?_
            refine W.q (Ev.move (.t rfl)) rfl ?_
            first | refine W.q (Ev.quo (.t rfl) .k (fun _ => by decide)) rfl ?_ | refine W.q (Ev.quo (.t rfl) .k (fun _ => by omega)) rfl ?_
            refine W.callp (Base.c_Picked (IntKind.i64.wrap (x.tdiv 9)) 2 (by decide) (by decide)) ⟨(.t rfl), .k, trivial⟩ rfl ?_
            refine W.q (Ev.at (E := 9) (.t rfl) (.t rfl) Try.underlying42 ty9 (e := .str ([[43], [63]].getD q1 [])) (fun _ => ⟨by omega, by rw [hq1, Int.toNat_natCast]; exact getD_mapG AV.str [] [[43], [63]] q1 lq1⟩) rfl rfl) rfl ?_
            first | refine W.q (Ev.lde1 (.t rfl) ag9) rfl ?_ | refine W.q (Ev.ldb1 0 (.t rfl) rfl ag9 rfl) rfl ?_ | refine W.q (Ev.ldb1 1 (.t rfl) rfl ag9 rfl) rfl ?_ | refine W.q (Ev.ldb1 2 (.t rfl) rfl ag9 rfl) rfl ?_ | refine W.q (Ev.ldb1 3 (.t rfl) rfl ag9 rfl) rfl ?_
            refine W.q (Ev.cat (.t rfl) (.t rfl) (fun _ => by have h1 := hL2 q1 lq1; simp only [List.length_append, List.length_cons, List.length_nil]; omega)) rfl ?_
            refine W.q (Ev.move (.t rfl)) rfl ?_
            refine W.q (Ev.assign (.t rfl)) rfl ?_
            refine W.q (Ev.assign (.t rfl)) rfl ?_
            refine W.nil ?_
            refine W.then ?_
            refine W.ret ?_
            refine W.retn (M' := []) (rs := [.tmp 4, .tmp 5]) (avs := [_, _]) Try.results7 ⟨rfl, rfl, trivial⟩ rfl (.refl _) ?_
            first
            | (refine ⟨rfl, [It.ch n1 (Dx.sf4 p1)], l2, congrArg (fun z => AV.tup [AV.str z, _]) ?_, Dx.leaf d n1 _ ln1 (Dx.sf4_in p1), hl2l⟩; rw [hn1]; exact Dx.leaf_tx n1 p1 ln1 lp1)
            | (refine ⟨rfl, s1 ++ s2, r2, congrArg (fun z => AV.tup [AV.str z, _]) ?_, Dx.cat hd2 hs1 hs2, ?_⟩; exact (It.stx_append s1 s2).symm; (first | exact hl2l | omega | (simp only [List.length_cons] at *; omega)))
            | (refine ⟨rfl, [It.gr s1 [s2] []], r2, congrArg (fun z => AV.tup [AV.str z, _]) ?_, Dx.alt hd2 hs1 hs2 [] (.inl rfl), ?_⟩; exact Dx.alt_tx s1 s2; (first | exact hl2l | omega | (simp only [List.length_cons] at *; omega)))
            | (refine ⟨rfl, [It.gr s1 [s2] [0]], r2, congrArg (fun z => AV.tup [AV.str z, _]) ?_, Dx.alt hd2 hs1 hs2 [0] (.inr rfl), ?_⟩; exact Dx.alts_tx s1 s2; (first | exact hl2l | omega | (simp only [List.length_cons] at *; omega)))
            | (refine ⟨rfl, [It.gr (s1 ++ s2) [] [q1 + 1]], r2, congrArg (fun z => AV.tup [AV.str z, _]) ?_, Dx.grp hd2 hs1 hs2 (q1 + 1) (by omega), ?_⟩; exact Dx.grp_tx s1 s2 q1 lq1; (first | exact hl2l | omega | (simp only [List.length_cons] at *; omega)))

theorem c_ExprText : ∀ d : Nat, d ≤ 10 → ∀ l : List Int, l.length ≤ 1048576 → FnC Try.prog 7 [.sl 1 ((l).map AV.int), .int ((d : Nat) : Int)] [] (fun r M => M = [] ∧ ∃ (s : List It) (rest : List Int), r = .tup [.str (It.stx s), .sl 1 (rest.map AV.int)] ∧ Dx (d) s ∧ rest.length ≤ (l).length) := by
  intro d
  induction d using Nat.strongRecOn with
  | _ d ih => exact fun hd l hl => c_ExprText_step d hd (fun h2 l hl => ih (d - 1) (by omega) (by omega) l hl) l hl

end WDrawX

end Go.Proofs.Ythhkionhimbekaa
