/-
  The law AutoCounted, walked.
-/
import Derived.Test.YtacaemfkdieocaaDoorG12
set_option linter.unusedVariables false
set_option linter.unusedSimpArgs false
set_option maxRecDepth 100000
namespace Go.Proofs.YtacaemfkdieocaaDoor
open Go.Vl

namespace LAutoCounted
theorem ty3 : Ty Tryd.prog 3 1 8 (.int .i64 0) := Ty.of (by kernel_rfl)
theorem ty28 : Ty Tryd.prog 28 2 48 (.agg #[.slice none 0 0, .slice none 0 0]) := Ty.of (by kernel_rfl)
theorem ag28 : IsAgg Tryd.prog 28 true := ⟨_, Tryd.underlying28, rfl⟩
theorem ni22 : NotInt Tryd.prog 22 := .inl ⟨_, Tryd.underlying22⟩
theorem c_AutoCounted (l : List Int) (z : Int) (hl : l.length ≤ 1048576) (M0 : List ME) (hI : ∀ n : Int, -1 ≤ n → n < 100 → FnC Tryd.prog 61 [.int n] M0 (fun r M => r = .str (itoa n) ∧ M = M0)) : FnC Tryd.prog 4 [.sl 1 (l.map AV.int), .int z] M0 (fun r M => r = .bool true ∧ M = M0) :=  by
  refine FnC.mk Tryd.func4 (by kernel_rfl) rfl Tryd.ntmps4 rfl (fun w0 F => ?_)
  obtain ⟨n, hn, hnm⟩ : ∃ n : Nat, z % 6 = (n : Int) ∧ n < 6 := ⟨(z % 6).toNat, by have := Int.emod_nonneg z (show (6 : Int) ≠ 0 by decide); omega, by have := Int.emod_lt_of_pos z (show (0 : Int) < 6 by decide); omega⟩
  refine W.seq ?_
  refine W.region ?_
  refine W.q (Ev.assign .k) rfl ?_
  refine W.nil ?_
  refine W.then ?_
  refine W.seq ?_
  refine W.region ?_
  refine W.q (Ev.move (.t rfl)) rfl ?_
  refine W.call (WDrawX.c_ExprText 2 (by decide) l (by omega)) ⟨(.t rfl), .k, trivial⟩ (.refl _) rfl ?_
  rintro _ _ ⟨rfl, A, rA, rfl, hA, hrA⟩
  have tA : (It.stx A).length ≤ 8 := hA.len
  have nA : It.snl A ≤ 2 := hA.nl
  have wA := It.slg_wid A
  refine W.q (Ev.move (.t rfl)) rfl ?_
  refine W.q (Ev.extract (.t rfl) rfl) rfl ?_
  refine W.q (Ev.extract (.t rfl) rfl) rfl ?_
  refine W.q (Ev.assign (.t rfl)) rfl ?_
  refine W.q (Ev.assign (.t rfl)) rfl ?_
  refine W.nil ?_
  refine W.then ?_
  refine W.seq ?_
  refine W.region ?_
  have cA := WMake.c_mk A [] hA.ok trivial (by simp only [It.anl]; omega) (L := It.slg A) (by rw [show It.alg [] = Lg.none from rfl, Lg.alt_none]) (wA.mono (by omega)) (It.stx A) (List.append_nil _).symm (by omega) M0 hI
  refine W.q (Ev.move (.t rfl)) rfl ?_
  refine W.call (cA) ⟨(.t rfl), trivial⟩ ((List.Perm.of_eq (List.append_nil M0).symm)) rfl ?_
  rintro _ M' ⟨a, ha, la, ua, rfl, hM'⟩
  rw [hM']
  clear hM'
  rw [List.append_nil]
  refine W.q (Ev.move (.t rfl)) rfl ?_
  refine W.q (Ev.extract (.t rfl) rfl) rfl ?_
  refine W.q (Ev.extract (.t rfl) rfl) rfl ?_
  refine W.alloc ty28 rfl rfl ?_
  intro b7
  (refine W.stb 0 (.t rfl) (.t rfl) rfl ty28 rfl rfl rfl ?_)
  refine W.q (Ev.assign (.t rfl)) rfl ?_
  refine W.nil ?_
  refine W.then ?_
  refine W.seq ?_
  refine W.region ?_
  refine W.q (Ev.move (.t rfl)) rfl ?_
  refine W.callp (Base.c_Picked z 6 (by decide) (by decide)) ⟨(.t rfl), .k, trivial⟩ rfl ?_
  refine W.q (Ev.assign (.t rfl)) rfl ?_
  refine W.nil ?_
  refine W.is (t := 9) (g := true) (av' := .int (n : Int)) rfl (congrArg AV.int hn) ?_
  refine W.then ?_
  refine W.seq ?_
  refine W.region ?_
  (refine W.q (Ev.ldbn 0 (.t rfl) rfl ag28 ty28 rfl) rfl ?_)
  refine W.q (Ev.move (.t rfl)) rfl ?_
  refine W.callp (WCount.c_Count a ha.shape (by omega) n (by omega)) ⟨(.t rfl), (.t rfl), trivial⟩ rfl ?_
  refine W.q (Ev.move (.t rfl)) rfl ?_
  refine W.q (Ev.extract (.t rfl) rfl) rfl ?_
  refine W.q (Ev.extract (.t rfl) rfl) rfl ?_
  refine W.q (Ev.assign (.t rfl)) rfl ?_
  refine W.q (Ev.assign (.t rfl)) rfl ?_
  refine W.nil ?_
  refine W.then ?_
  refine W.seq ?_
  refine W.seq ?_
  refine W.region ?_
  refine W.q (Ev.move (.t rfl)) rfl ?_
  refine W.q (Ev.not (.t rfl)) rfl ?_
  refine W.q (Ev.move (.t rfl)) rfl ?_
  refine W.qgF rfl rfl (Ev.move (.t rfl)) rfl ?_
  refine W.qgF rfl rfl (Ev.nei (.c rfl) .k) rfl ?_
  refine W.q (Ev.or (.t rfl) ⟨_, _, rfl, rfl, by ((simp; done))⟩) rfl ?_
  refine W.nil ?_
  refine W.then ?_
  refine W.is (t := 42) (g := true) (av' := .lit (.bool false)) rfl (congrArg (fun b => AV.lit (.bool b)) (by rfl)) ?_
  refine W.condF (.t rfl) ?_
  refine W.skip ?_
  refine W.then ?_
  refine W.seq ?_
  refine W.region ?_
  have hfc := Au.found_cnt (a := a) n 0 (fun u hu c hc => by have := It.slg_over A hA.abc u ((ua u).1 hu) c hc; omega)
  have hQ3 : 3 ^ n ≤ 243 := Nat.le_trans (Nat.pow_le_pow_right (by decide) (show n ≤ 5 by omega)) (by decide)
  obtain ⟨k, hk⟩ : ∃ k, Au.cnt a n 0 = k := ⟨_, rfl⟩
  rw [hk] at hfc ⊢
  obtain ⟨Q, hQ⟩ : ∃ q : Nat, 3 ^ n = q := ⟨_, rfl⟩
  rw [hQ] at hfc hQ3
  refine W.q (Ev.assign .k) rfl ?_
  refine W.nil ?_
  refine W.then ?_
  refine W.seq ?_
  refine W.seq ?_
  refine W.region ?_
  refine W.q (Ev.assign .k) rfl ?_
  refine W.nil ?_
  refine W.then ?_
  refine W.block ?_
  refine W.loop (D := []) (ι := Nat) (fun i => [(13, true, .int (i : Int)), (12, true, .int ((3 ^ i : Nat) : Int)), (9, true, .int (n : Int)), (10, true, .int (k : Int)), (7, true, .lit (.pointer (some ⟨b7, 0, none⟩)))]) (fun i => .box b7 28 [.sl 1 (a.next.map pav), .sl 1 (a.final.map AV.bool)] :: M0) (fun i => i ≤ n) (fun i => n - i) 0 ⟨rfl, rfl, rfl, rfl, rfl, trivial⟩ (by ((rw [List.append_nil]; exact .refl _))) (Nat.zero_le _) ?_
  intro i hi
  dsimp only at hi ⊢
  have h3 : 3 ^ i ≤ 243 := Nat.le_trans (Nat.pow_le_pow_right (by decide) (show i ≤ 5 by omega)) (by decide)
  obtain ⟨q, hq⟩ : ∃ q : Nat, 3 ^ i = q := ⟨_, rfl⟩
  rw [hq] at h3 ⊢
  rcases (show i < n ∨ i = n from by omega) with hlt | hend
  · skip
    refine W.seq ?_
    refine W.seq ?_
    refine W.region ?_
    refine W.q (Ev.move (.t rfl)) rfl ?_
    refine W.q (Ev.move (.t rfl)) rfl ?_
    refine W.q (Ev.lti (.t rfl) (.t rfl)) rfl ?_
    refine W.nil ?_
    refine W.then ?_
    refine W.is (t := 45) (g := true) (av' := .lit (.bool true)) rfl (congrArg (fun b => AV.lit (.bool b)) (by exact decide_eq_true (by omega))) ?_
    refine W.condT (.t rfl) ?_
    refine W.skip ?_
    refine W.then ?_
    refine W.seq ?_
    refine W.block ?_
    refine W.region ?_
    refine W.q (Ev.move (.t rfl)) rfl ?_
    (refine W.q (Ev.mul (.t rfl) .k (fun _ => by omega)) rfl ?_)
    refine W.is (t := 49) (g := true) (av' := .int ((3 ^ (i + 1) : Nat) : Int)) rfl (congrArg AV.int (by rw [Nat.pow_succ, hq]; (try omega))) ?_
    refine W.q (Ev.assign (.t rfl)) rfl ?_
    refine W.nil ?_
    refine W.blk_normal ?_
    refine W.then ?_
    refine W.region ?_
    refine W.q (Ev.move (.t rfl)) rfl ?_
    (refine W.q (Ev.add (.t rfl) .k (fun _ => by omega)) rfl ?_)
    refine W.q (Ev.assign (.t rfl)) rfl ?_
    refine W.nil ?_
    refine W.then ?_
    refine W.reach (D := []) (i + 1) ⟨rfl, rfl, rfl, rfl, rfl, trivial⟩ (by (rw [List.append_nil])) ⟨hlt, by show n - (i + 1) < n - i; omega⟩
  · have hqQ : q = Q := by rw [← hQ, ← hend, hq]
    rw [hqQ]
    refine W.seq ?_
    refine W.seq ?_
    refine W.region ?_
    refine W.q (Ev.move (.t rfl)) rfl ?_
    refine W.q (Ev.move (.t rfl)) rfl ?_
    refine W.q (Ev.lti (.t rfl) (.t rfl)) rfl ?_
    refine W.nil ?_
    refine W.then ?_
    refine W.is (t := 45) (g := true) (av' := .lit (.bool false)) rfl (congrArg (fun b => AV.lit (.bool b)) (by exact decide_eq_false (by omega))) ?_
    refine W.condF (.t rfl) ?_
    refine W.exit ?_
    refine W.then_exit ?_
    refine W.then_exit ?_
    refine W.blk_hit ?_
    refine W.then ?_
    refine W.seq ?_
    refine W.region ?_
    refine W.q (Ev.assign .k) rfl ?_
    refine W.nil ?_
    refine W.then ?_
    refine W.seq ?_
    refine W.seq ?_
    refine W.region ?_
    refine W.q (Ev.assign .k) rfl ?_
    refine W.nil ?_
    refine W.then ?_
    refine W.block ?_
    refine W.loop (D := []) (ι := Nat × Nat) (fun z => [(15, true, .int (z.1 : Int)), (14, true, .int ((z.2 : Nat) : Int)), (12, true, .int (Q : Int)), (9, true, .int (n : Int)), (10, true, .int (k : Int)), (7, true, .lit (.pointer (some ⟨b7, 0, none⟩)))]) (fun z => .box b7 28 [.sl 1 (a.next.map pav), .sl 1 (a.final.map AV.bool)] :: M0) (fun z => z.1 ≤ Q ∧ Au.found a n 0 z.1 = z.2) (fun z => Q - z.1) (0, 0) ⟨rfl, rfl, rfl, rfl, rfl, rfl, trivial⟩ (by (rw [List.append_nil])) ⟨Nat.zero_le _, rfl⟩ ?_
    rintro ⟨x, c⟩ ⟨hx, hc⟩
    dsimp only at hx hc ⊢
    have hcx := Au.found_le a n 0 x
    rw [hc] at hcx
    rcases (show x < Q ∨ x = Q from by omega) with hlt | hend
    · skip
      refine W.seq ?_
      refine W.seq ?_
      refine W.region ?_
      refine W.q (Ev.move (.t rfl)) rfl ?_
      refine W.q (Ev.move (.t rfl)) rfl ?_
      refine W.q (Ev.lti (.t rfl) (.t rfl)) rfl ?_
      refine W.nil ?_
      refine W.then ?_
      refine W.is (t := 52) (g := true) (av' := .lit (.bool true)) rfl (congrArg (fun b => AV.lit (.bool b)) (by exact decide_eq_true (by omega))) ?_
      refine W.condT (.t rfl) ?_
      refine W.skip ?_
      refine W.then ?_
      refine W.seq ?_
      refine W.block ?_
      refine W.seq ?_
      refine W.region ?_
      refine W.q (Ev.assign .k) rfl ?_
      refine W.nil ?_
      refine W.then ?_
      refine W.seq ?_
      refine W.seq ?_
      refine W.region ?_
      refine W.q (Ev.move (.t rfl)) rfl ?_
      refine W.q (Ev.assign .k) rfl ?_
      refine W.q (Ev.assign (.t rfl)) rfl ?_
      refine W.nil ?_
      refine W.then ?_
      refine W.block ?_
      refine W.own_nil 3 1 ?_
      refine W.loop (D := []) (ι := Nat × Value) (fun y => [(17, true, .int (y.1 : Int)), (18, true, .int ((x / 3 ^ y.1 : Nat) : Int)), (16, true, .lit y.2), (15, true, .int (x : Int)), (14, true, .int ((c : Nat) : Int)), (12, true, .int (Q : Int)), (9, true, .int (n : Int)), (10, true, .int (k : Int)), (7, true, .lit (.pointer (some ⟨b7, 0, none⟩)))]) (fun y => .arr y.2 3 1 ((Au.dgt y.1 x).map AV.int) :: .box b7 28 [.sl 1 (a.next.map pav), .sl 1 (a.final.map AV.bool)] :: M0) (fun y => y.1 ≤ n) (fun y => n - y.1) (0, .slice none 0 0) ⟨rfl, congrArg (fun q : Nat => some (true, AV.int (q : Int))) (by rw [Nat.pow_zero, Nat.div_one]), rfl, rfl, rfl, rfl, rfl, rfl, rfl, trivial⟩ (by ((rw [List.append_nil]; exact .refl _))) (Nat.zero_le _) ?_
      rintro ⟨i, v⟩ hi
      dsimp only at hi ⊢
      have hyx : x / 3 ^ i ≤ x := Nat.div_le_self _ _
      obtain ⟨y, hy⟩ : ∃ y : Nat, x / 3 ^ i = y := ⟨_, rfl⟩
      have hy3 : x / 3 ^ (i + 1) = y / 3 := by rw [Nat.pow_succ, ← Nat.div_div_eq_div_mul, hy]
      rw [hy] at hyx ⊢
      rcases (show i < n ∨ i = n from by omega) with hin | hend
      · skip
        refine W.seq ?_
        refine W.seq ?_
        refine W.region ?_
        refine W.q (Ev.move (.t rfl)) rfl ?_
        refine W.q (Ev.move (.t rfl)) rfl ?_
        refine W.q (Ev.lti (.t rfl) (.t rfl)) rfl ?_
        refine W.nil ?_
        refine W.then ?_
        refine W.is (t := 58) (g := true) (av' := .lit (.bool true)) rfl (congrArg (fun b => AV.lit (.bool b)) (by exact decide_eq_true (by omega))) ?_
        refine W.condT (.t rfl) ?_
        refine W.skip ?_
        refine W.then ?_
        refine W.seq ?_
        refine W.block ?_
        refine W.seq ?_
        refine W.region ?_
        refine W.q (Ev.move (.t rfl)) rfl ?_
        refine W.q (Ev.move (.t rfl)) rfl ?_
        refine W.q (Ev.rem (.t rfl) .k (fun _ => by decide)) rfl ?_
        refine W.is (t := 63) (g := true) (av' := .int ((y % 3 : Nat) : Int)) rfl (congrArg AV.int (by rw [Int.tmod_eq_emod_of_nonneg (by omega)]; omega)) ?_
        refine W.bs (es := [_]) Tryd.underlying22 ty3 ⟨rfl, (.t rfl), rfl, rfl, trivial⟩ rfl (by decide) rfl rfl ?_
        (refine W.app 0 (.t rfl) rfl (.sl (.t rfl) (by ((simp [AV.okc, shV]; done)))) Tryd.underlying22 ni22 ty3 rfl rfl (by rw [List.length_map, Au.dgt_len]; simp only [List.length_cons, List.length_nil]; omega) rfl ?_)
        intro v65
        refine W.q (Ev.assign (.t rfl)) rfl ?_
        refine W.nil ?_
        refine W.then ?_
        refine W.region ?_
        refine W.q (Ev.move (.t rfl)) rfl ?_
        refine W.q (Ev.quo (.t rfl) .k (fun _ => by decide)) rfl ?_
        refine W.is (t := 67) (g := true) (av' := .int ((x / 3 ^ (i + 1) : Nat) : Int)) rfl (congrArg AV.int (by rw [hy3, Int.tdiv_eq_ediv_of_nonneg (by omega)]; rw [IntKind.wrap_i64]; omega)) ?_
        refine W.q (Ev.assign (.t rfl)) rfl ?_
        refine W.nil ?_
        refine W.blk_normal ?_
        refine W.then ?_
        refine W.region ?_
        refine W.q (Ev.move (.t rfl)) rfl ?_
        (refine W.q (Ev.add (.t rfl) .k (fun _ => by omega)) rfl ?_)
        refine W.q (Ev.assign (.t rfl)) rfl ?_
        refine W.nil ?_
        refine W.then ?_
        refine W.reach (D := []) (i + 1, v65) ⟨rfl, rfl, rfl, rfl, rfl, rfl, rfl, rfl, rfl, trivial⟩ ?_ ⟨hin, by show n - (i + 1) < n - i; omega⟩
        rw [List.append_nil, Au.dgt_snoc, hy, List.map_append]
        exact .refl _
      · rw [hend]
        refine W.seq ?_
        refine W.seq ?_
        refine W.region ?_
        refine W.q (Ev.move (.t rfl)) rfl ?_
        refine W.q (Ev.move (.t rfl)) rfl ?_
        refine W.q (Ev.lti (.t rfl) (.t rfl)) rfl ?_
        refine W.nil ?_
        refine W.then ?_
        refine W.is (t := 58) (g := true) (av' := .lit (.bool false)) rfl (congrArg (fun b => AV.lit (.bool b)) (by exact decide_eq_false (by omega))) ?_
        refine W.condF (.t rfl) ?_
        refine W.exit ?_
        refine W.then_exit ?_
        refine W.then_exit ?_
        refine W.blk_hit ?_
        refine W.then ?_
        refine W.seq ?_
        refine W.region ?_
        refine W.freezeA (M1 := _) (M2 := _) (D := []) (v := v) (L' := [(16, true, .sl 1 ((Au.dgt n x).map AV.int))]) (by rw [List.append_nil] <;> exact .refl _) ⟨⟨_, rfl, .one .hit⟩, trivial⟩ (FrzMs.refl _) ?_
        (refine W.q (Ev.ldbn 0 (.t rfl) rfl ag28 ty28 rfl) rfl ?_)
        refine W.q (Ev.move (.t rfl)) rfl ?_
        refine W.callp (WReads.c_reads a ha.shape (by omega) (Au.dgt n x) (by rw [Au.dgt_len]; omega) (Au.dgt_in n x)) ⟨(.t rfl), (.t rfl), trivial⟩ rfl ?_
        refine W.nil ?_
        refine W.then ?_
        refine W.cond (.t rfl) (fun hc_t70 => ?_) (fun hc_t70 => ?_)
        · have hfx : Au.found a n 0 (x + 1) = c + 1 := by rw [Au.found_succ, hc, if_pos (by rw [← Au.dec_dgt]; exact hc_t70)]
          refine W.region ?_
          refine W.q (Ev.move (.t rfl)) rfl ?_
          (refine W.q (Ev.add (.t rfl) .k (fun _ => by omega)) rfl ?_)
          refine W.q (Ev.assign (.t rfl)) rfl ?_
          refine W.nil ?_
          refine W.blk_normal ?_
          refine W.then ?_
          refine W.region ?_
          refine W.q (Ev.move (.t rfl)) rfl ?_
          (refine W.q (Ev.add (.t rfl) .k (fun _ => by omega)) rfl ?_)
          refine W.q (Ev.assign (.t rfl)) rfl ?_
          refine W.nil ?_
          refine W.then ?_
          refine W.reach (D := []) (x + 1, c + 1) ⟨rfl, rfl, rfl, rfl, rfl, rfl, trivial⟩ (by (rw [List.append_nil])) ⟨⟨by show x + 1 ≤ Q; omega, hfx⟩, by show Q - (x + 1) < Q - x; omega⟩
        · have hfx : Au.found a n 0 (x + 1) = c := by rw [Au.found_succ, hc, if_neg (by rw [← Au.dec_dgt, hc_t70]; decide), Nat.add_zero]
          refine W.skip ?_
          refine W.blk_normal ?_
          refine W.then ?_
          refine W.region ?_
          refine W.q (Ev.move (.t rfl)) rfl ?_
          (refine W.q (Ev.add (.t rfl) .k (fun _ => by omega)) rfl ?_)
          refine W.q (Ev.assign (.t rfl)) rfl ?_
          refine W.nil ?_
          refine W.then ?_
          refine W.reach (D := []) (x + 1, c) ⟨rfl, rfl, rfl, rfl, rfl, rfl, trivial⟩ (by (rw [List.append_nil])) ⟨⟨by show x + 1 ≤ Q; omega, hfx⟩, by show Q - (x + 1) < Q - x; omega⟩
    · have hfin : c = k := by rw [← hc, hend]; exact hfc
      refine W.seq ?_
      refine W.seq ?_
      refine W.region ?_
      refine W.q (Ev.move (.t rfl)) rfl ?_
      refine W.q (Ev.move (.t rfl)) rfl ?_
      refine W.q (Ev.lti (.t rfl) (.t rfl)) rfl ?_
      refine W.nil ?_
      refine W.then ?_
      refine W.is (t := 52) (g := true) (av' := .lit (.bool false)) rfl (congrArg (fun b => AV.lit (.bool b)) (by exact decide_eq_false (by omega))) ?_
      refine W.condF (.t rfl) ?_
      refine W.exit ?_
      refine W.then_exit ?_
      refine W.then_exit ?_
      refine W.blk_hit ?_
      refine W.then ?_
      refine W.seq ?_
      refine W.region ?_
      refine W.q (Ev.move (.t rfl)) rfl ?_
      refine W.q (Ev.move (.t rfl)) rfl ?_
      refine W.q (Ev.eqi (.t rfl) (.t rfl)) rfl ?_
      refine W.q (Ev.assign (.t rfl)) rfl ?_
      refine W.nil ?_
      refine W.then ?_
      refine W.ret ?_
      refine W.retn (M' := M0) (D := _) (rs := [.tmp 4]) (avs := [_]) Tryd.results4 ⟨rfl, trivial⟩ rfl (List.perm_append_comm (l₁ := [_])) ?_
      exact ⟨congrArg AV.bool (decide_eq_true (by omega)), rfl⟩

end LAutoCounted

end Go.Proofs.YtacaemfkdieocaaDoor
