/-
  The law ExprRenamed, walked.
-/
import Derived.Test.YthhkionhimbekaaWWords
import Derived.Test.YthhkionhimbekaaWDrawX
set_option linter.unusedVariables false
set_option linter.unusedSimpArgs false
set_option maxRecDepth 100000
namespace Go.Proofs.Ythhkionhimbekaa
open Go.Vl

namespace LExprRenamed
theorem ty3 : Ty Try.prog 3 1 8 (.int .i64 0) := Ty.of (by kernel_rfl)
theorem ty28 : Ty Try.prog 28 3 40 (.agg #[.int .i64 0, .int .i64 0, .slice none 0 0]) := Ty.of (by kernel_rfl)
theorem ag3 : IsAgg Try.prog 3 false := ⟨_, Try.underlying3, rfl⟩
theorem ag28 : IsAgg Try.prog 28 true := ⟨_, Try.underlying28, rfl⟩
theorem ni22 : NotInt Try.prog 22 := .inl ⟨_, Try.underlying22⟩
theorem c_ExprRenamed (l m : List Int) (z : Int) (hl : l.length ≤ 1048576) (hm : m.length ≤ 1048576) : FnP Try.prog 6 [.sl 1 (l.map AV.int), .sl 1 (m.map AV.int), .int z] (.bool true) :=  by
  refine FnC.mk Try.func6 (by kernel_rfl) rfl Try.ntmps6 rfl (fun w0 F => ?_)
  obtain ⟨k, hk, hk5⟩ : ∃ k : Nat, z % 6 = (k : Int) ∧ k ≤ 5 := ⟨(z % 6).toNat, by have := Int.emod_nonneg z (show (6 : Int) ≠ 0 by decide); omega, by have := Int.emod_lt_of_pos z (show (0 : Int) < 6 by decide); omega⟩
  refine W.seq ?_
  refine W.region ?_
  refine W.q (Ev.assign .k) rfl ?_
  refine W.nil ?_
  refine W.then ?_
  refine W.seq ?_
  refine W.region ?_
  refine W.q (Ev.move (.t rfl)) rfl ?_
  refine W.call (WDrawX.c_ExprText 3 (by decide) l (by omega)) ⟨(.t rfl), .k, trivial⟩ (.refl _) rfl ?_
  rintro _ _ ⟨rfl, A, r1, rfl, hA, hr1⟩
  have lA : (It.stx A).length ≤ 20 := hA.len
  refine W.q (Ev.move (.t rfl)) rfl ?_
  refine W.q (Ev.extract (.t rfl) rfl) rfl ?_
  refine W.q (Ev.extract (.t rfl) rfl) rfl ?_
  refine W.q (Ev.assign (.t rfl)) rfl ?_
  refine W.q (Ev.assign (.t rfl)) rfl ?_
  refine W.nil ?_
  refine W.then ?_
  refine W.seq ?_
  refine W.seq ?_
  refine W.region ?_
  refine W.q (Ev.move (.t rfl)) rfl ?_
  refine W.q (Ev.lens (.t rfl) Try.underlying9) rfl ?_
  refine W.q (Ev.gti (.t rfl) .k) rfl ?_
  refine W.nil ?_
  refine W.then ?_
  refine W.is (t := 28) (g := true) (av' := .lit (.bool false)) rfl (congrArg (fun b => AV.lit (.bool b)) (by exact decide_eq_false (by omega))) ?_
  refine W.condF (.t rfl) ?_
  refine W.skip ?_
  refine W.then ?_
  refine W.seq ?_
  refine W.region ?_
  refine W.q (Ev.move (.t rfl)) rfl ?_
  refine W.callp (Base.c_Picked z 6 (by decide) (by decide)) ⟨(.t rfl), .k, trivial⟩ rfl ?_
  refine W.q (Ev.assign (.t rfl)) rfl ?_
  refine W.nil ?_
  refine W.is (t := 9) (g := true) (av' := .int (k : Int)) rfl (congrArg AV.int hk) ?_
  refine W.then ?_
  refine W.seq ?_
  refine W.region ?_
  refine W.q (Ev.assign .k) rfl ?_
  refine W.nil ?_
  refine W.then ?_
  refine W.seq ?_
  refine W.seq ?_
  refine W.region ?_
  refine W.q (Ev.assign .k) rfl ?_
  refine W.nil ?_
  refine W.then ?_
  refine W.block ?_
  refine W.loop (D := []) (ι := Nat) (fun i => [(11, true, .int (i : Int)), (10, true, .str (((It.stx A).take i).map (It.rc k))), (7, true, .str (It.stx A)), (9, true, .int (k : Int)), (1, true, .sl 1 (m.map AV.int))]) (fun i => []) (fun i => i ≤ (It.stx A).length) (fun i => (It.stx A).length - i) 0 ⟨rfl, rfl, rfl, rfl, rfl, trivial⟩ (.refl _) (Nat.zero_le _) ?_
  intro i hi
  dsimp only at hi ⊢
  rcases (show i < (It.stx A).length ∨ i = (It.stx A).length from by omega) with hlt | hend
  · obtain ⟨c0, hx0⟩ : ∃ c0, (It.stx A).getD i 0 = c0 := ⟨_, rfl⟩
    have hsn : ((It.stx A).take (i + 1)).map (It.rc k) = ((It.stx A).take i).map (It.rc k) ++ [It.rc k c0] := by rw [take_getDG 0 _ i hlt, List.map_append, hx0]; rfl
    refine W.seq ?_
    refine W.seq ?_
    refine W.region ?_
    refine W.q (Ev.move (.t rfl)) rfl ?_
    refine W.q (Ev.move (.t rfl)) rfl ?_
    refine W.q (Ev.lens (.t rfl) Try.underlying9) rfl ?_
    refine W.q (Ev.lti (.t rfl) (.t rfl)) rfl ?_
    refine W.nil ?_
    refine W.then ?_
    refine W.is (t := 34) (g := true) (av' := .lit (.bool true)) rfl (congrArg (fun b => AV.lit (.bool b)) (by exact decide_eq_true (by omega))) ?_
    refine W.condT (.t rfl) ?_
    refine W.skip ?_
    refine W.then ?_
    refine W.seq ?_
    refine W.block ?_
    refine W.seq ?_
    refine W.region ?_
    refine W.q (Ev.move (.t rfl)) rfl ?_
    refine W.q (Ev.move (.t rfl)) rfl ?_
    refine W.q (Ev.ats' (.t rfl) (.t rfl) Try.underlying9 (fun hg => by omega)) rfl ?_
    refine W.is (t := 39) (g := _) (av' := AV.u8 c0) rfl (by rw [show ((i : Int)).toNat = i from by omega, hx0]) ?_
    refine W.q (Ev.gei (.t rfl) .k) rfl ?_
    refine W.q (Ev.move (.t rfl)) rfl ?_
    refine W.qgT rfl rfl (Ev.move (.t rfl)) rfl ?_
    refine W.qgT rfl rfl (Ev.move (.t rfl)) rfl ?_
    refine W.qgT rfl rfl (Ev.ats' (.c rfl) (.c rfl) Try.underlying9 (fun hg => by omega)) rfl ?_
    refine W.is (t := 44) (g := _) (av' := AV.u8 c0) rfl (by rw [show ((i : Int)).toNat = i from by omega, hx0]) ?_
    refine W.qgT rfl rfl (Ev.lei (.c rfl) .k) rfl ?_
    refine W.q (Ev.and (.t rfl) ⟨_, _, rfl, rfl, by first | (simp; done) | (intro hg_ hp_; simp [hp_]; done) | (simp <;> omega; done) | (simp_all; done) | grind⟩) rfl ?_
    refine W.nil ?_
    refine W.then ?_
    refine W.cond (.t rfl) (fun hc_t46 => ?_) (fun hc_t46 => ?_)
    · have h46 := hc_t46
      simp only [Bool.and_eq_true, decide_eq_true_eq] at h46
      obtain ⟨n, hn, hn3⟩ : ∃ n : Nat, c0.toNat = 97 + n ∧ n < 3 := ⟨c0.toNat - 97, by omega, by omega⟩
      refine W.region ?_
      refine W.q (Ev.move (.t rfl)) rfl ?_
      refine W.q (Ev.move (.t rfl)) rfl ?_
      refine W.q (Ev.move (.t rfl)) rfl ?_
      refine W.q (Ev.ats' (.t rfl) (.t rfl) Try.underlying9 (fun hg => by omega)) rfl ?_
      refine W.is (t := 50) (g := _) (av' := AV.u8 c0) rfl (by rw [show ((i : Int)).toNat = i from by omega, hx0]) ?_
      refine W.q (Ev.subw (.t rfl) .k) rfl ?_
      refine W.is (t := 51) (g := true) (av' := .lit (.int .u8 (n : Int))) rfl (congrArg (fun z => AV.lit (.int .u8 z)) (by rw [hn]; simp [IntKind.wrap, IntKind.signed, IntKind.bits]; omega)) ?_
      first | refine W.q (Ev.conv64 (.t rfl) ⟨_, Try.underlying5⟩ Try.underlying3 (fun _ => by omega)) rfl ?_ | refine W.q (Ev.conv (.t rfl) ⟨_, Try.underlying5⟩ Try.underlying3) rfl ?_
      refine W.q (Ev.move (.t rfl)) rfl ?_
      first | refine W.q (Ev.add (.t rfl) (.t rfl) (fun _ => by omega)) rfl ?_ | refine W.q (Ev.addw (.t rfl) (.t rfl)) rfl ?_
      refine W.q (Ev.subs (lo := some (.tmp 54)) (hi := none) .k Try.underlying9 (.t rfl) rfl (fun _ => ⟨by omega, by show _ ≤ (8 : Int); omega, Int.le_refl _⟩)) rfl ?_
      refine W.q (Ev.subs (lo := none) (hi := some (.const (.int .i64 1))) (.t rfl) Try.underlying9 rfl (Ov.k (g := true) (L := [])) (fun _ => ⟨by decide, by decide, by simp; omega⟩)) rfl ?_
      refine W.q (Ev.cat (.t rfl) (.t rfl) (fun _ => by simp only [List.length_map, List.length_take, List.length_drop]; omega)) rfl ?_
      refine W.is (t := 57) (g := true) (av' := .str (((It.stx A).take (i + 1)).map (It.rc k))) rfl (congrArg AV.str (by rw [hsn]; congr 1; exact It.rc_text k n c0 hn hn3 hk5)) ?_
      refine W.q (Ev.assign (.t rfl)) rfl ?_
      refine W.nil ?_
      refine W.blk_normal ?_
      refine W.then ?_
      refine W.region ?_
      refine W.q (Ev.move (.t rfl)) rfl ?_
      first | refine W.q (Ev.add (.t rfl) .k (fun _ => by omega)) rfl ?_ | refine W.q (Ev.addw (.t rfl) .k) rfl ?_
      refine W.q (Ev.assign (.t rfl)) rfl ?_
      refine W.nil ?_
      refine W.then ?_
      refine W.reach (D := []) (i + 1) ⟨rfl, rfl, rfl, rfl, rfl, trivial⟩ (.refl _) ⟨by show i + 1 ≤ _; omega, by show _ - (i + 1) < _; omega⟩
    · have hrc : It.rc k c0 = c0 := if_neg (fun h => by have h2 := Bool.eq_false_iff.1 hc_t46; apply h2; simp only [Bool.and_eq_true, decide_eq_true_eq]; omega)
      refine W.region ?_
      refine W.q (Ev.move (.t rfl)) rfl ?_
      refine W.q (Ev.move (.t rfl)) rfl ?_
      refine W.q (Ev.move (.t rfl)) rfl ?_
      refine W.q (Ev.move (.t rfl)) rfl ?_
      first | refine W.q (Ev.add (.t rfl) .k (fun _ => by omega)) rfl ?_ | refine W.q (Ev.addw (.t rfl) .k) rfl ?_
      refine W.q (Ev.subs (lo := some (.tmp 60)) (hi := some (.tmp 62)) (.t rfl) Try.underlying9 (.t rfl) (.t rfl) (fun _ => by omega)) rfl ?_
      refine W.q (Ev.cat (.t rfl) (.t rfl) (fun _ => by simp only [List.length_map, List.length_take, List.length_drop]; omega)) rfl ?_
      refine W.is (t := 64) (g := true) (av' := .str (((It.stx A).take (i + 1)).map (It.rc k))) rfl (congrArg AV.str (by rw [hsn, hrc]; congr 1; exact It.one_text (It.stx A) i c0 hlt hx0)) ?_
      refine W.q (Ev.assign (.t rfl)) rfl ?_
      refine W.nil ?_
      refine W.blk_normal ?_
      refine W.then ?_
      refine W.region ?_
      refine W.q (Ev.move (.t rfl)) rfl ?_
      first | refine W.q (Ev.add (.t rfl) .k (fun _ => by omega)) rfl ?_ | refine W.q (Ev.addw (.t rfl) .k) rfl ?_
      refine W.q (Ev.assign (.t rfl)) rfl ?_
      refine W.nil ?_
      refine W.then ?_
      refine W.reach (D := []) (i + 1) ⟨rfl, rfl, rfl, rfl, rfl, trivial⟩ (.refl _) ⟨by show i + 1 ≤ _; omega, by show _ - (i + 1) < _; omega⟩
  · rw [hend, List.take_length]
    refine W.seq ?_
    refine W.seq ?_
    refine W.region ?_
    refine W.q (Ev.move (.t rfl)) rfl ?_
    refine W.q (Ev.move (.t rfl)) rfl ?_
    refine W.q (Ev.lens (.t rfl) Try.underlying9) rfl ?_
    refine W.q (Ev.lti (.t rfl) (.t rfl)) rfl ?_
    refine W.nil ?_
    refine W.then ?_
    refine W.is (t := 34) (g := true) (av' := .lit (.bool false)) rfl (congrArg (fun b => AV.lit (.bool b)) (by exact decide_eq_false (by omega))) ?_
    refine W.condF (.t rfl) ?_
    refine W.exit ?_
    refine W.then_exit ?_
    refine W.then_exit ?_
    refine W.blk_hit ?_
    refine W.then ?_
    refine W.seq ?_
    refine W.region ?_
    refine W.q (Ev.move (.t rfl)) rfl ?_
    refine W.callp (WMatch2.c_WordOf m 12 (by omega) (by decide)) ⟨(.t rfl), .k, trivial⟩ rfl ?_
    refine W.q (Ev.assign (.t rfl)) rfl ?_
    refine W.nil ?_
    have hwi := wordOf_in m 12
    have hwl := wordOf_len m 12
    generalize wordOf m 12 = w at hwi hwl ⊢
    have hwm : (w.map AV.int).length = w.length := List.length_map ..
    have oB := It.rens_ok k hk5 A hA.ok hA.abc
    have eB : (It.stx A).map (It.rc k) = It.stx (It.rens k A) := (It.stx_ren k A hA.abc).symm
    have lB : (It.stx (It.rens k A)).length ≤ 20 := by rw [← eB, List.length_map]; exact lA
    have c1 := WWords.c_of (It.stx A) A [] hA.ok trivial (List.append_nil _).symm (by omega)
    have c2 := WWords.c_of ((It.stx A).map (It.rc k)) (It.rens k A) [] oB trivial (eB.trans (List.append_nil _).symm) (by rw [eB]; omega)
    have k1 := WWords.c_is A [] hA.ok trivial (by rw [show It.stx A ++ It.atl [] = It.stx A from List.append_nil _]; omega) w (by omega) (fun c hc => by have := hwi c hc; omega)
    have k2 := WWords.c_is (It.rens k A) [] oB trivial (by rw [show It.stx (It.rens k A) ++ It.atl [] = It.stx (It.rens k A) from List.append_nil _]; omega) (w.map (· + (k : Int))) (by rw [List.length_map]; omega) (fun c hc => by obtain ⟨x, hx, rfl⟩ := List.mem_map.1 hc; have := hwi x hx; omega)
    rw [show It.alg [] = Lg.none from rfl, Lg.alt_none] at k1 k2
    rw [It.slg_ren] at k2
    have e5 : Lg.dec (Lg.shift k (It.slg A)) (w.map (· + (k : Int))) = Lg.dec (It.slg A) w := Lg.dec_eq (Lg.shift_map k _ w)
    rw [e5] at k2
    refine W.then ?_
    refine W.seq ?_
    refine W.region ?_
    refine W.q (Ev.assign .k) rfl ?_
    refine W.nil ?_
    refine W.then ?_
    refine W.seq ?_
    refine W.seq ?_
    refine W.region ?_
    refine W.q (Ev.assign .k) rfl ?_
    refine W.nil ?_
    refine W.then ?_
    refine W.block ?_
    refine W.own_nil 3 1 ?_
    refine W.loop (D := []) (ι := Nat × Value) (fun y => [(14, true, .int (y.1 : Int)), (13, true, .lit y.2), (12, true, .sl 1 (w.map AV.int)), (9, true, .int (k : Int)), (7, true, .str (It.stx A)), (10, true, .str ((It.stx A).map (It.rc k)))]) (fun y => [.arr y.2 3 1 (((w.take y.1).map (· + (k : Int))).map AV.int)]) (fun y => y.1 ≤ w.length) (fun y => w.length - y.1) (0, .slice none 0 0) ⟨rfl, rfl, rfl, rfl, rfl, rfl, trivial⟩ (.refl _) (Nat.zero_le _) ?_
    rintro ⟨j, v⟩ hj
    dsimp only at hj ⊢
    rcases (show j < w.length ∨ j = w.length from by omega) with hltj | hendj
    · have hgj := hwi _ (getD_memG 0 w j hltj)
      have htj := take_getDG 0 w j hltj
      refine W.seq ?_
      refine W.seq ?_
      refine W.region ?_
      refine W.q (Ev.move (.t rfl)) rfl ?_
      refine W.q (Ev.move (.t rfl)) rfl ?_
      first | refine W.q (Ev.lensl (.t rfl) Try.underlying22) rfl ?_ | refine W.q (Ev.lenar (i := 0) (.t rfl) rfl Try.underlying22) rfl ?_ | refine W.q (Ev.lenar (i := 1) (.t rfl) rfl Try.underlying22) rfl ?_ | refine W.q (Ev.lenar (i := 2) (.t rfl) rfl Try.underlying22) rfl ?_ | refine W.q (Ev.lenar (i := 3) (.t rfl) rfl Try.underlying22) rfl ?_ | refine W.q (Ev.lenar (i := 4) (.t rfl) rfl Try.underlying22) rfl ?_
      refine W.q (Ev.lti (.t rfl) (.t rfl)) rfl ?_
      refine W.nil ?_
      refine W.then ?_
      refine W.is (t := 70) (g := true) (av' := .lit (.bool true)) rfl (congrArg (fun b => AV.lit (.bool b)) (by exact decide_eq_true (by omega))) ?_
      refine W.condT (.t rfl) ?_
      refine W.skip ?_
      refine W.then ?_
      refine W.seq ?_
      refine W.block ?_
      refine W.region ?_
      refine W.q (Ev.move (.t rfl)) rfl ?_
      refine W.q (Ev.move (.t rfl)) rfl ?_
      refine W.q (Ev.move (.t rfl)) rfl ?_
      refine W.q (Ev.at (E := 3) (.t rfl) (.t rfl) Try.underlying22 ty3 (e := .int (w.getD j 0)) (fun _ => ⟨by omega, getD_mapG AV.int 0 w j hltj⟩) rfl rfl) rfl ?_
      first | refine W.q (Ev.lde1 (.t rfl) ag3) rfl ?_ | refine W.q (Ev.ldb1 0 (.t rfl) rfl ag3 rfl) rfl ?_ | refine W.q (Ev.ldb1 1 (.t rfl) rfl ag3 rfl) rfl ?_ | refine W.q (Ev.ldb1 2 (.t rfl) rfl ag3 rfl) rfl ?_ | refine W.q (Ev.ldb1 3 (.t rfl) rfl ag3 rfl) rfl ?_ | refine W.q (Ev.ldb1 4 (.t rfl) rfl ag3 rfl) rfl ?_
      refine W.q (Ev.move (.t rfl)) rfl ?_
      first | refine W.q (Ev.add (.t rfl) (.t rfl) (fun _ => by omega)) rfl ?_ | refine W.q (Ev.addw (.t rfl) (.t rfl)) rfl ?_
      refine W.bs (es := [_]) Try.underlying22 ty3 ⟨rfl, (.t rfl), rfl, rfl, trivial⟩ rfl (by decide) rfl rfl ?_
      first | refine W.app 0 (.t rfl) rfl (.sl (.t rfl) (by first | (simp [AV.okc, shV]; done) | (intro e he; rw [List.mem_singleton.1 he]; rfl))) Try.underlying22 ni22 ty3 rfl rfl (by simp; omega) rfl ?_ | refine W.app 1 (.t rfl) rfl (.sl (.t rfl) (by first | (simp [AV.okc, shV]; done) | (intro e he; rw [List.mem_singleton.1 he]; rfl))) Try.underlying22 ni22 ty3 rfl rfl (by simp; omega) rfl ?_ | refine W.app 2 (.t rfl) rfl (.sl (.t rfl) (by first | (simp [AV.okc, shV]; done) | (intro e he; rw [List.mem_singleton.1 he]; rfl))) Try.underlying22 ni22 ty3 rfl rfl (by simp; omega) rfl ?_ | refine W.app 3 (.t rfl) rfl (.sl (.t rfl) (by first | (simp [AV.okc, shV]; done) | (intro e he; rw [List.mem_singleton.1 he]; rfl))) Try.underlying22 ni22 ty3 rfl rfl (by simp; omega) rfl ?_ | refine W.app 4 (.t rfl) rfl (.sl (.t rfl) (by first | (simp [AV.okc, shV]; done) | (intro e he; rw [List.mem_singleton.1 he]; rfl))) Try.underlying22 ni22 ty3 rfl rfl (by simp; omega) rfl ?_ | refine W.app 0 (.t rfl) rfl (.arr 0 (.t rfl) rfl (by first | (simp [AV.okc, shV]; done) | (intro e he; rw [List.mem_singleton.1 he]; rfl))) Try.underlying22 ni22 ty3 rfl rfl (by simp; omega) rfl ?_ | refine W.app 0 (.t rfl) rfl (.arr 1 (.t rfl) rfl (by first | (simp [AV.okc, shV]; done) | (intro e he; rw [List.mem_singleton.1 he]; rfl))) Try.underlying22 ni22 ty3 rfl rfl (by simp; omega) rfl ?_ | refine W.app 0 (.t rfl) rfl (.arr 2 (.t rfl) rfl (by first | (simp [AV.okc, shV]; done) | (intro e he; rw [List.mem_singleton.1 he]; rfl))) Try.underlying22 ni22 ty3 rfl rfl (by simp; omega) rfl ?_ | refine W.app 0 (.t rfl) rfl (.arr 3 (.t rfl) rfl (by first | (simp [AV.okc, shV]; done) | (intro e he; rw [List.mem_singleton.1 he]; rfl))) Try.underlying22 ni22 ty3 rfl rfl (by simp; omega) rfl ?_ | refine W.app 0 (.t rfl) rfl (.arr 4 (.t rfl) rfl (by first | (simp [AV.okc, shV]; done) | (intro e he; rw [List.mem_singleton.1 he]; rfl))) Try.underlying22 ni22 ty3 rfl rfl (by simp; omega) rfl ?_ | refine W.app 1 (.t rfl) rfl (.arr 0 (.t rfl) rfl (by first | (simp [AV.okc, shV]; done) | (intro e he; rw [List.mem_singleton.1 he]; rfl))) Try.underlying22 ni22 ty3 rfl rfl (by simp; omega) rfl ?_ | refine W.app 1 (.t rfl) rfl (.arr 1 (.t rfl) rfl (by first | (simp [AV.okc, shV]; done) | (intro e he; rw [List.mem_singleton.1 he]; rfl))) Try.underlying22 ni22 ty3 rfl rfl (by simp; omega) rfl ?_ | refine W.app 1 (.t rfl) rfl (.arr 2 (.t rfl) rfl (by first | (simp [AV.okc, shV]; done) | (intro e he; rw [List.mem_singleton.1 he]; rfl))) Try.underlying22 ni22 ty3 rfl rfl (by simp; omega) rfl ?_ | refine W.app 1 (.t rfl) rfl (.arr 3 (.t rfl) rfl (by first | (simp [AV.okc, shV]; done) | (intro e he; rw [List.mem_singleton.1 he]; rfl))) Try.underlying22 ni22 ty3 rfl rfl (by simp; omega) rfl ?_ | refine W.app 1 (.t rfl) rfl (.arr 4 (.t rfl) rfl (by first | (simp [AV.okc, shV]; done) | (intro e he; rw [List.mem_singleton.1 he]; rfl))) Try.underlying22 ni22 ty3 rfl rfl (by simp; omega) rfl ?_ | refine W.app 2 (.t rfl) rfl (.arr 0 (.t rfl) rfl (by first | (simp [AV.okc, shV]; done) | (intro e he; rw [List.mem_singleton.1 he]; rfl))) Try.underlying22 ni22 ty3 rfl rfl (by simp; omega) rfl ?_ | refine W.app 2 (.t rfl) rfl (.arr 1 (.t rfl) rfl (by first | (simp [AV.okc, shV]; done) | (intro e he; rw [List.mem_singleton.1 he]; rfl))) Try.underlying22 ni22 ty3 rfl rfl (by simp; omega) rfl ?_ | refine W.app 2 (.t rfl) rfl (.arr 2 (.t rfl) rfl (by first | (simp [AV.okc, shV]; done) | (intro e he; rw [List.mem_singleton.1 he]; rfl))) Try.underlying22 ni22 ty3 rfl rfl (by simp; omega) rfl ?_ | refine W.app 2 (.t rfl) rfl (.arr 3 (.t rfl) rfl (by first | (simp [AV.okc, shV]; done) | (intro e he; rw [List.mem_singleton.1 he]; rfl))) Try.underlying22 ni22 ty3 rfl rfl (by simp; omega) rfl ?_ | refine W.app 2 (.t rfl) rfl (.arr 4 (.t rfl) rfl (by first | (simp [AV.okc, shV]; done) | (intro e he; rw [List.mem_singleton.1 he]; rfl))) Try.underlying22 ni22 ty3 rfl rfl (by simp; omega) rfl ?_ | refine W.app 3 (.t rfl) rfl (.arr 0 (.t rfl) rfl (by first | (simp [AV.okc, shV]; done) | (intro e he; rw [List.mem_singleton.1 he]; rfl))) Try.underlying22 ni22 ty3 rfl rfl (by simp; omega) rfl ?_ | refine W.app 3 (.t rfl) rfl (.arr 1 (.t rfl) rfl (by first | (simp [AV.okc, shV]; done) | (intro e he; rw [List.mem_singleton.1 he]; rfl))) Try.underlying22 ni22 ty3 rfl rfl (by simp; omega) rfl ?_ | refine W.app 3 (.t rfl) rfl (.arr 2 (.t rfl) rfl (by first | (simp [AV.okc, shV]; done) | (intro e he; rw [List.mem_singleton.1 he]; rfl))) Try.underlying22 ni22 ty3 rfl rfl (by simp; omega) rfl ?_ | refine W.app 3 (.t rfl) rfl (.arr 3 (.t rfl) rfl (by first | (simp [AV.okc, shV]; done) | (intro e he; rw [List.mem_singleton.1 he]; rfl))) Try.underlying22 ni22 ty3 rfl rfl (by simp; omega) rfl ?_ | refine W.app 3 (.t rfl) rfl (.arr 4 (.t rfl) rfl (by first | (simp [AV.okc, shV]; done) | (intro e he; rw [List.mem_singleton.1 he]; rfl))) Try.underlying22 ni22 ty3 rfl rfl (by simp; omega) rfl ?_ | refine W.app 4 (.t rfl) rfl (.arr 0 (.t rfl) rfl (by first | (simp [AV.okc, shV]; done) | (intro e he; rw [List.mem_singleton.1 he]; rfl))) Try.underlying22 ni22 ty3 rfl rfl (by simp; omega) rfl ?_ | refine W.app 4 (.t rfl) rfl (.arr 1 (.t rfl) rfl (by first | (simp [AV.okc, shV]; done) | (intro e he; rw [List.mem_singleton.1 he]; rfl))) Try.underlying22 ni22 ty3 rfl rfl (by simp; omega) rfl ?_ | refine W.app 4 (.t rfl) rfl (.arr 2 (.t rfl) rfl (by first | (simp [AV.okc, shV]; done) | (intro e he; rw [List.mem_singleton.1 he]; rfl))) Try.underlying22 ni22 ty3 rfl rfl (by simp; omega) rfl ?_ | refine W.app 4 (.t rfl) rfl (.arr 3 (.t rfl) rfl (by first | (simp [AV.okc, shV]; done) | (intro e he; rw [List.mem_singleton.1 he]; rfl))) Try.underlying22 ni22 ty3 rfl rfl (by simp; omega) rfl ?_ | refine W.app 4 (.t rfl) rfl (.arr 4 (.t rfl) rfl (by first | (simp [AV.okc, shV]; done) | (intro e he; rw [List.mem_singleton.1 he]; rfl))) Try.underlying22 ni22 ty3 rfl rfl (by simp; omega) rfl ?_
      intro v81
      refine W.q (Ev.assign (.t rfl)) rfl ?_
      refine W.nil ?_
      refine W.blk_normal ?_
      refine W.then ?_
      refine W.region ?_
      refine W.q (Ev.move (.t rfl)) rfl ?_
      first | refine W.q (Ev.add (.t rfl) .k (fun _ => by omega)) rfl ?_ | refine W.q (Ev.addw (.t rfl) .k) rfl ?_
      refine W.q (Ev.assign (.t rfl)) rfl ?_
      refine W.nil ?_
      refine W.then ?_
      refine W.reach (D := []) (j + 1, v81) ⟨rfl, rfl, rfl, rfl, rfl, rfl, trivial⟩ (by rw [htj, List.map_append, List.map_append]; exact .refl _) ⟨by show j + 1 ≤ _; omega, by show _ - (j + 1) < _; omega⟩
    · rw [hendj, List.take_length]
      refine W.freezeA (M1 := []) (M2 := []) (D := []) (v := v) (L' := [(13, true, .sl 1 ((w.map (· + (k : Int))).map AV.int))]) (.refl _) ⟨⟨_, rfl, .one .hit⟩, trivial⟩ (FrzMs.refl _) ?_
      refine W.seq ?_
      refine W.seq ?_
      refine W.region ?_
      refine W.q (Ev.move (.t rfl)) rfl ?_
      refine W.q (Ev.move (.t rfl)) rfl ?_
      first | refine W.q (Ev.lensl (.t rfl) Try.underlying22) rfl ?_ | refine W.q (Ev.lenar (i := 0) (.t rfl) rfl Try.underlying22) rfl ?_ | refine W.q (Ev.lenar (i := 1) (.t rfl) rfl Try.underlying22) rfl ?_ | refine W.q (Ev.lenar (i := 2) (.t rfl) rfl Try.underlying22) rfl ?_ | refine W.q (Ev.lenar (i := 3) (.t rfl) rfl Try.underlying22) rfl ?_ | refine W.q (Ev.lenar (i := 4) (.t rfl) rfl Try.underlying22) rfl ?_
      refine W.q (Ev.lti (.t rfl) (.t rfl)) rfl ?_
      refine W.nil ?_
      refine W.then ?_
      refine W.is (t := 70) (g := true) (av' := .lit (.bool false)) rfl (congrArg (fun b => AV.lit (.bool b)) (by exact decide_eq_false (by omega))) ?_
      refine W.condF (.t rfl) ?_
      refine W.exit ?_
      refine W.then_exit ?_
      refine W.then_exit ?_
      refine W.blk_hit ?_
      refine W.then ?_
      refine W.seq ?_
      refine W.region ?_
      refine W.q (Ev.move (.t rfl)) rfl ?_
      refine W.callp (c1) ⟨(.t rfl), trivial⟩ rfl ?_
      refine W.q (Ev.move (.t rfl)) rfl ?_
      refine W.q (Ev.extract (.t rfl) rfl) rfl ?_
      refine W.q (Ev.extract (.t rfl) rfl) rfl ?_
      refine W.alloc ty28 rfl rfl ?_
      intro b15
      first | refine W.stb 0 (.t rfl) (.t rfl) rfl ty28 rfl rfl rfl ?_ | refine W.stb 1 (.t rfl) (.t rfl) rfl ty28 rfl rfl rfl ?_ | refine W.stb 2 (.t rfl) (.t rfl) rfl ty28 rfl rfl rfl ?_ | refine W.stb 3 (.t rfl) (.t rfl) rfl ty28 rfl rfl rfl ?_ | refine W.stb 4 (.t rfl) (.t rfl) rfl ty28 rfl rfl rfl ?_
      refine W.q (Ev.assign (.t rfl)) rfl ?_
      refine W.nil ?_
      refine W.then ?_
      refine W.seq ?_
      refine W.region ?_
      refine W.q (Ev.move (.t rfl)) rfl ?_
      refine W.callp (c2) ⟨(.t rfl), trivial⟩ rfl ?_
      refine W.q (Ev.move (.t rfl)) rfl ?_
      refine W.q (Ev.extract (.t rfl) rfl) rfl ?_
      refine W.q (Ev.extract (.t rfl) rfl) rfl ?_
      refine W.alloc ty28 rfl rfl ?_
      intro b17
      first | refine W.stb 0 (.t rfl) (.t rfl) rfl ty28 rfl rfl rfl ?_ | refine W.stb 1 (.t rfl) (.t rfl) rfl ty28 rfl rfl rfl ?_ | refine W.stb 2 (.t rfl) (.t rfl) rfl ty28 rfl rfl rfl ?_ | refine W.stb 3 (.t rfl) (.t rfl) rfl ty28 rfl rfl rfl ?_ | refine W.stb 4 (.t rfl) (.t rfl) rfl ty28 rfl rfl rfl ?_
      refine W.q (Ev.assign (.t rfl)) rfl ?_
      refine W.nil ?_
      refine W.then ?_
      refine W.seq ?_
      refine W.region ?_
      refine W.callp (WWords.c_a) ⟨.k, trivial⟩ rfl ?_
      refine W.q (Ev.move (.t rfl)) rfl ?_
      refine W.q (Ev.extract (.t rfl) rfl) rfl ?_
      refine W.q (Ev.extract (.t rfl) rfl) rfl ?_
      refine W.alloc ty28 rfl rfl ?_
      intro b19
      first | refine W.stb 0 (.t rfl) (.t rfl) rfl ty28 rfl rfl rfl ?_ | refine W.stb 1 (.t rfl) (.t rfl) rfl ty28 rfl rfl rfl ?_ | refine W.stb 2 (.t rfl) (.t rfl) rfl ty28 rfl rfl rfl ?_ | refine W.stb 3 (.t rfl) (.t rfl) rfl ty28 rfl rfl rfl ?_ | refine W.stb 4 (.t rfl) (.t rfl) rfl ty28 rfl rfl rfl ?_
      refine W.q (Ev.assign (.t rfl)) rfl ?_
      refine W.nil ?_
      refine W.then ?_
      refine W.seq ?_
      refine W.drawnE (ι := Unit) (fun _ _ => _) 22 () (by kernel_rfl) (by kernel_rfl) rfl ?_
      refine DE.q (fun e c hk => (Ev.move (.t rfl))) rfl (fun _ _ => rfl) (by first | exact .inr (fun _ _ => rfl) | exact .inl (by kernel_rfl)) ?_
      refine DE.q (fun e c hk => (Ev.move (.t rfl))) rfl (fun _ _ => rfl) (by first | exact .inr (fun _ _ => rfl) | exact .inl (by kernel_rfl)) ?_
      refine DE.qg rfl (fun _ => rfl) (fun e c hk => (Ev.move (.t rfl))) rfl (fun _ _ => rfl) (by first | exact .inr (fun _ _ => rfl) | exact .inl (by kernel_rfl)) ?_
      refine DE.q (fun e c hk => (Ev.and (.t rfl) ⟨_, _, rfl, rfl, by first | (simp; done) | (intro hg_ hp_; simp [hp_]; done) | (simp <;> omega; done) | (simp_all; done) | grind⟩)) rfl (fun _ _ => rfl) (by first | exact .inr (fun _ _ => rfl) | exact .inl (by kernel_rfl)) ?_
      refine DE.q (fun e c hk => (Ev.move (.t rfl))) rfl (fun _ _ => rfl) (by first | exact .inr (fun _ _ => rfl) | exact .inl (by kernel_rfl)) ?_
      refine DE.qg rfl (fun _ => rfl) (fun e c hk => (Ev.move (.t rfl))) rfl (fun _ _ => rfl) (by first | exact .inr (fun _ _ => rfl) | exact .inl (by kernel_rfl)) ?_
      refine DE.q (fun e c hk => (Ev.and (.t rfl) ⟨_, _, rfl, rfl, by first | (simp; done) | (intro hg_ hp_; simp [hp_]; done) | (simp <;> omega; done) | (simp_all; done) | grind⟩)) rfl (fun _ _ => rfl) (by first | exact .inr (fun _ _ => rfl) | exact .inl (by kernel_rfl)) ?_
      refine DE.q (fun e c hk => (Ev.move (.t rfl))) rfl (fun _ _ => rfl) (by first | exact .inr (fun _ _ => rfl) | exact .inl (by kernel_rfl)) ?_
      first | refine DE.qg rfl (fun _ => rfl) (fun e c hk => (Ev.lden (.t rfl) ag28 ty28 rfl rfl)) rfl (fun _ _ => rfl) (by first | exact .inr (fun _ _ => rfl) | exact .inl (by kernel_rfl)) ?_ | refine DE.qg rfl (fun _ => rfl) (fun e c hk => (Ev.ldbn 0 (.t rfl) rfl ag28 ty28 rfl)) rfl (fun _ _ => rfl) (by first | exact .inr (fun _ _ => rfl) | exact .inl (by kernel_rfl)) ?_ | refine DE.qg rfl (fun _ => rfl) (fun e c hk => (Ev.ldbn 1 (.t rfl) rfl ag28 ty28 rfl)) rfl (fun _ _ => rfl) (by first | exact .inr (fun _ _ => rfl) | exact .inl (by kernel_rfl)) ?_ | refine DE.qg rfl (fun _ => rfl) (fun e c hk => (Ev.ldbn 2 (.t rfl) rfl ag28 ty28 rfl)) rfl (fun _ _ => rfl) (by first | exact .inr (fun _ _ => rfl) | exact .inl (by kernel_rfl)) ?_ | refine DE.qg rfl (fun _ => rfl) (fun e c hk => (Ev.ldbn 3 (.t rfl) rfl ag28 ty28 rfl)) rfl (fun _ _ => rfl) (by first | exact .inr (fun _ _ => rfl) | exact .inl (by kernel_rfl)) ?_ | refine DE.qg rfl (fun _ => rfl) (fun e c hk => (Ev.ldbn 4 (.t rfl) rfl ag28 ty28 rfl)) rfl (fun _ _ => rfl) (by first | exact .inr (fun _ _ => rfl) | exact .inl (by kernel_rfl)) ?_
      refine DE.bsg (es := fun _ => [_]) rfl (fun _ => rfl) Try.underlying22 ty3 (fun c hg => ⟨rfl, .k, rfl, rfl, trivial⟩) (fun _ => rfl) (by decide) rfl rfl (fun _ _ => rfl) (by first | exact .inr (fun _ _ => rfl) | exact .inl (by kernel_rfl)) ?_
      refine DE.callg rfl (fun _ => rfl) (fun c hg => WWords.c_a0) (fun c hg => ⟨(.i rfl (fun _ => hg)), (.i rfl (fun _ => hg)), trivial⟩) rfl (fun _ _ => rfl) (by first | exact .inr (fun _ _ => rfl) | exact .inl (by kernel_rfl)) ?_
      refine DE.q (fun e c hk => (Ev.and (.t rfl) ⟨_, _, rfl, rfl, by first | (simp; done) | (intro hg_ hp_; simp [hp_]; done) | (simp <;> omega; done) | (simp_all; done) | grind⟩)) rfl (fun _ _ => rfl) (by first | exact .inr (fun _ _ => rfl) | exact .inl (by kernel_rfl)) ?_
      refine DE.q (fun e c hk => (Ev.move (.t rfl))) rfl (fun _ _ => rfl) (by first | exact .inr (fun _ _ => rfl) | exact .inl (by kernel_rfl)) ?_
      first | refine DE.qg rfl (fun _ => rfl) (fun e c hk => (Ev.lden (.t rfl) ag28 ty28 rfl rfl)) rfl (fun _ _ => rfl) (by first | exact .inr (fun _ _ => rfl) | exact .inl (by kernel_rfl)) ?_ | refine DE.qg rfl (fun _ => rfl) (fun e c hk => (Ev.ldbn 0 (.t rfl) rfl ag28 ty28 rfl)) rfl (fun _ _ => rfl) (by first | exact .inr (fun _ _ => rfl) | exact .inl (by kernel_rfl)) ?_ | refine DE.qg rfl (fun _ => rfl) (fun e c hk => (Ev.ldbn 1 (.t rfl) rfl ag28 ty28 rfl)) rfl (fun _ _ => rfl) (by first | exact .inr (fun _ _ => rfl) | exact .inl (by kernel_rfl)) ?_ | refine DE.qg rfl (fun _ => rfl) (fun e c hk => (Ev.ldbn 2 (.t rfl) rfl ag28 ty28 rfl)) rfl (fun _ _ => rfl) (by first | exact .inr (fun _ _ => rfl) | exact .inl (by kernel_rfl)) ?_ | refine DE.qg rfl (fun _ => rfl) (fun e c hk => (Ev.ldbn 3 (.t rfl) rfl ag28 ty28 rfl)) rfl (fun _ _ => rfl) (by first | exact .inr (fun _ _ => rfl) | exact .inl (by kernel_rfl)) ?_ | refine DE.qg rfl (fun _ => rfl) (fun e c hk => (Ev.ldbn 4 (.t rfl) rfl ag28 ty28 rfl)) rfl (fun _ _ => rfl) (by first | exact .inr (fun _ _ => rfl) | exact .inl (by kernel_rfl)) ?_
      refine DE.qg rfl (fun _ => rfl) (fun e c hk => (Ev.move (.t rfl))) rfl (fun _ _ => rfl) (by first | exact .inr (fun _ _ => rfl) | exact .inl (by kernel_rfl)) ?_
      refine DE.callg rfl (fun _ => rfl) (fun c hg => k1) (fun c hg => ⟨(.i rfl (fun _ => hg)), (.i rfl (fun _ => hg)), trivial⟩) rfl (fun _ _ => rfl) (by first | exact .inr (fun _ _ => rfl) | exact .inl (by kernel_rfl)) ?_
      first | refine DE.qg rfl (fun _ => rfl) (fun e c hk => (Ev.lden (.t rfl) ag28 ty28 rfl rfl)) rfl (fun _ _ => rfl) (by first | exact .inr (fun _ _ => rfl) | exact .inl (by kernel_rfl)) ?_ | refine DE.qg rfl (fun _ => rfl) (fun e c hk => (Ev.ldbn 0 (.t rfl) rfl ag28 ty28 rfl)) rfl (fun _ _ => rfl) (by first | exact .inr (fun _ _ => rfl) | exact .inl (by kernel_rfl)) ?_ | refine DE.qg rfl (fun _ => rfl) (fun e c hk => (Ev.ldbn 1 (.t rfl) rfl ag28 ty28 rfl)) rfl (fun _ _ => rfl) (by first | exact .inr (fun _ _ => rfl) | exact .inl (by kernel_rfl)) ?_ | refine DE.qg rfl (fun _ => rfl) (fun e c hk => (Ev.ldbn 2 (.t rfl) rfl ag28 ty28 rfl)) rfl (fun _ _ => rfl) (by first | exact .inr (fun _ _ => rfl) | exact .inl (by kernel_rfl)) ?_ | refine DE.qg rfl (fun _ => rfl) (fun e c hk => (Ev.ldbn 3 (.t rfl) rfl ag28 ty28 rfl)) rfl (fun _ _ => rfl) (by first | exact .inr (fun _ _ => rfl) | exact .inl (by kernel_rfl)) ?_ | refine DE.qg rfl (fun _ => rfl) (fun e c hk => (Ev.ldbn 4 (.t rfl) rfl ag28 ty28 rfl)) rfl (fun _ _ => rfl) (by first | exact .inr (fun _ _ => rfl) | exact .inl (by kernel_rfl)) ?_
      refine DE.qg rfl (fun _ => rfl) (fun e c hk => (Ev.move (.t rfl))) rfl (fun _ _ => rfl) (by first | exact .inr (fun _ _ => rfl) | exact .inl (by kernel_rfl)) ?_
      refine DE.callg rfl (fun _ => rfl) (fun c hg => k2) (fun c hg => ⟨(.i rfl (fun _ => hg)), (.i rfl (fun _ => hg)), trivial⟩) rfl (fun _ _ => rfl) (by first | exact .inr (fun _ _ => rfl) | exact .inl (by kernel_rfl)) ?_
      refine DE.qg rfl (fun _ => rfl) (fun e c hk => (Ev.eqb (.c rfl) (.c rfl) Try.underlying4)) rfl (fun _ _ => rfl) (by first | exact .inr (fun _ _ => rfl) | exact .inl (by kernel_rfl)) ?_
      refine DE.q (fun e c hk => (Ev.and (.t rfl) ⟨_, _, rfl, rfl, by first | (simp; done) | (intro hg_ hp_; simp [hp_]; done) | (simp <;> omega; done) | (simp_all; done) | grind⟩)) rfl (fun _ _ => rfl) (by first | exact .inr (fun _ _ => rfl) | exact .inl (by kernel_rfl)) ?_
      refine DE.q (fun e c hk => (Ev.assign (.t rfl))) rfl (fun _ _ => rfl) (by first | exact .inr (fun _ _ => rfl) | exact .inl (by kernel_rfl)) ?_
      refine DE.nil (fun c_ e_ he_ => ?_)
      dsimp only
      refine W.then ?_
      refine W.ret ?_
      refine W.retn (M' := []) (D := _) (rs := [.tmp 6]) (avs := [_]) Try.results6 ⟨rfl, trivial⟩ rfl (.refl _) ?_
      exact ⟨congrArg AV.bool (by simp), rfl⟩

end LExprRenamed

end Go.Proofs.Ythhkionhimbekaa
