/-
  The law AutoBoth, walked.
-/
import Derived.Test.YtacaemfkdieocaaGreatDoorG13
set_option linter.unusedVariables false
set_option linter.unusedSimpArgs false
set_option maxRecDepth 100000
namespace Go.Proofs.YtacaemfkdieocaaGreatDoor
open Go.Vl

namespace LAutoBoth
theorem ty28 : Ty Tryz.prog 28 2 48 (.agg #[.slice none 0 0, .slice none 0 0]) := Ty.of (by kernel_rfl)
theorem ag28 : IsAgg Tryz.prog 28 true := ⟨_, Tryz.underlying28, rfl⟩
theorem c_AutoBoth (l m ws : List Int) (hl : l.length ≤ 1048576) (hm : m.length ≤ 1048576) (hw0 : ws.length ≤ 1048576) (M0 : List ME) (hI : ∀ n : Int, -1 ≤ n → n < 100 → FnC Tryz.prog 68 [.int n] M0 (fun r M => r = .str (itoa n) ∧ M = M0)) : FnC Tryz.prog 4 [.sl 1 (l.map AV.int), .sl 1 (m.map AV.int), .sl 1 (ws.map AV.int)] M0 (fun r M => r = .bool true ∧ M = M0) :=  by
  refine FnC.mk Tryz.func4 (by kernel_rfl) rfl Tryz.ntmps4 rfl (fun w0 F => ?_)
  refine W.seq ?_
  refine W.region ?_
  refine W.q (Ev.assign .k) rfl ?_
  refine W.nil ?_
  refine W.then ?_
  refine W.seq ?_
  refine W.region ?_
  refine W.q (Ev.move (.t rfl)) rfl ?_
  refine W.call (WDrawX.c_ExprText 2 (by decide) l (by omega)) ⟨(.t rfl), .k, trivial⟩ (.refl _) rfl ?_
  rintro _ _ ⟨rfl, A, rA, rfl, hA, hrA⟩
  have tA : (It.stx A).length ≤ 8 := hA.len
  have nA : It.snl A ≤ 2 := hA.nl
  have wA := It.slg_wid A
  refine W.q (Ev.move (.t rfl)) rfl ?_
  refine W.q (Ev.extract (.t rfl) rfl) rfl ?_
  refine W.q (Ev.extract (.t rfl) rfl) rfl ?_
  refine W.q (Ev.assign (.t rfl)) rfl ?_
  refine W.q (Ev.assign (.t rfl)) rfl ?_
  refine W.nil ?_
  refine W.then ?_
  refine W.seq ?_
  refine W.region ?_
  refine W.q (Ev.move (.t rfl)) rfl ?_
  refine W.call (WDrawX.c_ExprText 2 (by decide) m (by omega)) ⟨(.t rfl), .k, trivial⟩ (.refl _) rfl ?_
  rintro _ _ ⟨rfl, B, rB, rfl, hB, hrB⟩
  have tB : (It.stx B).length ≤ 8 := hB.len
  have nB : It.snl B ≤ 2 := hB.nl
  have wB := It.slg_wid B
  refine W.q (Ev.move (.t rfl)) rfl ?_
  refine W.q (Ev.extract (.t rfl) rfl) rfl ?_
  refine W.q (Ev.extract (.t rfl) rfl) rfl ?_
  refine W.q (Ev.assign (.t rfl)) rfl ?_
  refine W.q (Ev.assign (.t rfl)) rfl ?_
  refine W.nil ?_
  refine W.then ?_
  refine W.seq ?_
  refine W.region ?_
  have cA := WMake.c_mk A [] hA.ok trivial (by simp only [It.anl]; omega) (L := It.slg A) (by rw [show It.alg [] = Lg.none from rfl, Lg.alt_none]) (wA.mono (by omega)) (It.stx A) (List.append_nil _).symm (by omega) M0 hI
  have cB := WMake.c_mk B [] hB.ok trivial (by simp only [It.anl]; omega) (L := It.slg B) (by rw [show It.alg [] = Lg.none from rfl, Lg.alt_none]) (wB.mono (by omega)) (It.stx B) (List.append_nil _).symm (by omega) M0 hI
  refine W.q (Ev.move (.t rfl)) rfl ?_
  refine W.call (cA) ⟨(.t rfl), trivial⟩ ((List.Perm.of_eq (List.append_nil M0).symm)) rfl ?_
  rintro _ M' ⟨a, ha, la, ua, rfl, hM'⟩
  rw [hM']
  clear hM'
  rw [List.append_nil]
  have sa : a.next.length ≤ 4 := ha.size_of ua (m := 2) (wA.mono nA)
  refine W.q (Ev.move (.t rfl)) rfl ?_
  refine W.q (Ev.extract (.t rfl) rfl) rfl ?_
  refine W.q (Ev.extract (.t rfl) rfl) rfl ?_
  refine W.alloc ty28 rfl rfl ?_
  intro b11
  (refine W.stb 0 (.t rfl) (.t rfl) rfl ty28 rfl rfl rfl ?_)
  refine W.q (Ev.assign (.t rfl)) rfl ?_
  refine W.nil ?_
  refine W.then ?_
  refine W.seq ?_
  refine W.region ?_
  refine W.q (Ev.move (.t rfl)) rfl ?_
  refine W.call (cB) ⟨(.t rfl), trivial⟩ ((List.perm_append_comm (l₁ := [_]))) rfl ?_
  rintro _ M' ⟨b, hb, lb, ub, rfl, hM'⟩
  rw [hM']
  clear hM'
  refine W.perm (List.perm_append_comm (l₂ := [_])) ?_
  have sb : b.next.length ≤ 4 := hb.size_of ub (m := 2) (wB.mono nB)
  refine W.q (Ev.move (.t rfl)) rfl ?_
  refine W.q (Ev.extract (.t rfl) rfl) rfl ?_
  refine W.q (Ev.extract (.t rfl) rfl) rfl ?_
  refine W.alloc ty28 rfl rfl ?_
  intro b13
  (refine W.stb 0 (.t rfl) (.t rfl) rfl ty28 rfl rfl rfl ?_)
  refine W.q (Ev.assign (.t rfl)) rfl ?_
  refine W.nil ?_
  refine W.then ?_
  refine W.seq ?_
  refine W.region ?_
  (refine W.q (Ev.ldbn 1 (.t rfl) rfl ag28 ty28 rfl) rfl ?_)
  (refine W.q (Ev.ldbn 0 (.t rfl) rfl ag28 ty28 rfl) rfl ?_)
  refine W.call (WBoth.c_Both a b ha.shape hb.shape (by omega) (by omega) (Nat.le_trans (Nat.mul_le_mul (Nat.succ_le_succ sa) (Nat.succ_le_succ sb)) (by decide)) M0 hI (fun d hd hu => Nat.le_trans (Au.Ord.both_size ha.shape hb.shape hd hu) (Nat.le_trans (Nat.mul_le_mul (Nat.succ_le_succ sa) (Nat.succ_le_succ sb)) (by decide)))) ⟨(.t rfl), (.t rfl), trivial⟩ ((List.perm_append_comm (l₁ := [_, _]))) rfl ?_
  rintro _ M' ⟨mc, hmc, umc, rfl, hM'⟩
  rw [hM']
  clear hM'
  refine W.perm (List.perm_append_comm (l₂ := [_, _])) ?_
  have lmc : mc.next.length ≤ 25 := Nat.le_trans (Au.Ord.both_size ha.shape hb.shape hmc umc) (Nat.mul_le_mul (Nat.succ_le_succ sa) (Nat.succ_le_succ sb))
  refine W.q (Ev.move (.t rfl)) rfl ?_
  refine W.q (Ev.extract (.t rfl) rfl) rfl ?_
  refine W.q (Ev.extract (.t rfl) rfl) rfl ?_
  refine W.alloc ty28 rfl rfl ?_
  intro b15
  (refine W.stb 0 (.t rfl) (.t rfl) rfl ty28 rfl rfl rfl ?_)
  refine W.q (Ev.assign (.t rfl)) rfl ?_
  refine W.nil ?_
  refine W.then ?_
  refine W.seq ?_
  refine W.region ?_
  (refine W.q (Ev.ldbn 1 (.t rfl) rfl ag28 ty28 rfl) rfl ?_)
  (refine W.q (Ev.ldbn 2 (.t rfl) rfl ag28 ty28 rfl) rfl ?_)
  refine W.call (WBoth.c_Both b a hb.shape ha.shape (by omega) (by omega) (Nat.le_trans (Nat.mul_le_mul (Nat.succ_le_succ sb) (Nat.succ_le_succ sa)) (by decide)) M0 hI (fun d hd hu => Nat.le_trans (Au.Ord.both_size hb.shape ha.shape hd hu) (Nat.le_trans (Nat.mul_le_mul (Nat.succ_le_succ sb) (Nat.succ_le_succ sa)) (by decide)))) ⟨(.t rfl), (.t rfl), trivial⟩ ((List.perm_append_comm (l₁ := [_, _, _]))) rfl ?_
  rintro _ M' ⟨md, hmd, umd, rfl, hM'⟩
  rw [hM']
  clear hM'
  refine W.perm (List.perm_append_comm (l₂ := [_, _, _])) ?_
  have lmd : md.next.length ≤ 25 := Nat.le_trans (Au.Ord.both_size hb.shape ha.shape hmd umd) (Nat.mul_le_mul (Nat.succ_le_succ sb) (Nat.succ_le_succ sa))
  refine W.q (Ev.move (.t rfl)) rfl ?_
  refine W.q (Ev.extract (.t rfl) rfl) rfl ?_
  refine W.q (Ev.extract (.t rfl) rfl) rfl ?_
  refine W.alloc ty28 rfl rfl ?_
  intro b17
  (refine W.stb 0 (.t rfl) (.t rfl) rfl ty28 rfl rfl rfl ?_)
  refine W.q (Ev.assign (.t rfl)) rfl ?_
  refine W.nil ?_
  refine W.then ?_
  refine W.seq ?_
  refine W.region ?_
  (refine W.q (Ev.ldbn 3 (.t rfl) rfl ag28 ty28 rfl) rfl ?_)
  (refine W.q (Ev.ldbn 3 (.t rfl) rfl ag28 ty28 rfl) rfl ?_)
  refine W.call (WBoth.c_Both a a ha.shape ha.shape (by omega) (by omega) (Nat.le_trans (Nat.mul_le_mul (Nat.succ_le_succ sa) (Nat.succ_le_succ sa)) (by decide)) M0 hI (fun d hd hu => Nat.le_trans (Au.Ord.both_size ha.shape ha.shape hd hu) (Nat.le_trans (Nat.mul_le_mul (Nat.succ_le_succ sa) (Nat.succ_le_succ sa)) (by decide)))) ⟨(.t rfl), (.t rfl), trivial⟩ ((List.perm_append_comm (l₁ := [_, _, _, _]))) rfl ?_
  rintro _ M' ⟨me, hme, ume, rfl, hM'⟩
  rw [hM']
  clear hM'
  refine W.perm (List.perm_append_comm (l₂ := [_, _, _, _])) ?_
  have lme : me.next.length ≤ 25 := Nat.le_trans (Au.Ord.both_size ha.shape ha.shape hme ume) (Nat.mul_le_mul (Nat.succ_le_succ sa) (Nat.succ_le_succ sa))
  refine W.q (Ev.move (.t rfl)) rfl ?_
  refine W.q (Ev.extract (.t rfl) rfl) rfl ?_
  refine W.q (Ev.extract (.t rfl) rfl) rfl ?_
  refine W.alloc ty28 rfl rfl ?_
  intro b19
  (refine W.stb 0 (.t rfl) (.t rfl) rfl ty28 rfl rfl rfl ?_)
  refine W.q (Ev.assign (.t rfl)) rfl ?_
  refine W.nil ?_
  refine W.then ?_
  refine W.seq ?_
  refine W.region ?_
  refine W.q (Ev.move (.t rfl)) rfl ?_
  refine W.callp (WMatch2.c_WordOf ws 12 (by omega) (by decide)) ⟨(.t rfl), .k, trivial⟩ rfl ?_
  refine W.q (Ev.assign (.t rfl)) rfl ?_
  refine W.nil ?_
  refine W.then ?_
  refine W.seq ?_
  refine W.drawnE (ι := Unit) (fun _ _ => _) 41 () (by kernel_rfl) (by kernel_rfl) rfl ?_
  have hxl := wordOf_len ws 12
  have hxi : ∀ c ∈ wordOf ws 12, 0 ≤ c ∧ c < 8 := fun c hc => by have := wordOf_in ws 12 c hc; omega
  generalize wordOf ws 12 = x at hxl hxi ⊢
  refine DE.q (fun e c hk => (Ev.move (.t rfl))) rfl (fun _ _ => rfl) (by (exact .inr (fun _ _ => rfl))) ?_
  refine DE.q (fun e c hk => (Ev.move (.t rfl))) rfl (fun _ _ => rfl) (by (exact .inr (fun _ _ => rfl))) ?_
  refine DE.qg rfl (fun _ => rfl) (fun e c hk => (Ev.move (.t rfl))) rfl (fun _ _ => rfl) (by (exact .inr (fun _ _ => rfl))) ?_
  refine DE.q (fun e c hk => (Ev.and (.t rfl) ⟨_, _, rfl, rfl, by ((simp; done))⟩)) rfl (fun _ _ => rfl) (by (exact .inr (fun _ _ => rfl))) ?_
  refine DE.q (fun e c hk => (Ev.move (.t rfl))) rfl (fun _ _ => rfl) (by (exact .inr (fun _ _ => rfl))) ?_
  refine DE.qg rfl (fun _ => rfl) (fun e c hk => (Ev.move (.t rfl))) rfl (fun _ _ => rfl) (by (exact .inr (fun _ _ => rfl))) ?_
  refine DE.qg rfl (fun _ => rfl) (fun e c hk => (Ev.eqi (.c rfl) .k)) rfl (fun _ _ => rfl) (by (exact .inr (fun _ _ => rfl))) ?_
  refine DE.q (fun e c hk => (Ev.and (.t rfl) ⟨_, _, rfl, rfl, by ((simp; done))⟩)) rfl (fun _ _ => rfl) (by (exact .inr (fun _ _ => rfl))) ?_
  refine DE.q (fun e c hk => (Ev.move (.t rfl))) rfl (fun _ _ => rfl) (by (exact .inr (fun _ _ => rfl))) ?_
  refine DE.qg rfl (fun _ => rfl) (fun e c hk => (Ev.move (.t rfl))) rfl (fun _ _ => rfl) (by (exact .inr (fun _ _ => rfl))) ?_
  refine DE.qg rfl (fun _ => rfl) (fun e c hk => (Ev.eqi (.c rfl) .k)) rfl (fun _ _ => rfl) (by (exact .inr (fun _ _ => rfl))) ?_
  refine DE.q (fun e c hk => (Ev.and (.t rfl) ⟨_, _, rfl, rfl, by ((simp; done))⟩)) rfl (fun _ _ => rfl) (by (exact .inr (fun _ _ => rfl))) ?_
  refine DE.q (fun e c hk => (Ev.move (.t rfl))) rfl (fun _ _ => rfl) (by (exact .inr (fun _ _ => rfl))) ?_
  refine DE.qg rfl (fun _ => rfl) (fun e c hk => (Ev.move (.t rfl))) rfl (fun _ _ => rfl) (by (exact .inr (fun _ _ => rfl))) ?_
  refine DE.qg rfl (fun _ => rfl) (fun e c hk => (Ev.eqi (.c rfl) .k)) rfl (fun _ _ => rfl) (by (exact .inr (fun _ _ => rfl))) ?_
  refine DE.q (fun e c hk => (Ev.and (.t rfl) ⟨_, _, rfl, rfl, by ((simp; done))⟩)) rfl (fun _ _ => rfl) (by (exact .inr (fun _ _ => rfl))) ?_
  refine DE.q (fun e c hk => (Ev.move (.t rfl))) rfl (fun _ _ => rfl) (by (exact .inr (fun _ _ => rfl))) ?_
  (refine DE.qg rfl (fun _ => rfl) (fun e c hk => (Ev.ldbn 2 (.t rfl) rfl ag28 ty28 rfl)) rfl (fun _ _ => rfl) (by (exact .inr (fun _ _ => rfl))) ?_)
  (refine DE.qg rfl (fun _ => rfl) (fun e c hk => (Ev.ldbn 1 (.t rfl) rfl ag28 ty28 rfl)) rfl (fun _ _ => rfl) (by (exact .inr (fun _ _ => rfl))) ?_)
  refine DE.callg rfl (fun _ => rfl) (fun c hg => WReads.c_sameAuto mc md hmc.shape hmd.shape (by omega) (by omega)) (fun c hg => ⟨(.i rfl (fun _ => hg)), (.i rfl (fun _ => hg)), trivial⟩) rfl (fun _ _ => rfl) (by (exact .inr (fun _ _ => rfl))) ?_
  refine DE.q (fun e c hk => (Ev.and (.t rfl) ⟨_, _, rfl, rfl, by ((simp; done))⟩)) rfl (fun _ _ => rfl) (by (exact .inr (fun _ _ => rfl))) ?_
  refine DE.q (fun e c hk => (Ev.move (.t rfl))) rfl (fun _ _ => rfl) (by (exact .inr (fun _ _ => rfl))) ?_
  (refine DE.qg rfl (fun _ => rfl) (fun e c hk => (Ev.ldbn 0 (.t rfl) rfl ag28 ty28 rfl)) rfl (fun _ _ => rfl) (by (exact .inr (fun _ _ => rfl))) ?_)
  (refine DE.qg rfl (fun _ => rfl) (fun e c hk => (Ev.ldbn 4 (.t rfl) rfl ag28 ty28 rfl)) rfl (fun _ _ => rfl) (by (exact .inr (fun _ _ => rfl))) ?_)
  refine DE.callg rfl (fun _ => rfl) (fun c hg => WReads.c_sameAuto me a hme.shape ha.shape (by omega) (by omega)) (fun c hg => ⟨(.i rfl (fun _ => hg)), (.i rfl (fun _ => hg)), trivial⟩) rfl (fun _ _ => rfl) (by (exact .inr (fun _ _ => rfl))) ?_
  refine DE.q (fun e c hk => (Ev.and (.t rfl) ⟨_, _, rfl, rfl, by ((simp; done))⟩)) rfl (fun _ _ => rfl) (by (exact .inr (fun _ _ => rfl))) ?_
  refine DE.q (fun e c hk => (Ev.move (.t rfl))) rfl (fun _ _ => rfl) (by (exact .inr (fun _ _ => rfl))) ?_
  (refine DE.qg rfl (fun _ => rfl) (fun e c hk => (Ev.ldbn 2 (.t rfl) rfl ag28 ty28 rfl)) rfl (fun _ _ => rfl) (by (exact .inr (fun _ _ => rfl))) ?_)
  refine DE.qg rfl (fun _ => rfl) (fun e c hk => (Ev.move (.t rfl))) rfl (fun _ _ => rfl) (by (exact .inr (fun _ _ => rfl))) ?_
  refine DE.callg rfl (fun _ => rfl) (fun c hg => WReads.c_reads mc hmc.shape (by omega) x (by omega) hxi) (fun c hg => ⟨(.i rfl (fun _ => hg)), (.i rfl (fun _ => hg)), trivial⟩) rfl (fun _ _ => rfl) (by (exact .inr (fun _ _ => rfl))) ?_
  (refine DE.qg rfl (fun _ => rfl) (fun e c hk => (Ev.ldbn 4 (.t rfl) rfl ag28 ty28 rfl)) rfl (fun _ _ => rfl) (by (exact .inr (fun _ _ => rfl))) ?_)
  refine DE.qg rfl (fun _ => rfl) (fun e c hk => (Ev.move (.t rfl))) rfl (fun _ _ => rfl) (by (exact .inr (fun _ _ => rfl))) ?_
  refine DE.callg rfl (fun _ => rfl) (fun c hg => WReads.c_reads a ha.shape (by omega) x (by omega) hxi) (fun c hg => ⟨(.i rfl (fun _ => hg)), (.i rfl (fun _ => hg)), trivial⟩) rfl (fun _ _ => rfl) (by (exact .inr (fun _ _ => rfl))) ?_
  refine DE.qg rfl (fun _ => rfl) (fun e c hk => (Ev.move (.c rfl))) rfl (fun _ _ => rfl) (by (exact .inr (fun _ _ => rfl))) ?_
  (refine DE.qg rfl (fun _ => rfl) (fun e c hk => (Ev.ldbn 3 (.t rfl) rfl ag28 ty28 rfl)) rfl (fun _ _ => rfl) (by (exact .inr (fun _ _ => rfl))) ?_)
  refine DE.qg rfl (fun _ => rfl) (fun e c hk => (Ev.move (.t rfl))) rfl (fun _ _ => rfl) (by (exact .inr (fun _ _ => rfl))) ?_
  refine DE.callg rfl (fun _ => rfl) (fun c hg => WReads.c_reads b hb.shape (by omega) x (by omega) hxi) (fun c hg => ⟨(.i rfl (fun _ => hg)), (.i rfl (fun _ => hg)), trivial⟩) rfl (fun _ _ => rfl) (by (exact .inr (fun _ _ => rfl))) ?_
  refine DE.qg rfl (fun _ => rfl) (fun e c hk => (Ev.and (.c rfl) ⟨_, _, rfl, rfl, by ((simp_all; done))⟩)) rfl (fun _ _ => rfl) (by (exact .inr (fun _ _ => rfl))) ?_
  refine DE.qg rfl (fun _ => rfl) (fun e c hk => (Ev.eqb (.c rfl) (.c rfl) Tryz.underlying4)) rfl (fun _ _ => rfl) (by (exact .inr (fun _ _ => rfl))) ?_
  refine DE.q (fun e c hk => (Ev.and (.t rfl) ⟨_, _, rfl, rfl, by ((simp; done))⟩)) rfl (fun _ _ => rfl) (by (exact .inr (fun _ _ => rfl))) ?_
  refine DE.q (fun e c hk => (Ev.assign (.t rfl))) rfl (fun _ _ => rfl) (by (exact .inr (fun _ _ => rfl))) ?_
  refine DE.nil (fun c_ e_ he_ => ?_)
  dsimp only
  refine W.then ?_
  refine W.ret ?_
  refine W.retn (M' := M0) (D := _) (rs := [.tmp 6]) (avs := [_]) Tryz.results4 ⟨rfl, trivial⟩ rfl (List.perm_append_comm (l₁ := [_, _, _, _, _])) ?_
  have e1 : mc = md := hmc.unique hmd fun u => (umc u).trans (and_comm.trans (umd u).symm)
  have e2 : me = a := hme.unique ha fun u => (ume u).trans ⟨And.left, fun h => ⟨h, h⟩⟩
  have e3 : Lg.dec (mc.acc 0) x = (Lg.dec (a.acc 0) x && Lg.dec (b.acc 0) x) := Bool.eq_iff_iff.2 (by rw [Bool.and_eq_true, Lg.dec_iff, Lg.dec_iff, Lg.dec_iff]; exact umc x)
  refine ⟨congrArg AV.bool ?_, rfl⟩
  rw [Au.eqb_eq e1, Au.eqb_eq e2, e3]
  cases Lg.dec (a.acc 0) x <;> simp

end LAutoBoth

end Go.Proofs.YtacaemfkdieocaaGreatDoor
