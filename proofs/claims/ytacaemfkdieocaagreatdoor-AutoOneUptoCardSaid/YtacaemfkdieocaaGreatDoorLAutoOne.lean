/-
  The law AutoOne, walked.
-/
import Derived.Test.YtacaemfkdieocaaGreatDoorG13
set_option linter.unusedVariables false
set_option linter.unusedSimpArgs false
set_option maxRecDepth 100000
namespace Go.Proofs.YtacaemfkdieocaaGreatDoor
open Go.Vl

namespace LAutoOne
theorem ty28 : Ty Tryz.prog 28 2 48 (.agg #[.slice none 0 0, .slice none 0 0]) := Ty.of (by kernel_rfl)
theorem ag28 : IsAgg Tryz.prog 28 true := ⟨_, Tryz.underlying28, rfl⟩
theorem c_AutoOne (l m : List Int) (hl : l.length ≤ 1048576) (hm : m.length ≤ 1048576) (M0 : List ME) (hI : ∀ n : Int, -1 ≤ n → n < 100 → FnC Tryz.prog 68 [.int n] M0 (fun r M => r = .str (itoa n) ∧ M = M0)) : FnC Tryz.prog 3 [.sl 1 (l.map AV.int), .sl 1 (m.map AV.int)] M0 (fun r M => r = .bool true ∧ M = M0) :=  by
  refine FnC.mk Tryz.func3 (by kernel_rfl) rfl Tryz.ntmps3 rfl (fun w0 F => ?_)
  refine W.seq ?_
  refine W.region ?_
  refine W.q (Ev.assign .k) rfl ?_
  refine W.nil ?_
  refine W.then ?_
  refine W.seq ?_
  refine W.region ?_
  refine W.q (Ev.move (.t rfl)) rfl ?_
  refine W.call (WDrawX.c_ExprText 2 (by decide) l (by omega)) ⟨(.t rfl), .k, trivial⟩ (.refl _) rfl ?_
  rintro _ _ ⟨rfl, A, rA, rfl, hA, hrA⟩
  have tA : (It.stx A).length ≤ 8 := hA.len
  have nA : It.snl A ≤ 2 := hA.nl
  have wA := It.slg_wid A
  refine W.q (Ev.move (.t rfl)) rfl ?_
  refine W.q (Ev.extract (.t rfl) rfl) rfl ?_
  refine W.q (Ev.extract (.t rfl) rfl) rfl ?_
  refine W.q (Ev.assign (.t rfl)) rfl ?_
  refine W.q (Ev.assign (.t rfl)) rfl ?_
  refine W.nil ?_
  refine W.then ?_
  refine W.seq ?_
  refine W.region ?_
  refine W.q (Ev.move (.t rfl)) rfl ?_
  refine W.call (WDrawX.c_ExprText 2 (by decide) m (by omega)) ⟨(.t rfl), .k, trivial⟩ (.refl _) rfl ?_
  rintro _ _ ⟨rfl, B, rB, rfl, hB, hrB⟩
  have tB : (It.stx B).length ≤ 8 := hB.len
  have nB : It.snl B ≤ 2 := hB.nl
  have wB := It.slg_wid B
  refine W.q (Ev.move (.t rfl)) rfl ?_
  refine W.q (Ev.extract (.t rfl) rfl) rfl ?_
  refine W.q (Ev.extract (.t rfl) rfl) rfl ?_
  refine W.q (Ev.assign (.t rfl)) rfl ?_
  refine W.q (Ev.assign (.t rfl)) rfl ?_
  refine W.nil ?_
  refine W.then ?_
  refine W.seq ?_
  refine W.region ?_
  have cA := WMake.c_mk A [] hA.ok trivial (by simp only [It.anl]; omega) (L := It.slg A) (by rw [show It.alg [] = Lg.none from rfl, Lg.alt_none]) (wA.mono (by omega)) (It.stx A) (List.append_nil _).symm (by omega) M0 hI
  have cB := WMake.c_mk B [] hB.ok trivial (by simp only [It.anl]; omega) (L := It.slg B) (by rw [show It.alg [] = Lg.none from rfl, Lg.alt_none]) (wB.mono (by omega)) (It.stx B) (List.append_nil _).symm (by omega) M0 hI
  have cC := WMake.c_mk [It.gr A [] []] [[It.gr B [] []]] (by simp only [It.oks, It.ok, It.oka, and_true]; exact ⟨hA.ok, by simp⟩) (⟨by simp only [It.oks, It.ok, It.oka, and_true]; exact ⟨hB.ok, by simp⟩, trivial⟩) (by simp only [It.snl, It.anl, It.nl]; omega) (L := (Lg.alt (It.slg A) (It.slg B))) (by simp only [It.alg, It.slg, It.lg, Lg.alt_none, Lg.cat_eps, List.foldl_nil]) (((wA.mono nA).alt (wB.mono nB)).mono (by decide)) ([40] ++ It.stx A ++ [41, 124, 40] ++ It.stx B ++ [41]) (by simp [It.stx, It.tx, It.atl, sg]) (by simp only [List.length_append, List.length_cons, List.length_nil]; omega) M0 hI
  have cD := WMake.c_mk [It.gr B [] []] [[It.gr A [A] []]] (by simp only [It.oks, It.ok, It.oka, and_true]; exact ⟨hB.ok, by simp⟩) (⟨by simp only [It.oks, It.ok, It.oka, and_true]; exact ⟨⟨hA.ok, hA.ok⟩, by simp⟩, trivial⟩) (by simp only [It.snl, It.anl, It.nl]; omega) (L := (Lg.alt (It.slg B) (It.slg A))) (by simp only [It.alg, It.slg, It.lg, Lg.alt_none, Lg.cat_eps, List.foldl_nil, Lg.alt_self]) (((wB.mono nB).alt (wA.mono nA)).mono (by decide)) ([40] ++ It.stx B ++ [41, 124, 40] ++ It.stx A ++ [124] ++ It.stx A ++ [41]) (by simp [It.stx, It.tx, It.atl, sg]) (by simp only [List.length_append, List.length_cons, List.length_nil]; omega) M0 hI
  refine W.q (Ev.move (.t rfl)) rfl ?_
  refine W.call (cA) ⟨(.t rfl), trivial⟩ ((List.Perm.of_eq (List.append_nil M0).symm)) rfl ?_
  rintro _ M' ⟨a, ha, la, ua, rfl, hM'⟩
  rw [hM']
  clear hM'
  rw [List.append_nil]
  have sa : a.next.length ≤ 4 := ha.size_of ua (m := 2) (wA.mono nA)
  refine W.q (Ev.move (.t rfl)) rfl ?_
  refine W.q (Ev.extract (.t rfl) rfl) rfl ?_
  refine W.q (Ev.extract (.t rfl) rfl) rfl ?_
  refine W.alloc ty28 rfl rfl ?_
  intro b9
  (refine W.stb 0 (.t rfl) (.t rfl) rfl ty28 rfl rfl rfl ?_)
  refine W.q (Ev.assign (.t rfl)) rfl ?_
  refine W.nil ?_
  refine W.then ?_
  refine W.seq ?_
  refine W.region ?_
  refine W.q (Ev.move (.t rfl)) rfl ?_
  refine W.call (cB) ⟨(.t rfl), trivial⟩ ((List.perm_append_comm (l₁ := [_]))) rfl ?_
  rintro _ M' ⟨b, hb, lb, ub, rfl, hM'⟩
  rw [hM']
  clear hM'
  refine W.perm (List.perm_append_comm (l₂ := [_])) ?_
  have sb : b.next.length ≤ 4 := hb.size_of ub (m := 2) (wB.mono nB)
  refine W.q (Ev.move (.t rfl)) rfl ?_
  refine W.q (Ev.extract (.t rfl) rfl) rfl ?_
  refine W.q (Ev.extract (.t rfl) rfl) rfl ?_
  refine W.alloc ty28 rfl rfl ?_
  intro b11
  (refine W.stb 0 (.t rfl) (.t rfl) rfl ty28 rfl rfl rfl ?_)
  refine W.q (Ev.assign (.t rfl)) rfl ?_
  refine W.nil ?_
  refine W.then ?_
  refine W.seq ?_
  refine W.region ?_
  refine W.q (Ev.move (.t rfl)) rfl ?_
  refine W.q (Ev.cat .k (.t rfl) (fun _ => by ((simp [-List.length_flatMap]; omega)))) rfl ?_
  refine W.q (Ev.cat (.t rfl) .k (fun _ => by ((simp [-List.length_flatMap]; omega)))) rfl ?_
  refine W.q (Ev.move (.t rfl)) rfl ?_
  refine W.q (Ev.cat (.t rfl) (.t rfl) (fun _ => by ((simp [-List.length_flatMap]; omega)))) rfl ?_
  refine W.q (Ev.cat (.t rfl) .k (fun _ => by ((simp [-List.length_flatMap]; omega)))) rfl ?_
  refine W.call (cC) ⟨(.t rfl), trivial⟩ ((List.perm_append_comm (l₁ := [_, _]))) rfl ?_
  rintro _ M' ⟨mc, hmc, lmc, umc, rfl, hM'⟩
  rw [hM']
  clear hM'
  refine W.perm (List.perm_append_comm (l₂ := [_, _])) ?_
  refine W.q (Ev.move (.t rfl)) rfl ?_
  refine W.q (Ev.extract (.t rfl) rfl) rfl ?_
  refine W.q (Ev.extract (.t rfl) rfl) rfl ?_
  refine W.alloc ty28 rfl rfl ?_
  intro b13
  (refine W.stb 0 (.t rfl) (.t rfl) rfl ty28 rfl rfl rfl ?_)
  refine W.q (Ev.assign (.t rfl)) rfl ?_
  refine W.nil ?_
  refine W.then ?_
  refine W.seq ?_
  refine W.region ?_
  refine W.q (Ev.move (.t rfl)) rfl ?_
  refine W.q (Ev.cat .k (.t rfl) (fun _ => by ((simp [-List.length_flatMap]; omega)))) rfl ?_
  refine W.q (Ev.cat (.t rfl) .k (fun _ => by ((simp [-List.length_flatMap]; omega)))) rfl ?_
  refine W.q (Ev.move (.t rfl)) rfl ?_
  refine W.q (Ev.cat (.t rfl) (.t rfl) (fun _ => by ((simp [-List.length_flatMap]; omega)))) rfl ?_
  refine W.q (Ev.cat (.t rfl) .k (fun _ => by ((simp [-List.length_flatMap]; omega)))) rfl ?_
  refine W.q (Ev.move (.t rfl)) rfl ?_
  refine W.q (Ev.cat (.t rfl) (.t rfl) (fun _ => by ((simp [-List.length_flatMap]; omega)))) rfl ?_
  refine W.q (Ev.cat (.t rfl) .k (fun _ => by ((simp [-List.length_flatMap]; omega)))) rfl ?_
  refine W.call (cD) ⟨(.t rfl), trivial⟩ ((List.perm_append_comm (l₁ := [_, _, _]))) rfl ?_
  rintro _ M' ⟨md, hmd, lmd, umd, rfl, hM'⟩
  rw [hM']
  clear hM'
  refine W.perm (List.perm_append_comm (l₂ := [_, _, _])) ?_
  refine W.q (Ev.move (.t rfl)) rfl ?_
  refine W.q (Ev.extract (.t rfl) rfl) rfl ?_
  refine W.q (Ev.extract (.t rfl) rfl) rfl ?_
  refine W.alloc ty28 rfl rfl ?_
  intro b15
  (refine W.stb 0 (.t rfl) (.t rfl) rfl ty28 rfl rfl rfl ?_)
  refine W.q (Ev.assign (.t rfl)) rfl ?_
  refine W.nil ?_
  refine W.then ?_
  refine W.seq ?_
  refine W.region ?_
  (refine W.q (Ev.ldbn 3 (.t rfl) rfl ag28 ty28 rfl) rfl ?_)
  (refine W.q (Ev.ldbn 2 (.t rfl) rfl ag28 ty28 rfl) rfl ?_)
  refine W.call (WSame.c_Same a b ha.shape hb.shape (by omega) (by omega)) ⟨(.t rfl), (.t rfl), trivial⟩ (.refl _) rfl ?_
  rintro _ _ ⟨rfl, e0, he0, rfl⟩
  refine W.q (Ev.move (.t rfl)) rfl ?_
  refine W.q (Ev.extract (.t rfl) rfl) rfl ?_
  refine W.q (Ev.extract (.t rfl) rfl) rfl ?_
  refine W.q (Ev.assign (.t rfl)) rfl ?_
  refine W.q (Ev.assign (.t rfl)) rfl ?_
  refine W.nil ?_
  refine W.then ?_
  refine W.seq ?_
  refine W.region ?_
  refine W.q (Ev.move (.t rfl)) rfl ?_
  refine W.q (Ev.move (.t rfl)) rfl ?_
  refine W.qgT rfl rfl (Ev.move (.t rfl)) rfl ?_
  refine W.q (Ev.and (.t rfl) ⟨_, _, rfl, rfl, by ((simp; done))⟩) rfl ?_
  refine W.q (Ev.move (.t rfl)) rfl ?_
  refine W.qgT rfl rfl (Ev.move (.t rfl)) rfl ?_
  refine W.q (Ev.and (.t rfl) ⟨_, _, rfl, rfl, by ((simp; done))⟩) rfl ?_
  refine W.q (Ev.move (.t rfl)) rfl ?_
  refine W.qgT rfl rfl (Ev.move (.t rfl)) rfl ?_
  refine W.q (Ev.and (.t rfl) ⟨_, _, rfl, rfl, by ((simp; done))⟩) rfl ?_
  refine W.q (Ev.move (.t rfl)) rfl ?_
  refine W.qgT rfl rfl (Ev.move (.t rfl)) rfl ?_
  refine W.qgT rfl rfl (Ev.eqi (.c rfl) .k) rfl ?_
  refine W.q (Ev.and (.t rfl) ⟨_, _, rfl, rfl, by ((simp; done))⟩) rfl ?_
  refine W.q (Ev.move (.t rfl)) rfl ?_
  refine W.qgT rfl rfl (Ev.move (.t rfl)) rfl ?_
  (refine W.qgT rfl rfl (Ev.ldbn 3 (.t rfl) rfl ag28 ty28 rfl) rfl ?_)
  (refine W.qgT rfl rfl (Ev.ldbn 2 (.t rfl) rfl ag28 ty28 rfl) rfl ?_)
  refine W.callgT (Min := []) (caps := []) (avs := [_, _]) rfl rfl (fun hg => WReads.c_sameAuto a b ha.shape hb.shape (by omega) (by omega)) (fun hg => .f) (fun hg => ⟨(.i rfl (fun _ => hg)), (.i rfl (fun _ => hg)), trivial⟩) rfl (.refl _) rfl ?_
  refine W.qgT rfl rfl (Ev.eqb (.c rfl) (.c rfl) Tryz.underlying4) rfl ?_
  refine W.q (Ev.and (.t rfl) ⟨_, _, rfl, rfl, by ((simp; done))⟩) rfl ?_
  refine W.q (Ev.move (.t rfl)) rfl ?_
  (refine W.qgT rfl rfl (Ev.ldbn 1 (.t rfl) rfl ag28 ty28 rfl) rfl ?_)
  (refine W.qgT rfl rfl (Ev.ldbn 0 (.t rfl) rfl ag28 ty28 rfl) rfl ?_)
  refine W.callgT (Min := []) (caps := []) (avs := [_, _]) rfl rfl (fun hg => WReads.c_sameAuto mc md hmc.shape hmd.shape (by omega) (by omega)) (fun hg => .f) (fun hg => ⟨(.i rfl (fun _ => hg)), (.i rfl (fun _ => hg)), trivial⟩) rfl (.refl _) rfl ?_
  refine W.q (Ev.and (.t rfl) ⟨_, _, rfl, rfl, by ((simp; done))⟩) rfl ?_
  refine W.q (Ev.assign (.t rfl)) rfl ?_
  refine W.nil ?_
  refine W.then ?_
  refine W.ret ?_
  refine W.retn (M' := M0) (D := _) (rs := [.tmp 4]) (avs := [_]) Tryz.results3 ⟨rfl, trivial⟩ rfl (List.perm_append_comm (l₁ := [_, _, _, _])) ?_
  have e1 : mc = md := hmc.unique hmd fun u => (umc u).trans (or_comm.trans (umd u).symm)
  have e2 : e0 = Au.eqb a b := Bool.eq_iff_iff.2 (by rw [he0, Au.eqb_iff]; exact ⟨fun h => ha.unique hb h, fun h u => by rw [h]⟩)
  refine ⟨congrArg AV.bool ?_, rfl⟩
  rw [Au.eqb_eq e1, e2]
  simp

end LAutoOne

end Go.Proofs.YtacaemfkdieocaaGreatDoor
