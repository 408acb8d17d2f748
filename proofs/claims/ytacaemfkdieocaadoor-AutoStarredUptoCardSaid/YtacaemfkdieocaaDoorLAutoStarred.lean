/-
  The law AutoStarred, walked.
-/
import Derived.Test.YtacaemfkdieocaaDoorG11
set_option linter.unusedVariables false
set_option linter.unusedSimpArgs false
set_option maxRecDepth 100000
namespace Go.Proofs.YtacaemfkdieocaaDoor
open Go.Vl

namespace LAutoStarred
theorem ty3 : Ty Tryd.prog 3 1 8 (.int .i64 0) := Ty.of (by kernel_rfl)
theorem ty28 : Ty Tryd.prog 28 2 48 (.agg #[.slice none 0 0, .slice none 0 0]) := Ty.of (by kernel_rfl)
theorem ag28 : IsAgg Tryd.prog 28 true := ⟨_, Tryd.underlying28, rfl⟩
theorem ni22 : NotInt Tryd.prog 22 := .inl ⟨_, Tryd.underlying22⟩
theorem c_AutoStarred (l ws vs : List Int) (hl : l.length ≤ 1048576) (hw0 : ws.length ≤ 1048576) (hv0 : vs.length ≤ 1048576) (M0 : List ME) (hI : ∀ n : Int, -1 ≤ n → n < 100 → FnC Tryd.prog 61 [.int n] M0 (fun r M => r = .str (itoa n) ∧ M = M0)) : FnC Tryd.prog 3 [.sl 1 (l.map AV.int), .sl 1 (ws.map AV.int), .sl 1 (vs.map AV.int)] M0 (fun r M => r = .bool true ∧ M = M0) :=  by
  refine FnC.mk Tryd.func3 (by kernel_rfl) rfl Tryd.ntmps3 rfl (fun w0 F => ?_)
  refine W.seq ?_
  refine W.region ?_
  refine W.q (Ev.assign .k) rfl ?_
  refine W.nil ?_
  refine W.then ?_
  refine W.seq ?_
  refine W.region ?_
  refine W.q (Ev.move (.t rfl)) rfl ?_
  refine W.call (WDrawX.c_ExprText 2 (by decide) l (by omega)) ⟨(.t rfl), .k, trivial⟩ (.refl _) rfl ?_
  rintro _ _ ⟨rfl, A, rA, rfl, hA, hrA⟩
  have tA : (It.stx A).length ≤ 8 := hA.len
  have nA : It.snl A ≤ 2 := hA.nl
  have wA := It.slg_wid A
  refine W.q (Ev.move (.t rfl)) rfl ?_
  refine W.q (Ev.extract (.t rfl) rfl) rfl ?_
  refine W.q (Ev.extract (.t rfl) rfl) rfl ?_
  refine W.q (Ev.assign (.t rfl)) rfl ?_
  refine W.q (Ev.assign (.t rfl)) rfl ?_
  refine W.nil ?_
  refine W.then ?_
  refine W.seq ?_
  refine W.region ?_
  have cA := WMake.c_mk A [] hA.ok trivial (by simp only [It.anl]; omega) (L := It.slg A) (by rw [show It.alg [] = Lg.none from rfl, Lg.alt_none]) (wA.mono (by omega)) (It.stx A) (List.append_nil _).symm (by omega) M0 hI
  have cB := WMake.c_mk [It.gr A [] [0]] [] (by simp only [It.oks, It.ok, It.oka, and_true]; exact ⟨hA.ok, by simp⟩) (trivial) (by simp only [It.snl, It.anl, It.nl]; omega) (L := (Lg.star (It.slg A))) (by simp only [It.alg, It.slg, It.lg, Lg.alt_none, Lg.cat_eps, List.foldl_cons, List.foldl_nil, Lg.sfl, if_true, Nat.one_ne_zero, if_false]; try rfl) ((wA.mono (by omega)).star) ([40] ++ It.stx A ++ [41, 42]) (by simp [It.stx, It.tx, It.atl, sg]) (by simp only [List.length_append, List.length_cons, List.length_nil]; omega) M0 hI
  have cC := WMake.c_mk [It.gr [It.gr A [] [0]] [] [0]] [] (by simp only [It.oks, It.ok, It.oka, and_true]; exact ⟨⟨hA.ok, by simp⟩, by simp⟩) (trivial) (by simp only [It.snl, It.anl, It.nl]; omega) (L := (Lg.star (It.slg A))) (by simp only [It.alg, It.slg, It.lg, Lg.alt_none, Lg.cat_eps, List.foldl_cons, List.foldl_nil, Lg.sfl, if_true, Nat.one_ne_zero, if_false]; exact Lg.star_twice _) ((wA.mono (by omega)).star) ([40, 40] ++ It.stx A ++ [41, 42, 41, 42]) (by simp [It.stx, It.tx, It.atl, sg]) (by simp only [List.length_append, List.length_cons, List.length_nil]; omega) M0 hI
  have cD := WMake.c_mk [It.gr A [] [1]] [[]] (by simp only [It.oks, It.ok, It.oka, and_true]; exact ⟨hA.ok, by simp⟩) (⟨trivial, trivial⟩) (by simp only [It.snl, It.anl, It.nl]; omega) (L := (Lg.star (It.slg A))) (by simp only [It.alg, It.slg, It.lg, Lg.alt_none, Lg.cat_eps, List.foldl_cons, List.foldl_nil, Lg.sfl, if_true, Nat.one_ne_zero, if_false]; exact Lg.star_plus _) ((wA.mono (by omega)).star) ([40] ++ It.stx A ++ [41, 43, 124]) (by simp [It.stx, It.tx, It.atl, sg]) (by simp only [List.length_append, List.length_cons, List.length_nil]; omega) M0 hI
  refine W.q (Ev.move (.t rfl)) rfl ?_
  refine W.call (cA) ⟨(.t rfl), trivial⟩ ((List.Perm.of_eq (List.append_nil M0).symm)) rfl ?_
  rintro _ M' ⟨a, ha, la, ua, rfl, hM'⟩
  rw [hM']
  clear hM'
  rw [List.append_nil]
  refine W.q (Ev.move (.t rfl)) rfl ?_
  refine W.q (Ev.extract (.t rfl) rfl) rfl ?_
  refine W.q (Ev.extract (.t rfl) rfl) rfl ?_
  refine W.alloc ty28 rfl rfl ?_
  intro b9
  first | refine W.stb 0 (.t rfl) (.t rfl) rfl ty28 rfl rfl rfl ?_ | refine W.stb 1 (.t rfl) (.t rfl) rfl ty28 rfl rfl rfl ?_ | refine W.stb 2 (.t rfl) (.t rfl) rfl ty28 rfl rfl rfl ?_ | refine W.stb 3 (.t rfl) (.t rfl) rfl ty28 rfl rfl rfl ?_ | refine W.stb 4 (.t rfl) (.t rfl) rfl ty28 rfl rfl rfl ?_
  refine W.q (Ev.assign (.t rfl)) rfl ?_
  refine W.nil ?_
  refine W.then ?_
  refine W.seq ?_
  refine W.region ?_
  refine W.q (Ev.move (.t rfl)) rfl ?_
  refine W.q (Ev.cat .k (.t rfl) (fun _ => by first | omega | (simp only [List.length_append]; omega) | (simp [-List.length_flatMap]; omega) | (simp; omega))) rfl ?_
  refine W.q (Ev.cat (.t rfl) .k (fun _ => by first | omega | (simp only [List.length_append]; omega) | (simp [-List.length_flatMap]; omega) | (simp; omega))) rfl ?_
  refine W.call (cB) ⟨(.t rfl), trivial⟩ ((List.perm_append_comm (l₁ := [_]))) rfl ?_
  rintro _ M' ⟨b, hb, lb, ub, rfl, hM'⟩
  rw [hM']
  clear hM'
  refine W.perm (List.perm_append_comm (l₂ := [_])) ?_
  refine W.q (Ev.move (.t rfl)) rfl ?_
  refine W.q (Ev.extract (.t rfl) rfl) rfl ?_
  refine W.q (Ev.extract (.t rfl) rfl) rfl ?_
  refine W.alloc ty28 rfl rfl ?_
  intro b11
  first | refine W.stb 0 (.t rfl) (.t rfl) rfl ty28 rfl rfl rfl ?_ | refine W.stb 1 (.t rfl) (.t rfl) rfl ty28 rfl rfl rfl ?_ | refine W.stb 2 (.t rfl) (.t rfl) rfl ty28 rfl rfl rfl ?_ | refine W.stb 3 (.t rfl) (.t rfl) rfl ty28 rfl rfl rfl ?_ | refine W.stb 4 (.t rfl) (.t rfl) rfl ty28 rfl rfl rfl ?_
  refine W.q (Ev.assign (.t rfl)) rfl ?_
  refine W.nil ?_
  refine W.then ?_
  refine W.seq ?_
  refine W.region ?_
  refine W.q (Ev.move (.t rfl)) rfl ?_
  refine W.q (Ev.cat .k (.t rfl) (fun _ => by first | omega | (simp only [List.length_append]; omega) | (simp [-List.length_flatMap]; omega) | (simp; omega))) rfl ?_
  refine W.q (Ev.cat (.t rfl) .k (fun _ => by first | omega | (simp only [List.length_append]; omega) | (simp [-List.length_flatMap]; omega) | (simp; omega))) rfl ?_
  refine W.call (cC) ⟨(.t rfl), trivial⟩ ((List.perm_append_comm (l₁ := [_, _]))) rfl ?_
  rintro _ M' ⟨c, hc, lc, uc, rfl, hM'⟩
  rw [hM']
  clear hM'
  refine W.perm (List.perm_append_comm (l₂ := [_, _])) ?_
  refine W.q (Ev.move (.t rfl)) rfl ?_
  refine W.q (Ev.extract (.t rfl) rfl) rfl ?_
  refine W.q (Ev.extract (.t rfl) rfl) rfl ?_
  refine W.alloc ty28 rfl rfl ?_
  intro b13
  first | refine W.stb 0 (.t rfl) (.t rfl) rfl ty28 rfl rfl rfl ?_ | refine W.stb 1 (.t rfl) (.t rfl) rfl ty28 rfl rfl rfl ?_ | refine W.stb 2 (.t rfl) (.t rfl) rfl ty28 rfl rfl rfl ?_ | refine W.stb 3 (.t rfl) (.t rfl) rfl ty28 rfl rfl rfl ?_ | refine W.stb 4 (.t rfl) (.t rfl) rfl ty28 rfl rfl rfl ?_
  refine W.q (Ev.assign (.t rfl)) rfl ?_
  refine W.nil ?_
  refine W.then ?_
  refine W.seq ?_
  refine W.region ?_
  refine W.q (Ev.move (.t rfl)) rfl ?_
  refine W.q (Ev.cat .k (.t rfl) (fun _ => by first | omega | (simp only [List.length_append]; omega) | (simp [-List.length_flatMap]; omega) | (simp; omega))) rfl ?_
  refine W.q (Ev.cat (.t rfl) .k (fun _ => by first | omega | (simp only [List.length_append]; omega) | (simp [-List.length_flatMap]; omega) | (simp; omega))) rfl ?_
  refine W.call (cD) ⟨(.t rfl), trivial⟩ ((List.perm_append_comm (l₁ := [_, _, _]))) rfl ?_
  rintro _ M' ⟨d, hd, ld, ud, rfl, hM'⟩
  rw [hM']
  clear hM'
  refine W.perm (List.perm_append_comm (l₂ := [_, _, _])) ?_
  refine W.q (Ev.move (.t rfl)) rfl ?_
  refine W.q (Ev.extract (.t rfl) rfl) rfl ?_
  refine W.q (Ev.extract (.t rfl) rfl) rfl ?_
  refine W.alloc ty28 rfl rfl ?_
  intro b15
  first | refine W.stb 0 (.t rfl) (.t rfl) rfl ty28 rfl rfl rfl ?_ | refine W.stb 1 (.t rfl) (.t rfl) rfl ty28 rfl rfl rfl ?_ | refine W.stb 2 (.t rfl) (.t rfl) rfl ty28 rfl rfl rfl ?_ | refine W.stb 3 (.t rfl) (.t rfl) rfl ty28 rfl rfl rfl ?_ | refine W.stb 4 (.t rfl) (.t rfl) rfl ty28 rfl rfl rfl ?_
  refine W.q (Ev.assign (.t rfl)) rfl ?_
  refine W.nil ?_
  refine W.then ?_
  refine W.seq ?_
  refine W.region ?_
  refine W.q (Ev.move (.t rfl)) rfl ?_
  refine W.callp (WMatch2.c_WordOf ws 8 (by omega) (by decide)) ⟨(.t rfl), .k, trivial⟩ rfl ?_
  refine W.q (Ev.assign (.t rfl)) rfl ?_
  refine W.nil ?_
  refine W.then ?_
  refine W.seq ?_
  refine W.region ?_
  refine W.q (Ev.move (.t rfl)) rfl ?_
  refine W.callp (WMatch2.c_WordOf vs 8 (by omega) (by decide)) ⟨(.t rfl), .k, trivial⟩ rfl ?_
  refine W.q (Ev.assign (.t rfl)) rfl ?_
  refine W.nil ?_
  refine W.then ?_
  refine W.seq ?_
  refine W.region ?_
  have hxl := wordOf_len ws 8
  have hyl := wordOf_len vs 8
  have hxi : ∀ c ∈ wordOf ws 8, 0 ≤ c ∧ c < 8 := fun c hc => by have := wordOf_in ws 8 c hc; omega
  have hyi : ∀ c ∈ wordOf vs 8, 0 ≤ c ∧ c < 8 := fun c hc => by have := wordOf_in vs 8 c hc; omega
  generalize wordOf ws 8 = x at hxl hxi ⊢
  generalize wordOf vs 8 = y at hyl hyi ⊢
  refine W.q (Ev.move (.t rfl)) rfl ?_
  first | refine W.appn .k (.sl (.t rfl) (okc_ints x)) Tryd.underlying22 ni22 ty3 rfl rfl (by rw [List.length_map]; omega) rfl ?_ | refine W.appn .k (.arr 0 (.t rfl) rfl (okc_ints x)) Tryd.underlying22 ni22 ty3 rfl rfl (by rw [List.length_map]; omega) rfl ?_ | refine W.appn .k (.arr 1 (.t rfl) rfl (okc_ints x)) Tryd.underlying22 ni22 ty3 rfl rfl (by rw [List.length_map]; omega) rfl ?_ | refine W.appn .k (.arr 2 (.t rfl) rfl (okc_ints x)) Tryd.underlying22 ni22 ty3 rfl rfl (by rw [List.length_map]; omega) rfl ?_ | refine W.appn .k (.arr 3 (.t rfl) rfl (okc_ints x)) Tryd.underlying22 ni22 ty3 rfl rfl (by rw [List.length_map]; omega) rfl ?_ | refine W.appn .k (.arr 4 (.t rfl) rfl (okc_ints x)) Tryd.underlying22 ni22 ty3 rfl rfl (by rw [List.length_map]; omega) rfl ?_
  intro v56
  refine W.q (Ev.move (.t rfl)) rfl ?_
  first | refine W.app 0 (.t rfl) rfl (.sl (.t rfl) (okc_ints y)) Tryd.underlying22 ni22 ty3 rfl rfl (by rw [List.length_map, List.length_map]; omega) rfl ?_ | refine W.app 1 (.t rfl) rfl (.sl (.t rfl) (okc_ints y)) Tryd.underlying22 ni22 ty3 rfl rfl (by rw [List.length_map, List.length_map]; omega) rfl ?_ | refine W.app 2 (.t rfl) rfl (.sl (.t rfl) (okc_ints y)) Tryd.underlying22 ni22 ty3 rfl rfl (by rw [List.length_map, List.length_map]; omega) rfl ?_ | refine W.app 3 (.t rfl) rfl (.sl (.t rfl) (okc_ints y)) Tryd.underlying22 ni22 ty3 rfl rfl (by rw [List.length_map, List.length_map]; omega) rfl ?_ | refine W.app 4 (.t rfl) rfl (.sl (.t rfl) (okc_ints y)) Tryd.underlying22 ni22 ty3 rfl rfl (by rw [List.length_map, List.length_map]; omega) rfl ?_ | refine W.app 0 (.t rfl) rfl (.arr 0 (.t rfl) rfl (okc_ints y)) Tryd.underlying22 ni22 ty3 rfl rfl (by rw [List.length_map, List.length_map]; omega) rfl ?_ | refine W.app 0 (.t rfl) rfl (.arr 1 (.t rfl) rfl (okc_ints y)) Tryd.underlying22 ni22 ty3 rfl rfl (by rw [List.length_map, List.length_map]; omega) rfl ?_ | refine W.app 0 (.t rfl) rfl (.arr 2 (.t rfl) rfl (okc_ints y)) Tryd.underlying22 ni22 ty3 rfl rfl (by rw [List.length_map, List.length_map]; omega) rfl ?_ | refine W.app 0 (.t rfl) rfl (.arr 3 (.t rfl) rfl (okc_ints y)) Tryd.underlying22 ni22 ty3 rfl rfl (by rw [List.length_map, List.length_map]; omega) rfl ?_ | refine W.app 0 (.t rfl) rfl (.arr 4 (.t rfl) rfl (okc_ints y)) Tryd.underlying22 ni22 ty3 rfl rfl (by rw [List.length_map, List.length_map]; omega) rfl ?_ | refine W.app 1 (.t rfl) rfl (.arr 0 (.t rfl) rfl (okc_ints y)) Tryd.underlying22 ni22 ty3 rfl rfl (by rw [List.length_map, List.length_map]; omega) rfl ?_ | refine W.app 1 (.t rfl) rfl (.arr 1 (.t rfl) rfl (okc_ints y)) Tryd.underlying22 ni22 ty3 rfl rfl (by rw [List.length_map, List.length_map]; omega) rfl ?_ | refine W.app 1 (.t rfl) rfl (.arr 2 (.t rfl) rfl (okc_ints y)) Tryd.underlying22 ni22 ty3 rfl rfl (by rw [List.length_map, List.length_map]; omega) rfl ?_ | refine W.app 1 (.t rfl) rfl (.arr 3 (.t rfl) rfl (okc_ints y)) Tryd.underlying22 ni22 ty3 rfl rfl (by rw [List.length_map, List.length_map]; omega) rfl ?_ | refine W.app 1 (.t rfl) rfl (.arr 4 (.t rfl) rfl (okc_ints y)) Tryd.underlying22 ni22 ty3 rfl rfl (by rw [List.length_map, List.length_map]; omega) rfl ?_ | refine W.app 2 (.t rfl) rfl (.arr 0 (.t rfl) rfl (okc_ints y)) Tryd.underlying22 ni22 ty3 rfl rfl (by rw [List.length_map, List.length_map]; omega) rfl ?_ | refine W.app 2 (.t rfl) rfl (.arr 1 (.t rfl) rfl (okc_ints y)) Tryd.underlying22 ni22 ty3 rfl rfl (by rw [List.length_map, List.length_map]; omega) rfl ?_ | refine W.app 2 (.t rfl) rfl (.arr 2 (.t rfl) rfl (okc_ints y)) Tryd.underlying22 ni22 ty3 rfl rfl (by rw [List.length_map, List.length_map]; omega) rfl ?_ | refine W.app 2 (.t rfl) rfl (.arr 3 (.t rfl) rfl (okc_ints y)) Tryd.underlying22 ni22 ty3 rfl rfl (by rw [List.length_map, List.length_map]; omega) rfl ?_ | refine W.app 2 (.t rfl) rfl (.arr 4 (.t rfl) rfl (okc_ints y)) Tryd.underlying22 ni22 ty3 rfl rfl (by rw [List.length_map, List.length_map]; omega) rfl ?_ | refine W.app 3 (.t rfl) rfl (.arr 0 (.t rfl) rfl (okc_ints y)) Tryd.underlying22 ni22 ty3 rfl rfl (by rw [List.length_map, List.length_map]; omega) rfl ?_ | refine W.app 3 (.t rfl) rfl (.arr 1 (.t rfl) rfl (okc_ints y)) Tryd.underlying22 ni22 ty3 rfl rfl (by rw [List.length_map, List.length_map]; omega) rfl ?_ | refine W.app 3 (.t rfl) rfl (.arr 2 (.t rfl) rfl (okc_ints y)) Tryd.underlying22 ni22 ty3 rfl rfl (by rw [List.length_map, List.length_map]; omega) rfl ?_ | refine W.app 3 (.t rfl) rfl (.arr 3 (.t rfl) rfl (okc_ints y)) Tryd.underlying22 ni22 ty3 rfl rfl (by rw [List.length_map, List.length_map]; omega) rfl ?_ | refine W.app 3 (.t rfl) rfl (.arr 4 (.t rfl) rfl (okc_ints y)) Tryd.underlying22 ni22 ty3 rfl rfl (by rw [List.length_map, List.length_map]; omega) rfl ?_ | refine W.app 4 (.t rfl) rfl (.arr 0 (.t rfl) rfl (okc_ints y)) Tryd.underlying22 ni22 ty3 rfl rfl (by rw [List.length_map, List.length_map]; omega) rfl ?_ | refine W.app 4 (.t rfl) rfl (.arr 1 (.t rfl) rfl (okc_ints y)) Tryd.underlying22 ni22 ty3 rfl rfl (by rw [List.length_map, List.length_map]; omega) rfl ?_ | refine W.app 4 (.t rfl) rfl (.arr 2 (.t rfl) rfl (okc_ints y)) Tryd.underlying22 ni22 ty3 rfl rfl (by rw [List.length_map, List.length_map]; omega) rfl ?_ | refine W.app 4 (.t rfl) rfl (.arr 3 (.t rfl) rfl (okc_ints y)) Tryd.underlying22 ni22 ty3 rfl rfl (by rw [List.length_map, List.length_map]; omega) rfl ?_ | refine W.app 4 (.t rfl) rfl (.arr 4 (.t rfl) rfl (okc_ints y)) Tryd.underlying22 ni22 ty3 rfl rfl (by rw [List.length_map, List.length_map]; omega) rfl ?_
  intro v58
  refine W.q (Ev.assign (.t rfl)) rfl ?_
  refine W.nil ?_
  refine W.freezeA (M1 := _) (M2 := _) (D := []) (v := v58) (L' := [(19, true, .sl 1 ((x ++ y).map AV.int))]) (by rw [List.append_nil] <;> exact .refl _) ⟨⟨_, rfl, .one (by rw [List.map_append]; exact .hit)⟩, trivial⟩ (FrzMs.refl _) ?_
  refine W.then ?_
  refine W.seq ?_
  refine W.region ?_
  refine W.q (Ev.move (.t rfl)) rfl ?_
  refine W.q (Ev.move (.t rfl)) rfl ?_
  refine W.qgT rfl rfl (Ev.move (.t rfl)) rfl ?_
  refine W.q (Ev.and (.t rfl) ⟨_, _, rfl, rfl, by first | (simp; done) | (intro hg_ hp_; simp [hp_]; done) | (simp <;> omega; done) | (simp_all; done) | grind⟩) rfl ?_
  refine W.q (Ev.move (.t rfl)) rfl ?_
  refine W.qgT rfl rfl (Ev.move (.t rfl)) rfl ?_
  refine W.q (Ev.and (.t rfl) ⟨_, _, rfl, rfl, by first | (simp; done) | (intro hg_ hp_; simp [hp_]; done) | (simp <;> omega; done) | (simp_all; done) | grind⟩) rfl ?_
  refine W.q (Ev.move (.t rfl)) rfl ?_
  refine W.qgT rfl rfl (Ev.move (.t rfl)) rfl ?_
  refine W.q (Ev.and (.t rfl) ⟨_, _, rfl, rfl, by first | (simp; done) | (intro hg_ hp_; simp [hp_]; done) | (simp <;> omega; done) | (simp_all; done) | grind⟩) rfl ?_
  refine W.q (Ev.move (.t rfl)) rfl ?_
  first | refine W.qgT rfl rfl (Ev.lden (.t rfl) ag28 ty28 rfl rfl) rfl ?_ | refine W.qgT rfl rfl (Ev.ldbn 0 (.t rfl) rfl ag28 ty28 rfl) rfl ?_ | refine W.qgT rfl rfl (Ev.ldbn 1 (.t rfl) rfl ag28 ty28 rfl) rfl ?_ | refine W.qgT rfl rfl (Ev.ldbn 2 (.t rfl) rfl ag28 ty28 rfl) rfl ?_ | refine W.qgT rfl rfl (Ev.ldbn 3 (.t rfl) rfl ag28 ty28 rfl) rfl ?_ | refine W.qgT rfl rfl (Ev.ldbn 4 (.t rfl) rfl ag28 ty28 rfl) rfl ?_
  refine W.callgT (Min := []) (caps := []) (avs := [_, _]) rfl rfl (fun hg => WReads.c_reads b hb.shape (by omega) [] (by decide) (fun c hc => by cases hc)) (fun hg => .f) (fun hg => ⟨(.i rfl (fun _ => hg)), (by first | exact .k | exact .kn), trivial⟩) rfl (.refl _) rfl ?_
  refine W.q (Ev.and (.t rfl) ⟨_, _, rfl, rfl, by first | (simp; done) | (intro hg_ hp_; simp [hp_]; done) | (simp <;> omega; done) | (simp_all; done) | grind⟩) rfl ?_
  refine W.q (Ev.move (.t rfl)) rfl ?_
  first | refine W.qgT rfl rfl (Ev.lden (.t rfl) ag28 ty28 rfl rfl) rfl ?_ | refine W.qgT rfl rfl (Ev.ldbn 0 (.t rfl) rfl ag28 ty28 rfl) rfl ?_ | refine W.qgT rfl rfl (Ev.ldbn 1 (.t rfl) rfl ag28 ty28 rfl) rfl ?_ | refine W.qgT rfl rfl (Ev.ldbn 2 (.t rfl) rfl ag28 ty28 rfl) rfl ?_ | refine W.qgT rfl rfl (Ev.ldbn 3 (.t rfl) rfl ag28 ty28 rfl) rfl ?_ | refine W.qgT rfl rfl (Ev.ldbn 4 (.t rfl) rfl ag28 ty28 rfl) rfl ?_
  first | refine W.qgT rfl rfl (Ev.lden (.t rfl) ag28 ty28 rfl rfl) rfl ?_ | refine W.qgT rfl rfl (Ev.ldbn 0 (.t rfl) rfl ag28 ty28 rfl) rfl ?_ | refine W.qgT rfl rfl (Ev.ldbn 1 (.t rfl) rfl ag28 ty28 rfl) rfl ?_ | refine W.qgT rfl rfl (Ev.ldbn 2 (.t rfl) rfl ag28 ty28 rfl) rfl ?_ | refine W.qgT rfl rfl (Ev.ldbn 3 (.t rfl) rfl ag28 ty28 rfl) rfl ?_ | refine W.qgT rfl rfl (Ev.ldbn 4 (.t rfl) rfl ag28 ty28 rfl) rfl ?_
  refine W.callgT (Min := []) (caps := []) (avs := [_, _]) rfl rfl (fun hg => WReads.c_sameAuto b c hb.shape hc.shape (by omega) (by omega)) (fun hg => .f) (fun hg => ⟨(.i rfl (fun _ => hg)), (.i rfl (fun _ => hg)), trivial⟩) rfl (.refl _) rfl ?_
  refine W.q (Ev.and (.t rfl) ⟨_, _, rfl, rfl, by first | (simp; done) | (intro hg_ hp_; simp [hp_]; done) | (simp <;> omega; done) | (simp_all; done) | grind⟩) rfl ?_
  refine W.q (Ev.move (.t rfl)) rfl ?_
  first | refine W.qgT rfl rfl (Ev.lden (.t rfl) ag28 ty28 rfl rfl) rfl ?_ | refine W.qgT rfl rfl (Ev.ldbn 0 (.t rfl) rfl ag28 ty28 rfl) rfl ?_ | refine W.qgT rfl rfl (Ev.ldbn 1 (.t rfl) rfl ag28 ty28 rfl) rfl ?_ | refine W.qgT rfl rfl (Ev.ldbn 2 (.t rfl) rfl ag28 ty28 rfl) rfl ?_ | refine W.qgT rfl rfl (Ev.ldbn 3 (.t rfl) rfl ag28 ty28 rfl) rfl ?_ | refine W.qgT rfl rfl (Ev.ldbn 4 (.t rfl) rfl ag28 ty28 rfl) rfl ?_
  first | refine W.qgT rfl rfl (Ev.lden (.t rfl) ag28 ty28 rfl rfl) rfl ?_ | refine W.qgT rfl rfl (Ev.ldbn 0 (.t rfl) rfl ag28 ty28 rfl) rfl ?_ | refine W.qgT rfl rfl (Ev.ldbn 1 (.t rfl) rfl ag28 ty28 rfl) rfl ?_ | refine W.qgT rfl rfl (Ev.ldbn 2 (.t rfl) rfl ag28 ty28 rfl) rfl ?_ | refine W.qgT rfl rfl (Ev.ldbn 3 (.t rfl) rfl ag28 ty28 rfl) rfl ?_ | refine W.qgT rfl rfl (Ev.ldbn 4 (.t rfl) rfl ag28 ty28 rfl) rfl ?_
  refine W.callgT (Min := []) (caps := []) (avs := [_, _]) rfl rfl (fun hg => WReads.c_sameAuto b d hb.shape hd.shape (by omega) (by omega)) (fun hg => .f) (fun hg => ⟨(.i rfl (fun _ => hg)), (.i rfl (fun _ => hg)), trivial⟩) rfl (.refl _) rfl ?_
  refine W.q (Ev.and (.t rfl) ⟨_, _, rfl, rfl, by first | (simp; done) | (intro hg_ hp_; simp [hp_]; done) | (simp <;> omega; done) | (simp_all; done) | grind⟩) rfl ?_
  refine W.q (Ev.move (.t rfl)) rfl ?_
  first | refine W.qgT rfl rfl (Ev.lden (.t rfl) ag28 ty28 rfl rfl) rfl ?_ | refine W.qgT rfl rfl (Ev.ldbn 0 (.t rfl) rfl ag28 ty28 rfl) rfl ?_ | refine W.qgT rfl rfl (Ev.ldbn 1 (.t rfl) rfl ag28 ty28 rfl) rfl ?_ | refine W.qgT rfl rfl (Ev.ldbn 2 (.t rfl) rfl ag28 ty28 rfl) rfl ?_ | refine W.qgT rfl rfl (Ev.ldbn 3 (.t rfl) rfl ag28 ty28 rfl) rfl ?_ | refine W.qgT rfl rfl (Ev.ldbn 4 (.t rfl) rfl ag28 ty28 rfl) rfl ?_
  refine W.qgT rfl rfl (Ev.move (.t rfl)) rfl ?_
  refine W.callgT (Min := []) (caps := []) (avs := [_, _]) rfl rfl (fun hg => WReads.c_reads a ha.shape (by omega) x (by omega) hxi) (fun hg => .f) (fun hg => ⟨(.i rfl (fun _ => hg)), (.i rfl (fun _ => hg)), trivial⟩) rfl (.refl _) rfl ?_
  refine W.qgT rfl rfl (Ev.not (.c rfl)) rfl ?_
  refine W.qgT rfl rfl (Ev.move (.c rfl)) rfl ?_
  first | refine W.qgF' rfl rfl (Ev.lden (.t rfl) ag28 ty28 rfl rfl) rfl ?_ | refine W.qgF' rfl rfl (Ev.ldbn 0 (.t rfl) rfl ag28 ty28 rfl) rfl ?_ | refine W.qgF' rfl rfl (Ev.ldbn 1 (.t rfl) rfl ag28 ty28 rfl) rfl ?_ | refine W.qgF' rfl rfl (Ev.ldbn 2 (.t rfl) rfl ag28 ty28 rfl) rfl ?_ | refine W.qgF' rfl rfl (Ev.ldbn 3 (.t rfl) rfl ag28 ty28 rfl) rfl ?_ | refine W.qgF' rfl rfl (Ev.ldbn 4 (.t rfl) rfl ag28 ty28 rfl) rfl ?_
  refine W.qgF' rfl rfl (Ev.move (.t rfl)) rfl ?_
  refine W.callgF' (Min := []) (caps := []) (avs := [_, _]) rfl rfl (fun hg => WReads.c_reads b hb.shape (by omega) x (by omega) hxi) (fun hg => .f) (fun hg => ⟨(.i rfl (fun _ => hg)), (.i rfl (fun _ => hg)), trivial⟩) rfl (.refl _) rfl ?_
  refine W.qgT rfl rfl (Ev.or (.c rfl) ⟨_, _, rfl, rfl, by first | (simp; done) | (intro hg_ hp_; simp [hp_]; done) | (simp <;> omega; done) | (simp_all; done) | grind⟩) rfl ?_
  refine W.q (Ev.and (.t rfl) ⟨_, _, rfl, rfl, by first | (simp; done) | (intro hg_ hp_; simp [hp_]; done) | (simp <;> omega; done) | (simp_all; done) | grind⟩) rfl ?_
  refine W.q (Ev.move (.t rfl)) rfl ?_
  first | refine W.qgT rfl rfl (Ev.lden (.t rfl) ag28 ty28 rfl rfl) rfl ?_ | refine W.qgT rfl rfl (Ev.ldbn 0 (.t rfl) rfl ag28 ty28 rfl) rfl ?_ | refine W.qgT rfl rfl (Ev.ldbn 1 (.t rfl) rfl ag28 ty28 rfl) rfl ?_ | refine W.qgT rfl rfl (Ev.ldbn 2 (.t rfl) rfl ag28 ty28 rfl) rfl ?_ | refine W.qgT rfl rfl (Ev.ldbn 3 (.t rfl) rfl ag28 ty28 rfl) rfl ?_ | refine W.qgT rfl rfl (Ev.ldbn 4 (.t rfl) rfl ag28 ty28 rfl) rfl ?_
  refine W.qgT rfl rfl (Ev.move (.t rfl)) rfl ?_
  refine W.callgT (Min := []) (caps := []) (avs := [_, _]) rfl rfl (fun hg => WReads.c_reads b hb.shape (by omega) x (by omega) hxi) (fun hg => .f) (fun hg => ⟨(.i rfl (fun _ => hg)), (.i rfl (fun _ => hg)), trivial⟩) rfl (.refl _) rfl ?_
  refine W.qgT rfl rfl (Ev.not (.c rfl)) rfl ?_
  refine W.qgT rfl rfl (Ev.move (.c rfl)) rfl ?_
  first | refine W.qgF' rfl rfl (Ev.lden (.t rfl) ag28 ty28 rfl rfl) rfl ?_ | refine W.qgF' rfl rfl (Ev.ldbn 0 (.t rfl) rfl ag28 ty28 rfl) rfl ?_ | refine W.qgF' rfl rfl (Ev.ldbn 1 (.t rfl) rfl ag28 ty28 rfl) rfl ?_ | refine W.qgF' rfl rfl (Ev.ldbn 2 (.t rfl) rfl ag28 ty28 rfl) rfl ?_ | refine W.qgF' rfl rfl (Ev.ldbn 3 (.t rfl) rfl ag28 ty28 rfl) rfl ?_ | refine W.qgF' rfl rfl (Ev.ldbn 4 (.t rfl) rfl ag28 ty28 rfl) rfl ?_
  refine W.qgF' rfl rfl (Ev.move (.t rfl)) rfl ?_
  refine W.callgF' (Min := []) (caps := []) (avs := [_, _]) rfl rfl (fun hg => WReads.c_reads b hb.shape (by omega) y (by omega) hyi) (fun hg => .f) (fun hg => ⟨(.i rfl (fun _ => hg)), (.i rfl (fun _ => hg)), trivial⟩) rfl (.refl _) rfl ?_
  refine W.qgF' rfl rfl (Ev.not (.c rfl)) rfl ?_
  refine W.qgT rfl rfl (Ev.or (.c rfl) ⟨_, _, rfl, rfl, by first | (simp; done) | (intro hg_ hp_; simp [hp_]; done) | (simp <;> omega; done) | (simp_all; done) | grind⟩) rfl ?_
  refine W.qgT rfl rfl (Ev.move (.c rfl)) rfl ?_
  first | refine W.qgF' rfl rfl (Ev.lden (.t rfl) ag28 ty28 rfl rfl) rfl ?_ | refine W.qgF' rfl rfl (Ev.ldbn 0 (.t rfl) rfl ag28 ty28 rfl) rfl ?_ | refine W.qgF' rfl rfl (Ev.ldbn 1 (.t rfl) rfl ag28 ty28 rfl) rfl ?_ | refine W.qgF' rfl rfl (Ev.ldbn 2 (.t rfl) rfl ag28 ty28 rfl) rfl ?_ | refine W.qgF' rfl rfl (Ev.ldbn 3 (.t rfl) rfl ag28 ty28 rfl) rfl ?_ | refine W.qgF' rfl rfl (Ev.ldbn 4 (.t rfl) rfl ag28 ty28 rfl) rfl ?_
  refine W.qgF' rfl rfl (Ev.move (.t rfl)) rfl ?_
  refine W.callgF' (Min := []) (caps := []) (avs := [_, _]) rfl rfl (fun hg => WReads.c_reads b hb.shape (by omega) (x ++ y) (by rw [List.length_append]; omega) (fun c hc => (List.mem_append.1 hc).elim (hxi c) (hyi c))) (fun hg => .f) (fun hg => ⟨(.i rfl (fun _ => hg)), (.i rfl (fun _ => hg)), trivial⟩) rfl (.refl _) rfl ?_
  refine W.qgT rfl rfl (Ev.or (.c rfl) ⟨_, _, rfl, rfl, by first | (simp; done) | (intro hg_ hp_; simp [hp_]; done) | (simp <;> omega; done) | (simp_all; done) | grind⟩) rfl ?_
  refine W.q (Ev.and (.t rfl) ⟨_, _, rfl, rfl, by first | (simp; done) | (intro hg_ hp_; simp [hp_]; done) | (simp <;> omega; done) | (simp_all; done) | grind⟩) rfl ?_
  refine W.q (Ev.assign (.t rfl)) rfl ?_
  refine W.nil ?_
  refine W.then ?_
  refine W.ret ?_
  refine W.retn (M' := M0) (D := _) (rs := [.tmp 6]) (avs := [_]) Tryd.results3 ⟨rfl, trivial⟩ rfl (List.perm_append_comm (l₁ := [_, _, _, _])) ?_
  have e1 : b = c := hb.unique hc fun u => (ub u).trans (uc u).symm
  have e2 : b = d := hb.unique hd fun u => (ub u).trans (ud u).symm
  refine ⟨congrArg AV.bool ?_, rfl⟩
  have q0 : Lg.dec (b.acc 0) [] = true := Lg.dec_true ((ub []).2 .nil)
  have q1 : Lg.dec (a.acc 0) x = true → Lg.dec (b.acc 0) x = true := fun h => Lg.dec_true ((ub x).2 (Lg.star_one ((ua x).1 ((Lg.dec_iff _ _).1 h))))
  have q2 : Lg.dec (b.acc 0) x = true → Lg.dec (b.acc 0) y = true → Lg.dec (b.acc 0) (x ++ y) = true := fun h h2 => Lg.dec_true ((ub _).2 (Lg.star_append ((ub x).1 ((Lg.dec_iff _ _).1 h)) ((ub y).1 ((Lg.dec_iff _ _).1 h2))))
  rw [Au.eqb_eq e1, Au.eqb_eq e2, q0]
  generalize Lg.dec (a.acc 0) x = g1 at q1 ⊢
  generalize Lg.dec (b.acc 0) x = g2 at q1 q2 ⊢
  generalize Lg.dec (b.acc 0) y = g3 at q2 ⊢
  generalize Lg.dec (b.acc 0) (x ++ y) = g4 at q2 ⊢
  revert q1 q2
  cases g1 <;> cases g2 <;> cases g3 <;> cases g4 <;> simp

end LAutoStarred

end Go.Proofs.YtacaemfkdieocaaDoor
