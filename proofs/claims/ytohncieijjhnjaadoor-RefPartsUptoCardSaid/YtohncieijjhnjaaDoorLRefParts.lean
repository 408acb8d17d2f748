/-
  The law RefParts, walked.
-/
import Derived.Test.YtohncieijjhnjaaDoorG8
set_option linter.unusedVariables false
set_option linter.unusedSimpArgs false
set_option maxRecDepth 100000
namespace Go.Proofs.YtohncieijjhnjaaDoor
open Go.Vl

namespace LRefParts

theorem c_RefParts (T tp : TypeId) (p : Value) (s t : List UInt8) (q : Bool) (hs : s.length ≤ 1048576) (ht : t.length ≤ 1048576) : FnC Tryd.prog 6 [.str s, .str t, .bool q] [ifv 3 T tp p] (fun r M => r = .bool true ∧ M = [ifv 3 T tp p]) :=  by
  refine FnC.mk Tryd.func6 (by kernel_rfl) rfl Tryd.ntmps6 rfl (fun w0 F => ?_)
  have hl1 := esc_len q s
  have hl2 := esc_len q t
  have hul := Une.une_len t
  have hll : (esc q s ++ [38, 97, 109, 112, 59]).length = (esc q s).length + 5 := by simp
  have hl3 : (s ++ [38]).length = s.length + 1 := by simp
  have hU := Une.une_parts q s t
  refine W.seq ?_
  refine W.region ?_
  refine W.q (Ev.assign .k) rfl ?_
  refine W.nil ?_
  refine W.then ?_
  refine W.seq ?_
  refine W.region ?_
  refine W.call (WSureV.c_sureV T tp p) trivial (.refl _) rfl ?_
  rintro _ _ ⟨rfl, rfl⟩
  refine W.q (Ev.move (.t rfl)) rfl ?_
  refine W.gyes rfl rfl ?_
  refine W.q (Ev.move (.t rfl)) rfl ?_
  refine W.gyes rfl rfl ?_
  refine W.q (Ev.move (.t rfl)) rfl ?_
  refine W.gyes rfl rfl ?_
  refine W.q (Ev.cat (.t rfl) (.t rfl) (fun _ => by first | omega | (simp only [List.length_append]; omega) | (simp [-List.length_flatMap]; omega) | (simp; omega))) rfl ?_
  refine W.gyes rfl rfl ?_
  refine W.q (Ev.move (.t rfl)) rfl ?_
  refine W.gyes rfl rfl ?_
  refine W.callp (WEsc.c_Escape (s ++ t) q (by rw [List.length_append]; omega)) ⟨(.t rfl), (.t rfl), trivial⟩ rfl ?_
  refine W.gyes rfl rfl ?_
  refine W.q (Ev.move (.t rfl)) rfl ?_
  refine W.gyes rfl rfl ?_
  refine W.q (Ev.move (.t rfl)) rfl ?_
  refine W.gyes rfl rfl ?_
  refine W.callp (WEsc.c_Escape s q (by omega)) ⟨(.t rfl), (.t rfl), trivial⟩ rfl ?_
  refine W.gyes rfl rfl ?_
  refine W.q (Ev.move (.t rfl)) rfl ?_
  refine W.gyes rfl rfl ?_
  refine W.q (Ev.move (.t rfl)) rfl ?_
  refine W.gyes rfl rfl ?_
  refine W.callp (WEsc.c_Escape t q (by omega)) ⟨(.t rfl), (.t rfl), trivial⟩ rfl ?_
  refine W.gyes rfl rfl ?_
  refine W.q (Ev.cat (.t rfl) (.t rfl) (fun _ => by first | omega | (simp only [List.length_append]; omega) | (simp [-List.length_flatMap]; omega) | (simp; omega))) rfl ?_
  refine W.gyes rfl rfl ?_
  refine W.q (Ev.eqs (.t rfl) (.t rfl)) rfl ?_
  refine W.q (Ev.and (.t rfl) ⟨_, _, rfl, rfl, by first | (simp; done) | (intro hg_ hp_; simp [hp_]; done) | (simp <;> omega; done) | (simp_all; done) | grind⟩) rfl ?_
  refine W.q (Ev.move (.t rfl)) rfl ?_
  refine W.is (t := 23) (g := true) (av' := .bool true) rfl (congrArg AV.bool (by rw [esc_append]; simp)) ?_
  refine W.gyes rfl rfl ?_
  refine W.q (Ev.move (.t rfl)) rfl ?_
  refine W.gyes rfl rfl ?_
  refine W.q (Ev.move (.t rfl)) rfl ?_
  refine W.gyes rfl rfl ?_
  refine W.callp (WEsc.c_Escape s q (by omega)) ⟨(.t rfl), (.t rfl), trivial⟩ rfl ?_
  refine W.gyes rfl rfl ?_
  refine W.q (Ev.cat (.t rfl) .k (fun _ => by first | omega | (simp only [List.length_append]; omega) | (simp [-List.length_flatMap]; omega) | (simp; omega))) rfl ?_
  refine W.gyes rfl rfl ?_
  refine W.q (Ev.move (.t rfl)) rfl ?_
  refine W.gyes rfl rfl ?_
  refine W.q (Ev.cat (.t rfl) (.t rfl) (fun _ => by first | omega | (simp only [List.length_append]; omega) | (simp [-List.length_flatMap]; omega) | (simp; omega))) rfl ?_
  refine W.gyes rfl rfl ?_
  refine W.call (WUne.c_Une T tp p ((esc q s ++ [38, 97, 109, 112, 59]) ++ t) (by rw [List.length_append]; omega)) ⟨(.t rfl), trivial⟩ (.refl _) rfl ?_
  rintro _ _ ⟨rfl, rfl⟩
  rw [hU]
  refine W.gyes rfl rfl ?_
  refine W.q (Ev.move (.t rfl)) rfl ?_
  refine W.gyes rfl rfl ?_
  refine W.q (Ev.cat (.t rfl) .k (fun _ => by first | omega | (simp only [List.length_append]; omega) | (simp [-List.length_flatMap]; omega) | (simp; omega))) rfl ?_
  refine W.gyes rfl rfl ?_
  refine W.q (Ev.move (.t rfl)) rfl ?_
  refine W.gyes rfl rfl ?_
  refine W.call (WUne.c_Une T tp p t (by omega)) ⟨(.t rfl), trivial⟩ (.refl _) rfl ?_
  rintro _ _ ⟨rfl, rfl⟩
  refine W.gyes rfl rfl ?_
  refine W.q (Ev.cat (.t rfl) (.t rfl) (fun _ => by first | omega | (simp only [List.length_append]; omega) | (simp [-List.length_flatMap]; omega) | (simp; omega))) rfl ?_
  refine W.gyes rfl rfl ?_
  refine W.q (Ev.eqs (.t rfl) (.t rfl)) rfl ?_
  refine W.q (Ev.and (.t rfl) ⟨_, _, rfl, rfl, by first | (simp; done) | (intro hg_ hp_; simp [hp_]; done) | (simp <;> omega; done) | (simp_all; done) | grind⟩) rfl ?_
  refine W.q (Ev.assign (.t rfl)) rfl ?_
  refine W.nil ?_
  refine W.then ?_
  refine W.ret ?_
  refine W.retn (M' := [ifv 3 T tp p]) (D := []) (rs := [.tmp 6]) (avs := [_]) Tryd.results6 ⟨rfl, trivial⟩ rfl (by first | exact .refl _ | (rw [List.append_nil]; exact .refl _)) ?_
  exact ⟨congrArg AV.bool (by simp), rfl⟩

end LRefParts

end Go.Proofs.YtohncieijjhnjaaDoor
