/-
  The law MarksBack, walked.
-/
import Derived.Test.YtlglnmafddnmmaaDoorG9
set_option linter.unusedVariables false
set_option linter.unusedSimpArgs false
set_option maxRecDepth 100000
namespace Go.Proofs.YtlglnmafddnmmaaDoor
open Go.Vl

namespace LMarksBack
theorem ty9 : Ty Tryd.prog 9 1 16 (.string ⟨#[]⟩) := Ty.of (by kernel_rfl)
theorem ty49 : Ty Tryd.prog 49 2 40 (.agg #[.string ⟨#[]⟩, .slice none 0 0]) := Ty.of (by kernel_rfl)
theorem ag9 : IsAgg Tryd.prog 9 false := ⟨_, Tryd.underlying9, rfl⟩
theorem fa49_0 : FieldAt Tryd.prog 49 0 0 1 false := ⟨_, _, Tryd.underlying49, rfl, rfl, ty9.size, ag9, by decide⟩
theorem c_MarksBack (l : List Int) (o : Int) (hl : l.length ≤ 1048576) (M0 : List ME) (hF : FnC Tryd.prog 58 [.str Mrk.oddT] M0 (fun r M => r = .sl 1 (Mrk.odd.map AV.str) ∧ M = M0)) : FnC Tryd.prog 5 [.sl 1 (l.map AV.int), .int o] M0 (fun r M => r = .bool true ∧ M = M0) :=  by
  refine FnC.mk Tryd.func5 (by kernel_rfl) rfl Tryd.ntmps5 rfl (fun w0 F => ?_)
  refine W.seq ?_
  refine W.region ?_
  refine W.q (Ev.assign .k) rfl ?_
  refine W.nil ?_
  refine W.then ?_
  refine W.seq ?_
  refine W.region ?_
  refine W.q (Ev.move (.t rfl)) rfl ?_
  refine W.call (WMDraw.c_Runs l (by omega) 20 (by decide)) ⟨(.t rfl), .k, trivial⟩ (.refl _) rfl ?_
  rintro _ _ ⟨rfl, rs, rfl, hrs, hdr⟩
  rw [List.nil_append]
  have htx := Mrk.tx_dr hdr
  have hr2 : ∀ r ∈ rs, r.2.length ≤ 1000 := fun r hr => by have := (hdr r hr).few; omega
  refine W.q (Ev.assign (.t rfl)) rfl ?_
  refine W.nil ?_
  refine W.then ?_
  refine W.seq ?_
  refine W.region ?_
  refine W.q (Ev.move (.t rfl)) rfl ?_
  refine W.callp (WMDraw.c_markOrder o) ⟨(.t rfl), trivial⟩ rfl ?_
  refine W.q (Ev.assign (.t rfl)) rfl ?_
  refine W.nil ?_
  obtain ⟨hg_ms, h3_ms, hl_ms, _⟩ := Mrk.good_order (Mrk.order_at o).2
  generalize Mrk.order o = ms at *
  refine W.then ?_
  refine W.seq ?_
  refine W.region ?_
  refine W.q (Ev.move (.t rfl)) rfl ?_
  refine W.q (Ev.move (.t rfl)) rfl ?_
  refine W.callp (WMDraw.c_copiedRuns rs (by omega) hr2) ⟨(.t rfl), trivial⟩ rfl ?_
  refine W.call (WMNorms.c_Norm ms hg_ms rs (by omega) (fun r hr m hm => h3_ms m ((hdr r hr).marks m hm)) hr2 (by omega) M0 hF) ⟨(.t rfl), (.t rfl), trivial⟩ ((List.Perm.of_eq (List.append_nil M0).symm)) rfl ?_
  rintro _ M' ⟨rfl, hM'⟩
  rw [hM', List.append_nil]
  have hnn := Mrk.norm_norm ms rs
  have htX := Mrk.tx_norm ms rs
  have cNest := WMNests.c_Nest ms hg_ms rs (by omega) (fun r hr m hm => h3_ms m ((hdr r hr).marks m hm)) hr2 (by omega) M0 hF
  obtain ⟨f1, f2, f3, f4, f5, f6, f7, f8, f9, f10⟩ := Mrk.facts_of hg_ms rs
  rw [hl_ms] at f9
  generalize Mrk.norm ms rs = X at *
  obtain ⟨NS, hNS⟩ : ∃ NS, Mrk.nst 0 X = NS := ⟨_, rfl⟩
  rw [hNS] at cNest f4 f5 f6 f7 f8 f9 f10
  have hX2 : ∀ r ∈ X, r.2.length ≤ 1000 := fun r hr => by have := f2 r hr; omega
  have cFlat := WMFlat.c_Flat ms hg_ms NS f4 (by omega) (by rw [f5]; omega) (by rw [f5]; exact f3) (by rw [f5]; exact hX2) (by rw [f5, htX]; omega) M0 hF
  rw [f5, hnn] at cFlat
  have cWd := WWords.c_words NS (by omega) (by omega)
  rw [f8] at cWd
  have cN2 := WMNorms.c_Norm ms hg_ms X (by omega) f3 hX2 (by rw [htX]; omega) M0 hF
  rw [hnn] at cN2
  refine W.q (Ev.move (.t rfl)) rfl ?_
  refine W.q (Ev.extract (.t rfl) rfl) rfl ?_
  refine W.q (Ev.extract (.t rfl) rfl) rfl ?_
  refine W.q (Ev.assign (.t rfl)) rfl ?_
  refine W.q (Ev.assign (.t rfl)) rfl ?_
  refine W.nil ?_
  refine W.then ?_
  refine W.seq ?_
  refine W.region ?_
  refine W.q (Ev.move (.t rfl)) rfl ?_
  refine W.q (Ev.move (.t rfl)) rfl ?_
  refine W.callp (WMDraw.c_copiedRuns X (by omega) hX2) ⟨(.t rfl), trivial⟩ rfl ?_
  refine W.call (cN2) ⟨(.t rfl), (.t rfl), trivial⟩ ((List.Perm.of_eq (List.append_nil M0).symm)) rfl ?_
  rintro _ M' ⟨rfl, hM'⟩
  rw [hM', List.append_nil]
  refine W.q (Ev.move (.t rfl)) rfl ?_
  refine W.q (Ev.extract (.t rfl) rfl) rfl ?_
  refine W.q (Ev.extract (.t rfl) rfl) rfl ?_
  refine W.q (Ev.assign (.t rfl)) rfl ?_
  refine W.q (Ev.assign (.t rfl)) rfl ?_
  refine W.nil ?_
  refine W.then ?_
  refine W.seq ?_
  refine W.region ?_
  refine W.q (Ev.move (.t rfl)) rfl ?_
  refine W.q (Ev.move (.t rfl)) rfl ?_
  refine W.callp (WMDraw.c_copiedRuns rs (by omega) hr2) ⟨(.t rfl), trivial⟩ rfl ?_
  refine W.call (cNest) ⟨(.t rfl), (.t rfl), trivial⟩ ((List.Perm.of_eq (List.append_nil M0).symm)) rfl ?_
  rintro _ M' ⟨rfl, hM'⟩
  rw [hM', List.append_nil]
  refine W.q (Ev.move (.t rfl)) rfl ?_
  refine W.q (Ev.extract (.t rfl) rfl) rfl ?_
  refine W.q (Ev.extract (.t rfl) rfl) rfl ?_
  refine W.q (Ev.assign (.t rfl)) rfl ?_
  refine W.q (Ev.assign (.t rfl)) rfl ?_
  refine W.nil ?_
  refine W.then ?_
  refine W.seq ?_
  refine W.region ?_
  refine W.q (Ev.move (.t rfl)) rfl ?_
  refine W.q (Ev.move (.t rfl)) rfl ?_
  refine W.call (cFlat) ⟨(.t rfl), (.t rfl), trivial⟩ ((List.Perm.of_eq (List.append_nil M0).symm)) rfl ?_
  rintro _ M' ⟨rfl, hM'⟩
  rw [hM', List.append_nil]
  refine W.q (Ev.move (.t rfl)) rfl ?_
  refine W.q (Ev.extract (.t rfl) rfl) rfl ?_
  refine W.q (Ev.extract (.t rfl) rfl) rfl ?_
  refine W.q (Ev.assign (.t rfl)) rfl ?_
  refine W.q (Ev.assign (.t rfl)) rfl ?_
  refine W.nil ?_
  refine W.then ?_
  refine W.seq ?_
  refine W.region ?_
  refine W.q (Ev.assign .k) rfl ?_
  refine W.nil ?_
  refine W.then ?_
  refine W.seq ?_
  refine W.seq ?_
  refine W.region ?_
  refine W.q (Ev.assign .k) rfl ?_
  refine W.nil ?_
  refine W.then ?_
  refine W.block ?_
  refine W.loop (D := []) (ι := Nat) (fun i => [(16, true, .int (i : Int)), (15, true, .str (Mrk.tx (rs.take i))), (5, true, .sl 2 (rs.map rnav)), (7, true, .sl 2 (X.map rnav)), (8, true, .int 0), (9, true, .sl 2 (X.map rnav)), (10, true, .int 0), (11, true, .sl 4 (NS.map Nd.av)), (12, true, .int 0), (13, true, .sl 2 (X.map rnav)), (14, true, .int 0)]) (fun _ => M0) (fun i => i ≤ rs.length) (fun i => rs.length - i) 0 ⟨rfl, rfl, rfl, rfl, rfl, rfl, rfl, rfl, rfl, rfl, rfl, trivial⟩ (List.Perm.of_eq (List.append_nil M0).symm) (Nat.zero_le _) ?_
  intro i hi
  dsimp only at hi ⊢
  have hml : (rs.map rnav).length = rs.length := List.length_map ..
  rcases (show i < rs.length ∨ i = rs.length from by omega) with hlt | hend
  · have hga := getD_mapG rnav ([], []) rs i hlt
    have hts := Mrk.tx_snoc rs i hlt
    have htk := Mrk.tx_take rs i
    have hrt := (hdr _ (getD_memG ([], []) rs i hlt)).text
    generalize rs.getD i ([], []) = r at hga hts hrt
    refine W.seq ?_
    refine W.seq ?_
    refine W.region ?_
    refine W.q (Ev.move (.t rfl)) rfl ?_
    refine W.q (Ev.move (.t rfl)) rfl ?_
    first | refine W.q (Ev.lensl (.t rfl) Tryd.underlying29) rfl ?_ | refine W.q (Ev.lenar (i := 0) (.t rfl) rfl Tryd.underlying29) rfl ?_ | refine W.q (Ev.lenar (i := 1) (.t rfl) rfl Tryd.underlying29) rfl ?_ | refine W.q (Ev.lenar (i := 2) (.t rfl) rfl Tryd.underlying29) rfl ?_ | refine W.q (Ev.lenar (i := 3) (.t rfl) rfl Tryd.underlying29) rfl ?_
    refine W.q (Ev.lti (.t rfl) (.t rfl)) rfl ?_
    refine W.nil ?_
    refine W.then ?_
    refine W.is (t := 51) (g := true) (av' := .lit (.bool true)) rfl (congrArg (fun b => AV.lit (.bool b)) (by exact decide_eq_true (by omega))) ?_
    refine W.condT (.t rfl) ?_
    refine W.skip ?_
    refine W.then ?_
    refine W.seq ?_
    refine W.block ?_
    refine W.region ?_
    refine W.q (Ev.move (.t rfl)) rfl ?_
    refine W.q (Ev.move (.t rfl)) rfl ?_
    refine W.q (Ev.move (.t rfl)) rfl ?_
    refine W.q (Ev.at (E := 49) (.t rfl) (.t rfl) Tryd.underlying29 ty49 (fun _ => ⟨by omega, hga⟩) rfl rfl) rfl ?_
    first | refine W.q (Ev.fae (.t rfl) fa49_0 rfl) rfl ?_ | refine W.q (Ev.fab (.t rfl) fa49_0) rfl ?_ | refine W.q (Ev.faa (.t rfl) fa49_0) rfl ?_
    first | refine W.q (Ev.lde1 (.t rfl) ag9) rfl ?_ | refine W.q (Ev.ldb1 0 (.t rfl) rfl ag9 rfl) rfl ?_ | refine W.q (Ev.ldb1 1 (.t rfl) rfl ag9 rfl) rfl ?_ | refine W.q (Ev.ldb1 2 (.t rfl) rfl ag9 rfl) rfl ?_ | refine W.q (Ev.ldb1 3 (.t rfl) rfl ag9 rfl) rfl ?_
    refine W.q (Ev.cat (.t rfl) (.t rfl) (fun _ => by first | omega | (simp only [List.length_append]; omega) | (simp [-List.length_flatMap]; omega) | (simp; omega))) rfl ?_
    refine W.q (Ev.assign (.t rfl)) rfl ?_
    refine W.nil ?_
    refine W.blk_normal ?_
    refine W.then ?_
    refine W.region ?_
    refine W.q (Ev.move (.t rfl)) rfl ?_
    first | refine W.q (Ev.add (.t rfl) .k (fun _ => by omega)) rfl ?_ | refine W.q (Ev.addw (.t rfl) .k) rfl ?_
    refine W.q (Ev.assign (.t rfl)) rfl ?_
    refine W.nil ?_
    refine W.then ?_
    refine W.is (t := 15) (g := true) (av' := .str (Mrk.tx (rs.take (i + 1)))) rfl (congrArg AV.str hts.symm) ?_
    refine W.reach (D := []) (i + 1) ⟨rfl, rfl, rfl, rfl, rfl, rfl, rfl, rfl, rfl, rfl, rfl, trivial⟩ (List.Perm.of_eq (List.append_nil M0).symm) ⟨by show i + 1 ≤ _; omega, by show _ - (i + 1) < _; omega⟩
  · have he : rs.take i = rs := List.take_of_length_le (by omega)
    rw [he]
    refine W.seq ?_
    refine W.seq ?_
    refine W.region ?_
    refine W.q (Ev.move (.t rfl)) rfl ?_
    refine W.q (Ev.move (.t rfl)) rfl ?_
    first | refine W.q (Ev.lensl (.t rfl) Tryd.underlying29) rfl ?_ | refine W.q (Ev.lenar (i := 0) (.t rfl) rfl Tryd.underlying29) rfl ?_ | refine W.q (Ev.lenar (i := 1) (.t rfl) rfl Tryd.underlying29) rfl ?_ | refine W.q (Ev.lenar (i := 2) (.t rfl) rfl Tryd.underlying29) rfl ?_ | refine W.q (Ev.lenar (i := 3) (.t rfl) rfl Tryd.underlying29) rfl ?_
    refine W.q (Ev.lti (.t rfl) (.t rfl)) rfl ?_
    refine W.nil ?_
    refine W.then ?_
    refine W.is (t := 51) (g := true) (av' := .lit (.bool false)) rfl (congrArg (fun b => AV.lit (.bool b)) (by exact decide_eq_false (by omega))) ?_
    refine W.condF (.t rfl) ?_
    refine W.exit ?_
    refine W.then_exit ?_
    refine W.then_exit ?_
    refine W.blk_hit ?_
    refine W.then ?_
    refine W.seq ?_
    refine W.region ?_
    refine W.q (Ev.move (.t rfl)) rfl ?_
    refine W.q (Ev.eqi (.t rfl) .k) rfl ?_
    refine W.q (Ev.move (.t rfl)) rfl ?_
    refine W.gyes rfl rfl ?_
    refine W.q (Ev.move (.t rfl)) rfl ?_
    refine W.gyes rfl rfl ?_
    refine W.q (Ev.eqi (.t rfl) .k) rfl ?_
    refine W.q (Ev.and (.t rfl) ⟨_, _, rfl, rfl, by first | (simp; done) | (intro hg_ hp_; simp [hp_]; done) | (simp <;> omega; done) | (simp_all; done) | grind⟩) rfl ?_
    refine W.q (Ev.move (.t rfl)) rfl ?_
    refine W.gyes rfl rfl ?_
    refine W.q (Ev.move (.t rfl)) rfl ?_
    refine W.gyes rfl rfl ?_
    refine W.q (Ev.eqi (.t rfl) .k) rfl ?_
    refine W.q (Ev.and (.t rfl) ⟨_, _, rfl, rfl, by first | (simp; done) | (intro hg_ hp_; simp [hp_]; done) | (simp <;> omega; done) | (simp_all; done) | grind⟩) rfl ?_
    refine W.q (Ev.move (.t rfl)) rfl ?_
    refine W.gyes rfl rfl ?_
    refine W.q (Ev.move (.t rfl)) rfl ?_
    refine W.gyes rfl rfl ?_
    refine W.q (Ev.eqi (.t rfl) .k) rfl ?_
    refine W.q (Ev.and (.t rfl) ⟨_, _, rfl, rfl, by first | (simp; done) | (intro hg_ hp_; simp [hp_]; done) | (simp <;> omega; done) | (simp_all; done) | grind⟩) rfl ?_
    refine W.q (Ev.move (.t rfl)) rfl ?_
    refine W.gyes rfl rfl ?_
    refine W.call (WMSure.c_marksSure M0 hF) trivial ((List.Perm.of_eq (List.append_nil M0).symm)) rfl ?_
    rintro _ M' ⟨rfl, hM'⟩
    rw [hM', List.append_nil]
    refine W.q (Ev.and (.t rfl) ⟨_, _, rfl, rfl, by first | (simp; done) | (intro hg_ hp_; simp [hp_]; done) | (simp <;> omega; done) | (simp_all; done) | grind⟩) rfl ?_
    refine W.q (Ev.move (.t rfl)) rfl ?_
    refine W.gyes rfl rfl ?_
    refine W.q (Ev.move (.t rfl)) rfl ?_
    refine W.gyes rfl rfl ?_
    refine W.q (Ev.move (.t rfl)) rfl ?_
    refine W.gyes rfl rfl ?_
    refine W.callp (WMDraw.c_sameRuns X (by omega) hX2) ⟨(.t rfl), (.t rfl), trivial⟩ rfl ?_
    refine W.q (Ev.and (.t rfl) ⟨_, _, rfl, rfl, by first | (simp; done) | (intro hg_ hp_; simp [hp_]; done) | (simp <;> omega; done) | (simp_all; done) | grind⟩) rfl ?_
    refine W.q (Ev.move (.t rfl)) rfl ?_
    refine W.gyes rfl rfl ?_
    refine W.q (Ev.move (.t rfl)) rfl ?_
    refine W.gyes rfl rfl ?_
    refine W.q (Ev.move (.t rfl)) rfl ?_
    refine W.gyes rfl rfl ?_
    refine W.callp (WMDraw.c_sameRuns X (by omega) hX2) ⟨(.t rfl), (.t rfl), trivial⟩ rfl ?_
    refine W.q (Ev.and (.t rfl) ⟨_, _, rfl, rfl, by first | (simp; done) | (intro hg_ hp_; simp [hp_]; done) | (simp <;> omega; done) | (simp_all; done) | grind⟩) rfl ?_
    refine W.q (Ev.move (.t rfl)) rfl ?_
    refine W.gyes rfl rfl ?_
    refine W.q (Ev.move (.t rfl)) rfl ?_
    refine W.gyes rfl rfl ?_
    refine W.callp (cWd) ⟨(.t rfl), trivial⟩ rfl ?_
    refine W.gyes rfl rfl ?_
    refine W.q (Ev.move (.t rfl)) rfl ?_
    refine W.gyes rfl rfl ?_
    refine W.q (Ev.eqs (.t rfl) (.t rfl)) rfl ?_
    refine W.q (Ev.and (.t rfl) ⟨_, _, rfl, rfl, by first | (simp; done) | (intro hg_ hp_; simp [hp_]; done) | (simp <;> omega; done) | (simp_all; done) | grind⟩) rfl ?_
    refine W.q (Ev.assign (.t rfl)) rfl ?_
    refine W.nil ?_
    refine W.then ?_
    refine W.ret ?_
    refine W.retn (M' := M0) (D := []) (rs := [.tmp 4]) (avs := [_]) Tryd.results5 ⟨rfl, trivial⟩ rfl (List.Perm.of_eq (List.append_nil M0).symm) ?_
    exact ⟨congrArg AV.bool (by simp), rfl⟩

end LMarksBack

end Go.Proofs.YtlglnmafddnmmaaDoor
