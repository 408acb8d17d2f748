/-
  The law MarksNested, walked.
-/
import Derived.Test.YtlglnmafddnmmaaDoorG9
set_option linter.unusedVariables false
set_option linter.unusedSimpArgs false
set_option maxRecDepth 100000
namespace Go.Proofs.YtlglnmafddnmmaaDoor
open Go.Vl

namespace LMarksNested

theorem c_MarksNested (l : List Int) (o : Int) (hl : l.length ≤ 1048576) (M0 : List ME) (hF : FnC Tryd.prog 58 [.str Mrk.oddT] M0 (fun r M => r = .sl 1 (Mrk.odd.map AV.str) ∧ M = M0)) : FnC Tryd.prog 3 [.sl 1 (l.map AV.int), .int o] M0 (fun r M => r = .bool true ∧ M = M0) :=  by
  refine FnC.mk Tryd.func3 (by kernel_rfl) rfl Tryd.ntmps3 rfl (fun w0 F => ?_)
  refine W.seq ?_
  refine W.region ?_
  refine W.q (Ev.assign .k) rfl ?_
  refine W.nil ?_
  refine W.then ?_
  refine W.seq ?_
  refine W.region ?_
  refine W.q (Ev.move (.t rfl)) rfl ?_
  refine W.callp (WMDraw.c_markOrder o) ⟨(.t rfl), trivial⟩ rfl ?_
  refine W.q (Ev.assign (.t rfl)) rfl ?_
  refine W.nil ?_
  obtain ⟨hg_ms, h3_ms, hl_ms, _⟩ := Mrk.good_order (Mrk.order_at o).2
  generalize Mrk.order o = ms at *
  refine W.then ?_
  refine W.seq ?_
  refine W.region ?_
  refine W.q (Ev.move (.t rfl)) rfl ?_
  refine W.q (Ev.move (.t rfl)) rfl ?_
  refine W.call (WMDraw.c_Runs l (by omega) 20 (by decide)) ⟨(.t rfl), .k, trivial⟩ (.refl _) rfl ?_
  rintro _ _ ⟨rfl, rs, rfl, hrs, hdr⟩
  rw [List.nil_append]
  have htx := Mrk.tx_dr hdr
  have hr2 : ∀ r ∈ rs, r.2.length ≤ 1000 := fun r hr => by have := (hdr r hr).few; omega
  refine W.call (WMNests.c_Nest ms hg_ms rs (by omega) (fun r hr m hm => h3_ms m ((hdr r hr).marks m hm)) hr2 (by omega) M0 hF) ⟨(.t rfl), (.t rfl), trivial⟩ ((List.Perm.of_eq (List.append_nil M0).symm)) rfl ?_
  rintro _ M' ⟨rfl, hM'⟩
  rw [hM', List.append_nil]
  obtain ⟨f1, f2, f3, f4, f5, f6, f7, f8, f9, f10⟩ := Mrk.facts_of hg_ms rs
  rw [hl_ms] at f9
  have cAp := WApart.c_apart (Mrk.nst 0 (Mrk.norm ms rs)) (by omega)
  rw [f7] at cAp
  refine W.q (Ev.move (.t rfl)) rfl ?_
  refine W.q (Ev.extract (.t rfl) rfl) rfl ?_
  refine W.q (Ev.extract (.t rfl) rfl) rfl ?_
  refine W.q (Ev.assign (.t rfl)) rfl ?_
  refine W.q (Ev.assign (.t rfl)) rfl ?_
  refine W.nil ?_
  refine W.then ?_
  refine W.seq ?_
  refine W.region ?_
  refine W.q (Ev.move (.t rfl)) rfl ?_
  refine W.q (Ev.eqi (.t rfl) .k) rfl ?_
  refine W.q (Ev.move (.t rfl)) rfl ?_
  refine W.gyes rfl rfl ?_
  refine W.call (WMSure.c_marksSure M0 hF) trivial ((List.Perm.of_eq (List.append_nil M0).symm)) rfl ?_
  rintro _ M' ⟨rfl, hM'⟩
  rw [hM', List.append_nil]
  refine W.q (Ev.and (.t rfl) ⟨_, _, rfl, rfl, by first | (simp; done) | (intro hg_ hp_; simp [hp_]; done) | (simp <;> omega; done) | (simp_all; done) | grind⟩) rfl ?_
  refine W.q (Ev.move (.t rfl)) rfl ?_
  refine W.gyes rfl rfl ?_
  refine W.q (Ev.move (.t rfl)) rfl ?_
  refine W.gyes rfl rfl ?_
  refine W.q (Ev.move (.t rfl)) rfl ?_
  refine W.gyes rfl rfl ?_
  refine W.callp (WMBy.c_nestedBy ms _ (by omega) (Mrk.good_nodup hg_ms) (by omega) f6) ⟨(.t rfl), (.t rfl), trivial⟩ rfl ?_
  refine W.q (Ev.and (.t rfl) ⟨_, _, rfl, rfl, by first | (simp; done) | (intro hg_ hp_; simp [hp_]; done) | (simp <;> omega; done) | (simp_all; done) | grind⟩) rfl ?_
  refine W.q (Ev.move (.t rfl)) rfl ?_
  refine W.gyes rfl rfl ?_
  refine W.q (Ev.move (.t rfl)) rfl ?_
  refine W.gyes rfl rfl ?_
  refine W.callp (cAp) ⟨(.t rfl), trivial⟩ rfl ?_
  refine W.q (Ev.and (.t rfl) ⟨_, _, rfl, rfl, by first | (simp; done) | (intro hg_ hp_; simp [hp_]; done) | (simp <;> omega; done) | (simp_all; done) | grind⟩) rfl ?_
  refine W.q (Ev.assign (.t rfl)) rfl ?_
  refine W.nil ?_
  refine W.then ?_
  refine W.ret ?_
  refine W.retn (M' := M0) (D := []) (rs := [.tmp 4]) (avs := [_]) Tryd.results3 ⟨rfl, trivial⟩ rfl (List.Perm.of_eq (List.append_nil M0).symm) ?_
  exact ⟨rfl, rfl⟩

end LMarksNested

end Go.Proofs.YtlglnmafddnmmaaDoor
