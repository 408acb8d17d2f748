/-
  The law StyleOnce, walked.
-/
import Derived.Test.YtofmjmicgddljaaWOnly
import Derived.Test.YtofmjmicgddljaaWDecl
set_option linter.unusedVariables false
set_option linter.unusedSimpArgs false
set_option maxRecDepth 100000
namespace Go.Proofs.Ytofmjmicgddljaa
open Go.Vl

namespace LStyleOnce
theorem ty9 : Ty Try.prog 9 1 16 (.string ⟨#[]⟩) := Ty.of (by kernel_rfl)
theorem ty35 : Ty Try.prog 35 2 32 (.agg #[.string ⟨#[]⟩, .string ⟨#[]⟩]) := Ty.of (by kernel_rfl)
theorem ag9 : IsAgg Try.prog 9 false := ⟨_, Try.underlying9, rfl⟩
theorem fa35_0 : FieldAt Try.prog 35 0 0 1 false := ⟨_, _, Try.underlying35, rfl, rfl, ty9.size, ag9, by decide⟩
theorem fa35_1 : FieldAt Try.prog 35 1 1 1 false := ⟨_, _, Try.underlying35, rfl, rfl, ty9.size, ag9, by decide⟩
theorem st35 : StructAt Try.prog 35 [(0, 1), (1, 1)] := ⟨_, Try.underlying35, rfl, ty9.size, rfl, ty9.size, trivial⟩
theorem ni29 : NotInt Try.prog 29 := .inl ⟨_, Try.underlying29⟩
theorem c_StyleOnce (l : List Int) (hl : l.length ≤ 1048576) : FnP Try.prog 6 [.sl 1 (l.map AV.int)] (.bool true) :=  by
  refine FnC.mk Try.func6 (by kernel_rfl) rfl Try.ntmps6 rfl (fun w0 F => ?_)
  have cOne := WOnly.c_Only [(nmc, [120])] nms (by decide) (by decide)
  rw [show only nms [(nmc, [120])] = [(nmc, [120])] from by decide] at cOne
  refine W.seq ?_
  refine W.region ?_
  refine W.q (Ev.assign .k) rfl ?_
  refine W.nil ?_
  refine W.then ?_
  refine W.seq ?_
  refine W.region ?_
  refine W.q (Ev.move (.t rfl)) rfl ?_
  refine W.call (WDecl.c_Decls l 20 (by omega) (by decide)) ⟨(.t rfl), .k, trivial⟩ (.refl _) rfl ?_
  rintro _ _ ⟨rfl, ds, rfl, hds⟩
  have hlen : (only nms ds).length ≤ 2 := only_two ds
  have honce := fun n hn => only_once nms n hn ds
  have cX := WOnly.c_Only ds nms (by omega) (by decide)
  have cXX := WOnly.c_Only (only nms ds) nms (by omega) (by decide)
  rw [only_idem nms ds] at cXX
  generalize only nms ds = X at *
  have hdl : (ds.map dav).length = ds.length := List.length_map ..
  have hxl : (X.map dav).length = X.length := List.length_map ..
  refine W.q (Ev.assign (.t rfl)) rfl ?_
  refine W.nil ?_
  refine W.then ?_
  refine W.seq ?_
  refine W.region ?_
  refine W.bs (es := [_, _]) Try.underlying25 ty9 ⟨rfl, .k, rfl, rfl, rfl, .k, rfl, rfl, trivial⟩ rfl (by decide) rfl rfl ?_
  refine W.q (Ev.assign (.t rfl)) rfl ?_
  refine W.nil ?_
  refine W.then ?_
  refine W.seq ?_
  refine W.region ?_
  refine W.q (Ev.move (.t rfl)) rfl ?_
  first | refine W.appn .k (.sl (.t rfl) (by intro e he; obtain ⟨d, _, rfl⟩ := List.mem_map.1 he; rfl)) Try.underlying29 ni29 ty35 rfl rfl (by omega) rfl ?_ | refine W.appn .k (.arr 0 (.t rfl) rfl (by intro e he; obtain ⟨d, _, rfl⟩ := List.mem_map.1 he; rfl)) Try.underlying29 ni29 ty35 rfl rfl (by omega) rfl ?_ | refine W.appn .k (.arr 1 (.t rfl) rfl (by intro e he; obtain ⟨d, _, rfl⟩ := List.mem_map.1 he; rfl)) Try.underlying29 ni29 ty35 rfl rfl (by omega) rfl ?_ | refine W.appn .k (.arr 2 (.t rfl) rfl (by intro e he; obtain ⟨d, _, rfl⟩ := List.mem_map.1 he; rfl)) Try.underlying29 ni29 ty35 rfl rfl (by omega) rfl ?_ | refine W.appn .k (.arr 3 (.t rfl) rfl (by intro e he; obtain ⟨d, _, rfl⟩ := List.mem_map.1 he; rfl)) Try.underlying29 ni29 ty35 rfl rfl (by omega) rfl ?_
  intro v21
  refine W.q (Ev.move (.t rfl)) rfl ?_
  refine W.freeze (M1 := []) (M2 := []) (D := []) (v := v21) (L' := [(21, true, .sl 2 (ds.map dav)), (22, true, .sl 1 (nms.map AV.str)), (3, true, .sl 2 (ds.map dav)), (4, true, .sl 1 (nms.map AV.str))]) (.refl _) ⟨⟨_, rfl, .one .hit⟩, ⟨_, rfl, .one (.refl _)⟩, ⟨_, rfl, .one (.refl _)⟩, ⟨_, rfl, .one (.refl _)⟩, trivial⟩ trivial ?_
  refine W.callp (cX) ⟨(.t rfl), (.t rfl), trivial⟩ rfl ?_
  refine W.q (Ev.move (.t rfl)) rfl ?_
  refine W.q (Ev.extract (.t rfl) rfl) rfl ?_
  refine W.q (Ev.extract (.t rfl) rfl) rfl ?_
  refine W.q (Ev.assign (.t rfl)) rfl ?_
  refine W.q (Ev.assign (.t rfl)) rfl ?_
  refine W.nil ?_
  refine W.then ?_
  refine W.seq ?_
  refine W.region ?_
  refine W.q (Ev.move (.t rfl)) rfl ?_
  first | refine W.appn .k (.sl (.t rfl) (by intro e he; obtain ⟨d, _, rfl⟩ := List.mem_map.1 he; rfl)) Try.underlying29 ni29 ty35 rfl rfl (by omega) rfl ?_ | refine W.appn .k (.arr 0 (.t rfl) rfl (by intro e he; obtain ⟨d, _, rfl⟩ := List.mem_map.1 he; rfl)) Try.underlying29 ni29 ty35 rfl rfl (by omega) rfl ?_ | refine W.appn .k (.arr 1 (.t rfl) rfl (by intro e he; obtain ⟨d, _, rfl⟩ := List.mem_map.1 he; rfl)) Try.underlying29 ni29 ty35 rfl rfl (by omega) rfl ?_ | refine W.appn .k (.arr 2 (.t rfl) rfl (by intro e he; obtain ⟨d, _, rfl⟩ := List.mem_map.1 he; rfl)) Try.underlying29 ni29 ty35 rfl rfl (by omega) rfl ?_ | refine W.appn .k (.arr 3 (.t rfl) rfl (by intro e he; obtain ⟨d, _, rfl⟩ := List.mem_map.1 he; rfl)) Try.underlying29 ni29 ty35 rfl rfl (by omega) rfl ?_
  intro v28
  refine W.q (Ev.move (.t rfl)) rfl ?_
  refine W.freeze (M1 := []) (M2 := []) (D := []) (v := v28) (L' := [(28, true, .sl 2 (X.map dav)), (29, true, .sl 1 (nms.map AV.str)), (5, true, .sl 2 (X.map dav)), (6, true, .int 0), (3, true, .sl 2 (ds.map dav)), (4, true, .sl 1 (nms.map AV.str))]) (.refl _) ⟨⟨_, rfl, .one .hit⟩, ⟨_, rfl, .one (.refl _)⟩, ⟨_, rfl, .one (.refl _)⟩, ⟨_, rfl, .one (.refl _)⟩, ⟨_, rfl, .one (.refl _)⟩, ⟨_, rfl, .one (.refl _)⟩, trivial⟩ trivial ?_
  refine W.callp (cXX) ⟨(.t rfl), (.t rfl), trivial⟩ rfl ?_
  refine W.q (Ev.move (.t rfl)) rfl ?_
  refine W.q (Ev.extract (.t rfl) rfl) rfl ?_
  refine W.q (Ev.extract (.t rfl) rfl) rfl ?_
  refine W.q (Ev.assign (.t rfl)) rfl ?_
  refine W.q (Ev.assign (.t rfl)) rfl ?_
  refine W.nil ?_
  refine W.then ?_
  refine W.seq ?_
  refine W.region ?_
  refine W.q (Ev.build ty35 st35 rfl (fun hg => ⟨_, _, _, rfl, .k, rfl, rfl, rfl, _, _, _, rfl, .k, rfl, rfl, rfl, rfl⟩)) rfl ?_
  refine W.bs (es := [_]) Try.underlying29 ty35 ⟨rfl, (.t rfl), rfl, rfl, trivial⟩ rfl (by decide) rfl rfl ?_
  refine W.q (Ev.move (.t rfl)) rfl ?_
  refine W.callp (cOne) ⟨(.t rfl), (.t rfl), trivial⟩ rfl ?_
  refine W.q (Ev.move (.t rfl)) rfl ?_
  refine W.q (Ev.extract (.t rfl) rfl) rfl ?_
  refine W.q (Ev.extract (.t rfl) rfl) rfl ?_
  refine W.q (Ev.assign (.t rfl)) rfl ?_
  refine W.q (Ev.assign (.t rfl)) rfl ?_
  refine W.nil ?_
  refine W.then ?_
  refine W.seq ?_
  refine W.seq ?_
  refine W.region ?_
  refine W.q (Ev.move (.t rfl)) rfl ?_
  refine W.q (Ev.nei (.t rfl) .k) rfl ?_
  refine W.q (Ev.move (.t rfl)) rfl ?_
  refine W.qgF rfl rfl (Ev.move (.t rfl)) rfl ?_
  refine W.qgF rfl rfl (Ev.nei (.c rfl) .k) rfl ?_
  refine W.q (Ev.or (.t rfl) ⟨_, _, rfl, rfl, by simp⟩) rfl ?_
  refine W.q (Ev.move (.t rfl)) rfl ?_
  refine W.qgF rfl rfl (Ev.move (.t rfl)) rfl ?_
  refine W.qgF rfl rfl (Ev.nei (.c rfl) .k) rfl ?_
  refine W.q (Ev.or (.t rfl) ⟨_, _, rfl, rfl, by simp⟩) rfl ?_
  refine W.q (Ev.move (.t rfl)) rfl ?_
  refine W.qgF rfl rfl (Ev.move (.t rfl)) rfl ?_
  first | refine W.qgF rfl rfl (Ev.lensl (.c rfl) Try.underlying29) rfl ?_ | refine W.qgF rfl rfl (Ev.lenar (i := 0) (.c rfl) rfl Try.underlying29) rfl ?_ | refine W.qgF rfl rfl (Ev.lenar (i := 1) (.c rfl) rfl Try.underlying29) rfl ?_ | refine W.qgF rfl rfl (Ev.lenar (i := 2) (.c rfl) rfl Try.underlying29) rfl ?_ | refine W.qgF rfl rfl (Ev.lenar (i := 3) (.c rfl) rfl Try.underlying29) rfl ?_
  refine W.qgF rfl rfl (Ev.nei (.c rfl) .k) rfl ?_
  refine W.q (Ev.or (.t rfl) ⟨_, _, rfl, rfl, by simp⟩) rfl ?_
  refine W.q (Ev.move (.t rfl)) rfl ?_
  refine W.is (t := 55) (g := true) (av' := .lit (.bool false)) rfl (congrArg (fun b => AV.lit (.bool b)) ?_) ?_
  · simp
  refine W.gyes rfl rfl ?_
  refine W.q (Ev.move (.t rfl)) rfl ?_
  refine W.gyes rfl rfl ?_
  refine W.q (Ev.move (.t rfl)) rfl ?_
  refine W.gyes rfl rfl ?_
  refine W.callp (WDecl.c_sameDecls X X (by omega)) ⟨(.t rfl), (.t rfl), trivial⟩ rfl ?_
  refine W.gyes rfl rfl ?_
  refine W.q (Ev.not (.t rfl)) rfl ?_
  refine W.q (Ev.or (.t rfl) ⟨_, _, rfl, rfl, by simp⟩) rfl ?_
  refine W.q (Ev.move (.t rfl)) rfl ?_
  refine W.qgF rfl rfl (Ev.move (.t rfl)) rfl ?_
  first | refine W.qgF rfl rfl (Ev.lensl (.c rfl) Try.underlying29) rfl ?_ | refine W.qgF rfl rfl (Ev.lenar (i := 0) (.c rfl) rfl Try.underlying29) rfl ?_ | refine W.qgF rfl rfl (Ev.lenar (i := 1) (.c rfl) rfl Try.underlying29) rfl ?_ | refine W.qgF rfl rfl (Ev.lenar (i := 2) (.c rfl) rfl Try.underlying29) rfl ?_ | refine W.qgF rfl rfl (Ev.lenar (i := 3) (.c rfl) rfl Try.underlying29) rfl ?_
  refine W.qgF rfl rfl (Ev.gti (.c rfl) .k) rfl ?_
  refine W.q (Ev.or (.t rfl) ⟨_, _, rfl, rfl, by simp⟩) rfl ?_
  refine W.nil ?_
  refine W.then ?_
  refine W.is (t := 65) (g := true) (av' := .lit (.bool false)) rfl (congrArg (fun b => AV.lit (.bool b)) (by simp; omega)) ?_
  refine W.condF (.t rfl) ?_
  refine W.skip ?_
  refine W.then ?_
  refine W.seq ?_
  refine W.seq ?_
  refine W.region ?_
  refine W.q (Ev.assign .k) rfl ?_
  refine W.nil ?_
  refine W.then ?_
  refine W.block ?_
  refine W.loop (D := []) (ι := Nat) (fun k => [(11, true, .int (k : Int)), (3, true, .sl 2 (ds.map dav)), (4, true, .sl 1 (nms.map AV.str)), (5, true, .sl 2 (X.map dav))]) (fun _ => []) (fun k => k ≤ 2) (fun k => 2 - k) 0 ⟨rfl, rfl, rfl, rfl, trivial⟩ (.refl _) (Nat.zero_le _) ?_
  intro k hk
  dsimp only at hk ⊢
  rcases (show k < 2 ∨ k = 2 from by omega) with hlt | hend
  · obtain ⟨n, hn1, hn2⟩ : ∃ n, (nms.map AV.str)[k]? = some (AV.str n) ∧ n ∈ nms := ⟨_, getD_mapG AV.str [] nms k hlt, getD_memG [] nms k hlt⟩
    have hn3 : (nms.any fun s => n == s) = true := by rw [List.any_eq_true]; exact ⟨n, hn2, by simp⟩
    refine W.seq ?_
    refine W.seq ?_
    refine W.region ?_
    refine W.q (Ev.move (.t rfl)) rfl ?_
    refine W.q (Ev.move (.t rfl)) rfl ?_
    first | refine W.q (Ev.lensl (.t rfl) Try.underlying25) rfl ?_ | refine W.q (Ev.lenar (i := 0) (.t rfl) rfl Try.underlying25) rfl ?_ | refine W.q (Ev.lenar (i := 1) (.t rfl) rfl Try.underlying25) rfl ?_ | refine W.q (Ev.lenar (i := 2) (.t rfl) rfl Try.underlying25) rfl ?_ | refine W.q (Ev.lenar (i := 3) (.t rfl) rfl Try.underlying25) rfl ?_
    refine W.q (Ev.lti (.t rfl) (.t rfl)) rfl ?_
    refine W.nil ?_
    refine W.then ?_
    refine W.is (t := 69) (g := true) (av' := .lit (.bool true)) rfl (congrArg (fun b => AV.lit (.bool b)) (by simp; omega)) ?_
    refine W.condT (.t rfl) ?_
    refine W.skip ?_
    refine W.then ?_
    refine W.seq ?_
    refine W.block ?_
    refine W.seq ?_
    refine W.region ?_
    refine W.q (Ev.assign .k) rfl ?_
    refine W.nil ?_
    refine W.then ?_
    refine W.seq ?_
    refine W.seq ?_
    refine W.region ?_
    refine W.q (Ev.assign .k) rfl ?_
    refine W.nil ?_
    refine W.then ?_
    refine W.block ?_
    refine W.loop (D := []) (ι := Nat) (fun j => [(13, true, .int (j : Int)), (12, true, .str (lastv n (ds.take j))), (11, true, .int (k : Int)), (3, true, .sl 2 (ds.map dav)), (4, true, .sl 1 (nms.map AV.str)), (5, true, .sl 2 (X.map dav))]) (fun _ => []) (fun j => j ≤ ds.length) (fun j => ds.length - j) 0 ⟨rfl, rfl, rfl, rfl, rfl, rfl, trivial⟩ (.refl _) (Nat.zero_le _) ?_
    intro j1 hj_j1
    dsimp only at hj_j1 ⊢
    rcases (show j1 < ds.length ∨ j1 = ds.length from by omega) with hlt_j1 | hend_j1
    · have hga1 := getD_mapG dav ([], []) ds j1 hlt_j1
      refine W.seq ?_
      refine W.seq ?_
      refine W.region ?_
      refine W.q (Ev.move (.t rfl)) rfl ?_
      refine W.q (Ev.move (.t rfl)) rfl ?_
      first | refine W.q (Ev.lensl (.t rfl) Try.underlying29) rfl ?_ | refine W.q (Ev.lenar (i := 0) (.t rfl) rfl Try.underlying29) rfl ?_ | refine W.q (Ev.lenar (i := 1) (.t rfl) rfl Try.underlying29) rfl ?_ | refine W.q (Ev.lenar (i := 2) (.t rfl) rfl Try.underlying29) rfl ?_ | refine W.q (Ev.lenar (i := 3) (.t rfl) rfl Try.underlying29) rfl ?_
      refine W.q (Ev.lti (.t rfl) (.t rfl)) rfl ?_
      refine W.nil ?_
      refine W.then ?_
      refine W.is (t := 75) (g := true) (av' := .lit (.bool true)) rfl (congrArg (fun b => AV.lit (.bool b)) (by simp; omega)) ?_
      refine W.condT (.t rfl) ?_
      refine W.skip ?_
      refine W.then ?_
      refine W.seq ?_
      refine W.block ?_
      refine W.seq ?_
      refine W.drawn (by kernel_rfl) (by kernel_rfl) ?_
      refine DP.q (Ev.move (.t rfl)) rfl ?_
      refine DP.q (Ev.move (.t rfl)) rfl ?_
      refine DP.q (Ev.at (E := 35) (.t rfl) (.t rfl) Try.underlying29 ty35 (fun _ => ⟨by omega, hga1⟩) rfl rfl) rfl ?_
      first | refine DP.q (Ev.fae (.t rfl) fa35_0 rfl) rfl ?_ | refine DP.q (Ev.fab (.t rfl) fa35_0) rfl ?_ | refine DP.q (Ev.faa (.t rfl) fa35_0) rfl ?_
      first | refine DP.q (Ev.lde1 (.t rfl) ag9) rfl ?_ | refine DP.q (Ev.ldb1 0 (.t rfl) rfl ag9 rfl) rfl ?_ | refine DP.q (Ev.ldb1 1 (.t rfl) rfl ag9 rfl) rfl ?_ | refine DP.q (Ev.ldb1 2 (.t rfl) rfl ag9 rfl) rfl ?_ | refine DP.q (Ev.ldb1 3 (.t rfl) rfl ag9 rfl) rfl ?_
      refine DP.q (Ev.move (.t rfl)) rfl ?_
      refine DP.q (Ev.move (.t rfl)) rfl ?_
      refine DP.q (Ev.at (E := 9) (.t rfl) (.t rfl) Try.underlying25 ty9 (fun _ => ⟨by omega, hn1⟩) rfl rfl) rfl ?_
      first | refine DP.q (Ev.lde1 (.t rfl) ag9) rfl ?_ | refine DP.q (Ev.ldb1 0 (.t rfl) rfl ag9 rfl) rfl ?_ | refine DP.q (Ev.ldb1 1 (.t rfl) rfl ag9 rfl) rfl ?_ | refine DP.q (Ev.ldb1 2 (.t rfl) rfl ag9 rfl) rfl ?_ | refine DP.q (Ev.ldb1 3 (.t rfl) rfl ag9 rfl) rfl ?_
      refine DP.q (Ev.eqs (.t rfl) (.t rfl)) rfl ?_
      refine DP.nil ?_
      refine W.then ?_
      refine W.cond (.t rfl) (fun hc_t87 => ?_) (fun hc_t87 => ?_)
      · have hs1 := lastv_hit n ds j1 hlt_j1 (by simpa using hc_t87)
        refine W.region ?_
        refine W.q (Ev.move (.t rfl)) rfl ?_
        refine W.q (Ev.move (.t rfl)) rfl ?_
        refine W.q (Ev.at (E := 35) (.t rfl) (.t rfl) Try.underlying29 ty35 (fun _ => ⟨by omega, hga1⟩) rfl rfl) rfl ?_
        first | refine W.q (Ev.fae (.t rfl) fa35_1 rfl) rfl ?_ | refine W.q (Ev.fab (.t rfl) fa35_1) rfl ?_ | refine W.q (Ev.faa (.t rfl) fa35_1) rfl ?_
        first | refine W.q (Ev.lde1 (.t rfl) ag9) rfl ?_ | refine W.q (Ev.ldb1 0 (.t rfl) rfl ag9 rfl) rfl ?_ | refine W.q (Ev.ldb1 1 (.t rfl) rfl ag9 rfl) rfl ?_ | refine W.q (Ev.ldb1 2 (.t rfl) rfl ag9 rfl) rfl ?_ | refine W.q (Ev.ldb1 3 (.t rfl) rfl ag9 rfl) rfl ?_
        refine W.q (Ev.assign (.t rfl)) rfl ?_
        refine W.nil ?_
        refine W.blk_normal ?_
        refine W.then ?_
        refine W.region ?_
        refine W.q (Ev.move (.t rfl)) rfl ?_
        first | refine W.q (Ev.add (.t rfl) .k (fun _ => by omega)) rfl ?_ | refine W.q (Ev.addw (.t rfl) .k) rfl ?_
        refine W.q (Ev.assign (.t rfl)) rfl ?_
        refine W.nil ?_
        refine W.then ?_
        refine W.is (t := 12) (g := true) (av' := .str (lastv n (ds.take (j1 + 1)))) rfl (congrArg AV.str hs1.symm) ?_
        refine W.reach (D := []) (j1 + 1) ⟨rfl, rfl, rfl, rfl, rfl, rfl, trivial⟩ (.refl _) ⟨by show j1 + 1 ≤ _; omega, by show _ - (j1 + 1) < _; omega⟩
      · have hs1 := lastv_miss n ds j1 hlt_j1 (by simpa using hc_t87)
        refine W.skip ?_
        refine W.blk_normal ?_
        refine W.then ?_
        refine W.region ?_
        refine W.q (Ev.move (.t rfl)) rfl ?_
        first | refine W.q (Ev.add (.t rfl) .k (fun _ => by omega)) rfl ?_ | refine W.q (Ev.addw (.t rfl) .k) rfl ?_
        refine W.q (Ev.assign (.t rfl)) rfl ?_
        refine W.nil ?_
        refine W.then ?_
        refine W.is (t := 12) (g := true) (av' := .str (lastv n (ds.take (j1 + 1)))) rfl (congrArg AV.str hs1.symm) ?_
        refine W.reach (D := []) (j1 + 1) ⟨rfl, rfl, rfl, rfl, rfl, rfl, trivial⟩ (.refl _) ⟨by show j1 + 1 ≤ _; omega, by show _ - (j1 + 1) < _; omega⟩
    · have e1 : ds.take j1 = ds := List.take_of_length_le (by omega)
      refine W.seq ?_
      refine W.seq ?_
      refine W.region ?_
      refine W.q (Ev.move (.t rfl)) rfl ?_
      refine W.q (Ev.move (.t rfl)) rfl ?_
      first | refine W.q (Ev.lensl (.t rfl) Try.underlying29) rfl ?_ | refine W.q (Ev.lenar (i := 0) (.t rfl) rfl Try.underlying29) rfl ?_ | refine W.q (Ev.lenar (i := 1) (.t rfl) rfl Try.underlying29) rfl ?_ | refine W.q (Ev.lenar (i := 2) (.t rfl) rfl Try.underlying29) rfl ?_ | refine W.q (Ev.lenar (i := 3) (.t rfl) rfl Try.underlying29) rfl ?_
      refine W.q (Ev.lti (.t rfl) (.t rfl)) rfl ?_
      refine W.nil ?_
      refine W.then ?_
      refine W.is (t := 75) (g := true) (av' := .lit (.bool false)) rfl (congrArg (fun b => AV.lit (.bool b)) (by simp; omega)) ?_
      refine W.condF (.t rfl) ?_
      refine W.exit ?_
      refine W.then_exit ?_
      refine W.then_exit ?_
      refine W.blk_hit ?_
      refine W.then ?_
      refine W.seq ?_
      refine W.region ?_
      refine W.q (Ev.assign .k) rfl ?_
      refine W.nil ?_
      refine W.then ?_
      refine W.seq ?_
      refine W.seq ?_
      refine W.region ?_
      refine W.q (Ev.assign .k) rfl ?_
      refine W.nil ?_
      refine W.then ?_
      refine W.block ?_
      refine W.loop (D := []) (ι := Nat) (fun j => [(15, true, .int (j : Int)), (14, true, .str (lastv n (X.take j))), (11, true, .int (k : Int)), (3, true, .sl 2 (ds.map dav)), (4, true, .sl 1 (nms.map AV.str)), (5, true, .sl 2 (X.map dav)), (12, true, .str (lastv n (ds.take j1)))]) (fun _ => []) (fun j => j ≤ X.length) (fun j => X.length - j) 0 ⟨rfl, rfl, rfl, rfl, rfl, rfl, rfl, trivial⟩ (.refl _) (Nat.zero_le _) ?_
      intro j2 hj_j2
      dsimp only at hj_j2 ⊢
      rcases (show j2 < X.length ∨ j2 = X.length from by omega) with hlt_j2 | hend_j2
      · have hga2 := getD_mapG dav ([], []) X j2 hlt_j2
        refine W.seq ?_
        refine W.seq ?_
        refine W.region ?_
        refine W.q (Ev.move (.t rfl)) rfl ?_
        refine W.q (Ev.move (.t rfl)) rfl ?_
        first | refine W.q (Ev.lensl (.t rfl) Try.underlying29) rfl ?_ | refine W.q (Ev.lenar (i := 0) (.t rfl) rfl Try.underlying29) rfl ?_ | refine W.q (Ev.lenar (i := 1) (.t rfl) rfl Try.underlying29) rfl ?_ | refine W.q (Ev.lenar (i := 2) (.t rfl) rfl Try.underlying29) rfl ?_ | refine W.q (Ev.lenar (i := 3) (.t rfl) rfl Try.underlying29) rfl ?_
        refine W.q (Ev.lti (.t rfl) (.t rfl)) rfl ?_
        refine W.nil ?_
        refine W.then ?_
        refine W.is (t := 96) (g := true) (av' := .lit (.bool true)) rfl (congrArg (fun b => AV.lit (.bool b)) (by simp; omega)) ?_
        refine W.condT (.t rfl) ?_
        refine W.skip ?_
        refine W.then ?_
        refine W.seq ?_
        refine W.block ?_
        refine W.seq ?_
        refine W.drawn (by kernel_rfl) (by kernel_rfl) ?_
        refine DP.q (Ev.move (.t rfl)) rfl ?_
        refine DP.q (Ev.move (.t rfl)) rfl ?_
        refine DP.q (Ev.at (E := 35) (.t rfl) (.t rfl) Try.underlying29 ty35 (fun _ => ⟨by omega, hga2⟩) rfl rfl) rfl ?_
        first | refine DP.q (Ev.fae (.t rfl) fa35_0 rfl) rfl ?_ | refine DP.q (Ev.fab (.t rfl) fa35_0) rfl ?_ | refine DP.q (Ev.faa (.t rfl) fa35_0) rfl ?_
        first | refine DP.q (Ev.lde1 (.t rfl) ag9) rfl ?_ | refine DP.q (Ev.ldb1 0 (.t rfl) rfl ag9 rfl) rfl ?_ | refine DP.q (Ev.ldb1 1 (.t rfl) rfl ag9 rfl) rfl ?_ | refine DP.q (Ev.ldb1 2 (.t rfl) rfl ag9 rfl) rfl ?_ | refine DP.q (Ev.ldb1 3 (.t rfl) rfl ag9 rfl) rfl ?_
        refine DP.q (Ev.move (.t rfl)) rfl ?_
        refine DP.q (Ev.move (.t rfl)) rfl ?_
        refine DP.q (Ev.at (E := 9) (.t rfl) (.t rfl) Try.underlying25 ty9 (fun _ => ⟨by omega, hn1⟩) rfl rfl) rfl ?_
        first | refine DP.q (Ev.lde1 (.t rfl) ag9) rfl ?_ | refine DP.q (Ev.ldb1 0 (.t rfl) rfl ag9 rfl) rfl ?_ | refine DP.q (Ev.ldb1 1 (.t rfl) rfl ag9 rfl) rfl ?_ | refine DP.q (Ev.ldb1 2 (.t rfl) rfl ag9 rfl) rfl ?_ | refine DP.q (Ev.ldb1 3 (.t rfl) rfl ag9 rfl) rfl ?_
        refine DP.q (Ev.eqs (.t rfl) (.t rfl)) rfl ?_
        refine DP.nil ?_
        refine W.then ?_
        refine W.cond (.t rfl) (fun hc_t108 => ?_) (fun hc_t108 => ?_)
        · have hs2 := lastv_hit n X j2 hlt_j2 (by simpa using hc_t108)
          have hs3 := lastv_first n X j2 hlt_j2 (by simpa using hc_t108) (honce n hn3).1
          refine W.seq ?_
          refine W.seq ?_
          refine W.region ?_
          refine W.q (Ev.move (.t rfl)) rfl ?_
          refine W.q (Ev.nes (.t rfl) .k) rfl ?_
          refine W.nil ?_
          refine W.then ?_
          refine W.is (t := 110) (g := true) (av' := .lit (.bool false)) rfl (congrArg (fun b => AV.lit (.bool b)) (by rw [hs3]; rfl)) ?_
          refine W.condF (.t rfl) ?_
          refine W.skip ?_
          refine W.then ?_
          refine W.region ?_
          refine W.q (Ev.move (.t rfl)) rfl ?_
          refine W.q (Ev.move (.t rfl)) rfl ?_
          refine W.q (Ev.at (E := 35) (.t rfl) (.t rfl) Try.underlying29 ty35 (fun _ => ⟨by omega, hga2⟩) rfl rfl) rfl ?_
          first | refine W.q (Ev.fae (.t rfl) fa35_1 rfl) rfl ?_ | refine W.q (Ev.fab (.t rfl) fa35_1) rfl ?_ | refine W.q (Ev.faa (.t rfl) fa35_1) rfl ?_
          first | refine W.q (Ev.lde1 (.t rfl) ag9) rfl ?_ | refine W.q (Ev.ldb1 0 (.t rfl) rfl ag9 rfl) rfl ?_ | refine W.q (Ev.ldb1 1 (.t rfl) rfl ag9 rfl) rfl ?_ | refine W.q (Ev.ldb1 2 (.t rfl) rfl ag9 rfl) rfl ?_ | refine W.q (Ev.ldb1 3 (.t rfl) rfl ag9 rfl) rfl ?_
          refine W.q (Ev.assign (.t rfl)) rfl ?_
          refine W.nil ?_
          refine W.blk_normal ?_
          refine W.then ?_
          refine W.region ?_
          refine W.q (Ev.move (.t rfl)) rfl ?_
          first | refine W.q (Ev.add (.t rfl) .k (fun _ => by omega)) rfl ?_ | refine W.q (Ev.addw (.t rfl) .k) rfl ?_
          refine W.q (Ev.assign (.t rfl)) rfl ?_
          refine W.nil ?_
          refine W.then ?_
          refine W.is (t := 14) (g := true) (av' := .str (lastv n (X.take (j2 + 1)))) rfl (congrArg AV.str hs2.symm) ?_
          refine W.reach (D := []) (j2 + 1) ⟨rfl, rfl, rfl, rfl, rfl, rfl, rfl, trivial⟩ (.refl _) ⟨by show j2 + 1 ≤ _; omega, by show _ - (j2 + 1) < _; omega⟩
        · have hs2 := lastv_miss n X j2 hlt_j2 (by simpa using hc_t108)
          refine W.skip ?_
          refine W.blk_normal ?_
          refine W.then ?_
          refine W.region ?_
          refine W.q (Ev.move (.t rfl)) rfl ?_
          first | refine W.q (Ev.add (.t rfl) .k (fun _ => by omega)) rfl ?_ | refine W.q (Ev.addw (.t rfl) .k) rfl ?_
          refine W.q (Ev.assign (.t rfl)) rfl ?_
          refine W.nil ?_
          refine W.then ?_
          refine W.is (t := 14) (g := true) (av' := .str (lastv n (X.take (j2 + 1)))) rfl (congrArg AV.str hs2.symm) ?_
          refine W.reach (D := []) (j2 + 1) ⟨rfl, rfl, rfl, rfl, rfl, rfl, rfl, trivial⟩ (.refl _) ⟨by show j2 + 1 ≤ _; omega, by show _ - (j2 + 1) < _; omega⟩
      · have e2 : X.take j2 = X := List.take_of_length_le (by omega)
        refine W.seq ?_
        refine W.seq ?_
        refine W.region ?_
        refine W.q (Ev.move (.t rfl)) rfl ?_
        refine W.q (Ev.move (.t rfl)) rfl ?_
        first | refine W.q (Ev.lensl (.t rfl) Try.underlying29) rfl ?_ | refine W.q (Ev.lenar (i := 0) (.t rfl) rfl Try.underlying29) rfl ?_ | refine W.q (Ev.lenar (i := 1) (.t rfl) rfl Try.underlying29) rfl ?_ | refine W.q (Ev.lenar (i := 2) (.t rfl) rfl Try.underlying29) rfl ?_ | refine W.q (Ev.lenar (i := 3) (.t rfl) rfl Try.underlying29) rfl ?_
        refine W.q (Ev.lti (.t rfl) (.t rfl)) rfl ?_
        refine W.nil ?_
        refine W.then ?_
        refine W.is (t := 96) (g := true) (av' := .lit (.bool false)) rfl (congrArg (fun b => AV.lit (.bool b)) (by simp; omega)) ?_
        refine W.condF (.t rfl) ?_
        refine W.exit ?_
        refine W.then_exit ?_
        refine W.then_exit ?_
        refine W.blk_hit ?_
        refine W.then ?_
        refine W.seq ?_
        refine W.region ?_
        refine W.q (Ev.move (.t rfl)) rfl ?_
        refine W.q (Ev.move (.t rfl)) rfl ?_
        refine W.q (Ev.nes (.t rfl) (.t rfl)) rfl ?_
        refine W.nil ?_
        refine W.then ?_
        refine W.is (t := 118) (g := true) (av' := .lit (.bool false)) rfl (congrArg (fun b => AV.lit (.bool b)) (by rw [e1, e2, (honce n hn3).2]; simp)) ?_
        refine W.condF (.t rfl) ?_
        refine W.skip ?_
        refine W.blk_normal ?_
        refine W.then ?_
        refine W.region ?_
        refine W.q (Ev.move (.t rfl)) rfl ?_
        first | refine W.q (Ev.add (.t rfl) .k (fun _ => by omega)) rfl ?_ | refine W.q (Ev.addw (.t rfl) .k) rfl ?_
        refine W.q (Ev.assign (.t rfl)) rfl ?_
        refine W.nil ?_
        refine W.then ?_
        refine W.reach (D := []) (k + 1) ⟨rfl, rfl, rfl, rfl, trivial⟩ (.refl _) ⟨by show k + 1 ≤ 2; omega, by show 2 - (k + 1) < 2 - k; omega⟩
  · skip
    refine W.seq ?_
    refine W.seq ?_
    refine W.region ?_
    refine W.q (Ev.move (.t rfl)) rfl ?_
    refine W.q (Ev.move (.t rfl)) rfl ?_
    first | refine W.q (Ev.lensl (.t rfl) Try.underlying25) rfl ?_ | refine W.q (Ev.lenar (i := 0) (.t rfl) rfl Try.underlying25) rfl ?_ | refine W.q (Ev.lenar (i := 1) (.t rfl) rfl Try.underlying25) rfl ?_ | refine W.q (Ev.lenar (i := 2) (.t rfl) rfl Try.underlying25) rfl ?_ | refine W.q (Ev.lenar (i := 3) (.t rfl) rfl Try.underlying25) rfl ?_
    refine W.q (Ev.lti (.t rfl) (.t rfl)) rfl ?_
    refine W.nil ?_
    refine W.then ?_
    refine W.is (t := 69) (g := true) (av' := .lit (.bool false)) rfl (congrArg (fun b => AV.lit (.bool b)) (by simp; omega)) ?_
    refine W.condF (.t rfl) ?_
    refine W.exit ?_
    refine W.then_exit ?_
    refine W.then_exit ?_
    refine W.blk_hit ?_
    refine W.then ?_
    refine W.seq ?_
    refine W.region ?_
    refine W.q (Ev.assign .k) rfl ?_
    refine W.nil ?_
    refine W.then ?_
    refine W.ret ?_
    refine W.retn (M' := []) (rs := [.tmp 2]) (avs := [_]) Try.results6 ⟨rfl, trivial⟩ rfl (.refl _) ?_
    exact ⟨rfl, rfl⟩

end LStyleOnce

end Go.Proofs.Ytofmjmicgddljaa
