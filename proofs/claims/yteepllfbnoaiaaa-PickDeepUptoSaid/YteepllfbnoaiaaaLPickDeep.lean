/-
  The law PickDeep, walked.
-/
import Derived.Test.YteepllfbnoaiaaaWNodes
import Derived.Test.YteepllfbnoaiaaaWPicks
import Derived.Test.YteepllfbnoaiaaaWCountN
set_option linter.unusedVariables false
set_option linter.unusedSimpArgs false
set_option maxRecDepth 100000
namespace Go.Proofs.Yteepllfbnoaiaaa
open Go.Vl

namespace LPickDeep
theorem ty4 : Ty Try.prog 4 1 1 (.bool false) := Ty.of (by kernel_rfl)
theorem ty9 : Ty Try.prog 9 1 16 (.string ⟨#[]⟩) := Ty.of (by kernel_rfl)
theorem ty22 : Ty Try.prog 22 1 24 (.slice none 0 0) := Ty.of (by kernel_rfl)
theorem ty32 : Ty Try.prog 32 3 40 (.agg #[.string ⟨#[]⟩, .string ⟨#[]⟩, .bool false]) := Ty.of (by kernel_rfl)
theorem ag4 : IsAgg Try.prog 4 false := ⟨_, Try.underlying4, rfl⟩
theorem ag9 : IsAgg Try.prog 9 false := ⟨_, Try.underlying9, rfl⟩
theorem ag22 : IsAgg Try.prog 22 false := ⟨_, Try.underlying22, rfl⟩
theorem fa32_0 : FieldAt Try.prog 32 0 0 1 false := ⟨_, _, Try.underlying32, rfl, rfl, ty9.size, ag9, by decide⟩
theorem fa32_2 : FieldAt Try.prog 32 2 2 1 false := ⟨_, _, Try.underlying32, rfl, rfl, ty4.size, ag4, by decide⟩
theorem ni23 : NotInt Try.prog 23 := .inl ⟨_, Try.underlying23⟩
theorem c_PickDeep (l0 l : List Int) (hl0 : l0.length ≤ 1048576) (hl : l.length ≤ 1048576) : FnP Try.prog 4 [.sl 1 (l0.map AV.int), .sl 1 (l.map AV.int)] (.bool true) :=  by
  refine FnC.mk Try.func4 (by kernel_rfl) rfl Try.ntmps4 rfl (fun w0 F => ?_)
  refine W.seq ?_
  refine W.region ?_
  refine W.q (Ev.assign .k) rfl ?_
  refine W.nil ?_
  refine W.then ?_
  refine W.seq ?_
  refine W.region ?_
  refine W.q (Ev.move (.t rfl)) rfl ?_
  refine W.call (WPicks.c_Picks l0 (by omega) 4 (by decide) (by decide)) ⟨(.t rfl), .k, trivial⟩ (.refl _) rfl ?_
  rintro _ _ ⟨v21, ps, rfl, rfl, hp0, hp1, hpk⟩
  have hplen : (ps.map kav).length = ps.length := List.length_map ..
  have hplen2 : ((ps.map Pk.dp).map kav).length = ps.length := by simp
  refine W.q (Ev.assign (.t rfl)) rfl ?_
  refine W.nil ?_
  refine W.freezeA (M1 := []) (M2 := []) (D := []) (v := v21) (L' := [(5, true, .sl 3 (ps.map kav))]) (.refl _) ⟨⟨_, rfl, .one .hit⟩, trivial⟩ (FrzMs.refl _) ?_
  refine W.then ?_
  refine W.seq ?_
  refine W.region ?_
  refine W.q (Ev.move (.t rfl)) rfl ?_
  refine W.call (WNodes.c_Nodes l hl 5 6 (by decide) (by decide) (by decide)) ⟨(.t rfl), .k, .k, trivial⟩ (.refl _) rfl ?_
  rintro _ _ ⟨v24, ns, rest, rfl, rfl, hn1, hn2, hn3⟩
  have hns := Nd.szs_len ns
  refine W.q (Ev.move (.t rfl)) rfl ?_
  refine W.q (Ev.extract (.t rfl) rfl) rfl ?_
  refine W.q (Ev.extract (.t rfl) rfl) rfl ?_
  refine W.q (Ev.assign (.t rfl)) rfl ?_
  refine W.q (Ev.assign (.t rfl)) rfl ?_
  refine W.nil ?_
  refine W.freezeA (M1 := []) (M2 := []) (D := []) (v := v24) (L' := [(6, true, .sl 4 (ns.map Nd.av))]) (.refl _) ⟨⟨_, rfl, .one .hit⟩, trivial⟩ (FrzMs.refl _) ?_
  refine W.then ?_
  refine W.seq ?_
  refine W.region ?_
  refine W.q (Ev.move (.t rfl)) rfl ?_
  first | refine W.appn .k (.sl (.t rfl) (by intro e he; obtain ⟨d, _, rfl⟩ := List.mem_map.1 he; rfl)) Try.underlying23 ni23 ty32 rfl rfl (by omega) rfl ?_ | refine W.appn .k (.arr 0 (.t rfl) rfl (by intro e he; obtain ⟨d, _, rfl⟩ := List.mem_map.1 he; rfl)) Try.underlying23 ni23 ty32 rfl rfl (by omega) rfl ?_ | refine W.appn .k (.arr 1 (.t rfl) rfl (by intro e he; obtain ⟨d, _, rfl⟩ := List.mem_map.1 he; rfl)) Try.underlying23 ni23 ty32 rfl rfl (by omega) rfl ?_ | refine W.appn .k (.arr 2 (.t rfl) rfl (by intro e he; obtain ⟨d, _, rfl⟩ := List.mem_map.1 he; rfl)) Try.underlying23 ni23 ty32 rfl rfl (by omega) rfl ?_ | refine W.appn .k (.arr 3 (.t rfl) rfl (by intro e he; obtain ⟨d, _, rfl⟩ := List.mem_map.1 he; rfl)) Try.underlying23 ni23 ty32 rfl rfl (by omega) rfl ?_
  intro v28
  refine W.q (Ev.assign (.t rfl)) rfl ?_
  refine W.nil ?_
  refine W.then ?_
  refine W.seq ?_
  refine W.seq ?_
  refine W.region ?_
  refine W.q (Ev.assign .k) rfl ?_
  refine W.nil ?_
  refine W.then ?_
  refine W.block ?_
  refine W.loop (D := []) (ι := Nat) (fun i => [(9, true, .int (i : Int)), (8, true, .lit v28), (5, true, .sl 3 (ps.map kav)), (6, true, .sl 4 (ns.map Nd.av))]) (fun i => [.arr v28 32 3 ((upto Pk.dp ps i).map kav)]) (fun i => i ≤ ps.length) (fun i => ps.length - i) 0 ⟨rfl, rfl, rfl, rfl, trivial⟩ (by rw [upto_zero]; exact .refl _) (Nat.zero_le _) ?_
  intro i hi
  dsimp only at hi ⊢
  have hul : ((upto Pk.dp ps i).map kav).length = ps.length := by rw [List.length_map, upto_len _ _ _ (by first | omega | (simp; omega))] <;> simp
  rcases (show i < ps.length ∨ i = ps.length from by omega) with hlt | hend
  · have hga := upto_at Pk.dp Pk.dfl kav (ps) i (by first | exact hlt | (rw [List.length_map]; exact hlt))
    have hst := upto_set Pk.dp Pk.dfl kav (ps) i (by first | exact hlt | (rw [List.length_map]; exact hlt))
    generalize (ps).getD i Pk.dfl = p at hga hst
    refine W.seq ?_
    refine W.seq ?_
    refine W.region ?_
    refine W.q (Ev.move (.t rfl)) rfl ?_
    refine W.q (Ev.move (.t rfl)) rfl ?_
    first | refine W.q (Ev.lensl (.t rfl) Try.underlying23) rfl ?_ | refine W.q (Ev.lenar (i := 0) (.t rfl) rfl Try.underlying23) rfl ?_ | refine W.q (Ev.lenar (i := 1) (.t rfl) rfl Try.underlying23) rfl ?_ | refine W.q (Ev.lenar (i := 2) (.t rfl) rfl Try.underlying23) rfl ?_ | refine W.q (Ev.lenar (i := 3) (.t rfl) rfl Try.underlying23) rfl ?_
    refine W.q (Ev.lti (.t rfl) (.t rfl)) rfl ?_
    refine W.nil ?_
    refine W.then ?_
    refine W.is (t := 32) (g := true) (av' := .lit (.bool true)) rfl (congrArg (fun b => AV.lit (.bool b)) (by exact decide_eq_true (by omega))) ?_
    refine W.condT (.t rfl) ?_
    refine W.skip ?_
    refine W.then ?_
    refine W.seq ?_
    refine W.block ?_
    refine W.region ?_
    refine W.q (Ev.move (.t rfl)) rfl ?_
    refine W.q (Ev.move (.t rfl)) rfl ?_
    refine W.q (Ev.ata 0 (.t rfl) rfl (.t rfl) Try.underlying23 ty32 (fun _ => by omega)) rfl ?_
    first | refine W.q (Ev.fae (.t rfl) fa32_2 rfl) rfl ?_ | refine W.q (Ev.fab (.t rfl) fa32_2) rfl ?_ | refine W.q (Ev.faa (.t rfl) fa32_2) rfl ?_
    refine W.sta 0 i 2 (e := kav p) (e' := kav (Pk.dp p)) (.t rfl) .k rfl hga (by omega) ty4 rfl rfl rfl rfl rfl rfl rfl ?_
    refine W.nil ?_
    refine W.blk_normal ?_
    refine W.then ?_
    refine W.region ?_
    refine W.q (Ev.move (.t rfl)) rfl ?_
    first | refine W.q (Ev.add (.t rfl) .k (fun _ => by omega)) rfl ?_ | refine W.q (Ev.addw (.t rfl) .k) rfl ?_
    refine W.q (Ev.assign (.t rfl)) rfl ?_
    refine W.nil ?_
    refine W.then ?_
    refine W.reach (D := []) (i + 1) ⟨rfl, rfl, rfl, rfl, trivial⟩ (by rw [← hst]; exact .refl _) ⟨by show i + 1 ≤ _; omega, by show _ - (i + 1) < _; omega⟩
  · subst hend
    rw [show upto Pk.dp (ps) ps.length = (ps).map Pk.dp from (congrArg (upto Pk.dp (ps)) (show ps.length = (ps).length from by simp)).trans (upto_end _ _)] at hul ⊢
    refine W.seq ?_
    refine W.seq ?_
    refine W.region ?_
    refine W.q (Ev.move (.t rfl)) rfl ?_
    refine W.q (Ev.move (.t rfl)) rfl ?_
    first | refine W.q (Ev.lensl (.t rfl) Try.underlying23) rfl ?_ | refine W.q (Ev.lenar (i := 0) (.t rfl) rfl Try.underlying23) rfl ?_ | refine W.q (Ev.lenar (i := 1) (.t rfl) rfl Try.underlying23) rfl ?_ | refine W.q (Ev.lenar (i := 2) (.t rfl) rfl Try.underlying23) rfl ?_ | refine W.q (Ev.lenar (i := 3) (.t rfl) rfl Try.underlying23) rfl ?_
    refine W.q (Ev.lti (.t rfl) (.t rfl)) rfl ?_
    refine W.nil ?_
    refine W.then ?_
    refine W.is (t := 32) (g := true) (av' := .lit (.bool false)) rfl (congrArg (fun b => AV.lit (.bool b)) (by exact decide_eq_false (by omega))) ?_
    refine W.condF (.t rfl) ?_
    refine W.exit ?_
    refine W.then_exit ?_
    refine W.then_exit ?_
    refine W.blk_hit ?_
    refine W.then ?_
    refine W.seq ?_
    refine W.region ?_
    refine W.freezeA (M1 := []) (M2 := []) (D := []) (v := v28) (L' := [(8, true, .sl 3 ((ps.map Pk.dp).map kav))]) (.refl _) ⟨⟨_, rfl, .one .hit⟩, trivial⟩ (FrzMs.refl _) ?_
    refine W.q (Ev.move (.t rfl)) rfl ?_
    first | refine W.appn .k (.sl (.t rfl) (by intro e he; obtain ⟨d, _, rfl⟩ := List.mem_map.1 he; rfl)) Try.underlying23 ni23 ty32 rfl rfl (by simp; omega) rfl ?_ | refine W.appn .k (.arr 0 (.t rfl) rfl (by intro e he; obtain ⟨d, _, rfl⟩ := List.mem_map.1 he; rfl)) Try.underlying23 ni23 ty32 rfl rfl (by simp; omega) rfl ?_ | refine W.appn .k (.arr 1 (.t rfl) rfl (by intro e he; obtain ⟨d, _, rfl⟩ := List.mem_map.1 he; rfl)) Try.underlying23 ni23 ty32 rfl rfl (by simp; omega) rfl ?_ | refine W.appn .k (.arr 2 (.t rfl) rfl (by intro e he; obtain ⟨d, _, rfl⟩ := List.mem_map.1 he; rfl)) Try.underlying23 ni23 ty32 rfl rfl (by simp; omega) rfl ?_ | refine W.appn .k (.arr 3 (.t rfl) rfl (by intro e he; obtain ⟨d, _, rfl⟩ := List.mem_map.1 he; rfl)) Try.underlying23 ni23 ty32 rfl rfl (by simp; omega) rfl ?_
    intro v40
    refine W.q (Ev.assign (.t rfl)) rfl ?_
    refine W.nil ?_
    refine W.then ?_
    refine W.seq ?_
    refine W.seq ?_
    refine W.region ?_
    refine W.q (Ev.assign .k) rfl ?_
    refine W.nil ?_
    refine W.then ?_
    refine W.block ?_
    refine W.loop (D := []) (ι := Nat) (fun i => [(11, true, .int (i : Int)), (10, true, .lit v40), (5, true, .sl 3 (ps.map kav)), (6, true, .sl 4 (ns.map Nd.av)), (8, true, .sl 3 ((ps.map Pk.dp).map kav))]) (fun i => [.arr v40 32 3 ((upto Pk.nn (ps.map Pk.dp) i).map kav)]) (fun i => i ≤ ps.length) (fun i => ps.length - i) 0 ⟨rfl, rfl, rfl, rfl, rfl, trivial⟩ (by rw [upto_zero]; exact .refl _) (Nat.zero_le _) ?_
    intro i hi
    dsimp only at hi ⊢
    have hul : ((upto Pk.nn (ps.map Pk.dp) i).map kav).length = ps.length := by rw [List.length_map, upto_len _ _ _ (by first | omega | (simp; omega))] <;> simp
    rcases (show i < ps.length ∨ i = ps.length from by omega) with hlt | hend
    · have hga := upto_at Pk.nn Pk.dfl kav ((ps.map Pk.dp)) i (by first | exact hlt | (rw [List.length_map]; exact hlt))
      have hst := upto_set Pk.nn Pk.dfl kav ((ps.map Pk.dp)) i (by first | exact hlt | (rw [List.length_map]; exact hlt))
      generalize ((ps.map Pk.dp)).getD i Pk.dfl = p at hga hst
      refine W.seq ?_
      refine W.seq ?_
      refine W.region ?_
      refine W.q (Ev.move (.t rfl)) rfl ?_
      refine W.q (Ev.move (.t rfl)) rfl ?_
      first | refine W.q (Ev.lensl (.t rfl) Try.underlying23) rfl ?_ | refine W.q (Ev.lenar (i := 0) (.t rfl) rfl Try.underlying23) rfl ?_ | refine W.q (Ev.lenar (i := 1) (.t rfl) rfl Try.underlying23) rfl ?_ | refine W.q (Ev.lenar (i := 2) (.t rfl) rfl Try.underlying23) rfl ?_ | refine W.q (Ev.lenar (i := 3) (.t rfl) rfl Try.underlying23) rfl ?_
      refine W.q (Ev.lti (.t rfl) (.t rfl)) rfl ?_
      refine W.nil ?_
      refine W.then ?_
      refine W.is (t := 44) (g := true) (av' := .lit (.bool true)) rfl (congrArg (fun b => AV.lit (.bool b)) (by exact decide_eq_true (by omega))) ?_
      refine W.condT (.t rfl) ?_
      refine W.skip ?_
      refine W.then ?_
      refine W.seq ?_
      refine W.block ?_
      refine W.region ?_
      refine W.q (Ev.move (.t rfl)) rfl ?_
      refine W.q (Ev.move (.t rfl)) rfl ?_
      refine W.q (Ev.ata 0 (.t rfl) rfl (.t rfl) Try.underlying23 ty32 (fun _ => by omega)) rfl ?_
      first | refine W.q (Ev.fae (.t rfl) fa32_0 rfl) rfl ?_ | refine W.q (Ev.fab (.t rfl) fa32_0) rfl ?_ | refine W.q (Ev.faa (.t rfl) fa32_0) rfl ?_
      refine W.sta 0 i 0 (e := kav p) (e' := kav (Pk.nn p)) (.t rfl) .k rfl hga (by omega) ty9 rfl rfl rfl rfl rfl rfl rfl ?_
      refine W.nil ?_
      refine W.blk_normal ?_
      refine W.then ?_
      refine W.region ?_
      refine W.q (Ev.move (.t rfl)) rfl ?_
      first | refine W.q (Ev.add (.t rfl) .k (fun _ => by omega)) rfl ?_ | refine W.q (Ev.addw (.t rfl) .k) rfl ?_
      refine W.q (Ev.assign (.t rfl)) rfl ?_
      refine W.nil ?_
      refine W.then ?_
      refine W.reach (D := []) (i + 1) ⟨rfl, rfl, rfl, rfl, rfl, trivial⟩ (by rw [← hst]; exact .refl _) ⟨by show i + 1 ≤ _; omega, by show _ - (i + 1) < _; omega⟩
    · subst hend
      rw [show upto Pk.nn ((ps.map Pk.dp)) ps.length = ((ps.map Pk.dp)).map Pk.nn from (congrArg (upto Pk.nn ((ps.map Pk.dp))) (show ps.length = ((ps.map Pk.dp)).length from by simp)).trans (upto_end _ _)] at hul ⊢
      refine W.seq ?_
      refine W.seq ?_
      refine W.region ?_
      refine W.q (Ev.move (.t rfl)) rfl ?_
      refine W.q (Ev.move (.t rfl)) rfl ?_
      first | refine W.q (Ev.lensl (.t rfl) Try.underlying23) rfl ?_ | refine W.q (Ev.lenar (i := 0) (.t rfl) rfl Try.underlying23) rfl ?_ | refine W.q (Ev.lenar (i := 1) (.t rfl) rfl Try.underlying23) rfl ?_ | refine W.q (Ev.lenar (i := 2) (.t rfl) rfl Try.underlying23) rfl ?_ | refine W.q (Ev.lenar (i := 3) (.t rfl) rfl Try.underlying23) rfl ?_
      refine W.q (Ev.lti (.t rfl) (.t rfl)) rfl ?_
      refine W.nil ?_
      refine W.then ?_
      refine W.is (t := 44) (g := true) (av' := .lit (.bool false)) rfl (congrArg (fun b => AV.lit (.bool b)) (by exact decide_eq_false (by omega))) ?_
      refine W.condF (.t rfl) ?_
      refine W.exit ?_
      refine W.then_exit ?_
      refine W.then_exit ?_
      refine W.blk_hit ?_
      refine W.then ?_
      refine W.seq ?_
      refine W.region ?_
      refine W.freezeA (M1 := []) (M2 := []) (D := []) (v := v40) (L' := [(10, true, .sl 3 (((ps.map Pk.dp).map Pk.nn).map kav))]) (.refl _) ⟨⟨_, rfl, .one .hit⟩, trivial⟩ (FrzMs.refl _) ?_
      refine W.q (Ev.move (.t rfl)) rfl ?_
      refine W.q (Ev.move (.t rfl)) rfl ?_
      refine W.callp (WPicks.c_paths ps hp0 (by omega) hpk ns (by omega)) ⟨(.t rfl), (.t rfl), trivial⟩ rfl ?_
      refine W.q (Ev.move (.t rfl)) rfl ?_
      refine W.q (Ev.extract (.t rfl) rfl) rfl ?_
      refine W.q (Ev.extract (.t rfl) rfl) rfl ?_
      refine W.q (Ev.assign (.t rfl)) rfl ?_
      refine W.q (Ev.assign (.t rfl)) rfl ?_
      refine W.nil ?_
      refine W.then ?_
      refine W.seq ?_
      refine W.region ?_
      refine W.q (Ev.move (.t rfl)) rfl ?_
      refine W.q (Ev.move (.t rfl)) rfl ?_
      refine W.callp (WPicks.c_paths (ps.map Pk.dp) (by simpa using hp0) (by simp; omega) (fun p hp => by obtain ⟨r, hr, rfl⟩ := List.mem_map.1 hp; exact Pk.ok_dp _ (hpk r hr)) ns (by omega)) ⟨(.t rfl), (.t rfl), trivial⟩ rfl ?_
      refine W.q (Ev.move (.t rfl)) rfl ?_
      refine W.q (Ev.extract (.t rfl) rfl) rfl ?_
      refine W.q (Ev.extract (.t rfl) rfl) rfl ?_
      refine W.q (Ev.assign (.t rfl)) rfl ?_
      refine W.q (Ev.assign (.t rfl)) rfl ?_
      refine W.nil ?_
      refine W.then ?_
      refine W.seq ?_
      refine W.region ?_
      refine W.q (Ev.move (.t rfl)) rfl ?_
      refine W.q (Ev.move (.t rfl)) rfl ?_
      refine W.callp (WPicks.c_paths ((ps.map Pk.dp).map Pk.nn) (by simpa using hp0) (by simp; omega) (fun p hp => by obtain ⟨r, hr, rfl⟩ := List.mem_map.1 hp; obtain ⟨r2, hr2, rfl⟩ := List.mem_map.1 hr; exact Pk.ok_nn _ (Pk.ok_dp _ (hpk r2 hr2))) ns (by omega)) ⟨(.t rfl), (.t rfl), trivial⟩ rfl ?_
      refine W.q (Ev.move (.t rfl)) rfl ?_
      refine W.q (Ev.extract (.t rfl) rfl) rfl ?_
      refine W.q (Ev.extract (.t rfl) rfl) rfl ?_
      refine W.q (Ev.assign (.t rfl)) rfl ?_
      refine W.q (Ev.assign (.t rfl)) rfl ?_
      refine W.nil ?_
      have hXY := Pk.deep_1 ps hp0 ns
      have hYZ := Pk.deep_2 ps hp0 ns
      have hXd := Pk.fnds_deepL (ps) ns (fun _ => false) (fun _ => false)
      have hXl := Pk.fnds_len (ps) ns 0 [] (fun _ => false) (fun _ => false)
      have hYd := Pk.fnds_deepL (ps.map Pk.dp) ns (fun _ => false) (fun _ => false)
      have hYl := Pk.fnds_len (ps.map Pk.dp) ns 0 [] (fun _ => false) (fun _ => false)
      have hZd := Pk.fnds_deepL ((ps.map Pk.dp).map Pk.nn) ns (fun _ => false) (fun _ => false)
      have hZl := Pk.fnds_len ((ps.map Pk.dp).map Pk.nn) ns 0 [] (fun _ => false) (fun _ => false)
      generalize Pk.fnds ((ps.map Pk.dp).map Pk.nn) 0 ns [] (fun _ => false) (fun _ => false) = Z at *
      have hZm : (Z.map pav).length = Z.length := List.length_map ..
      generalize Pk.fnds (ps.map Pk.dp) 0 ns [] (fun _ => false) (fun _ => false) = Y at *
      have hYm : (Y.map pav).length = Y.length := List.length_map ..
      generalize Pk.fnds ps 0 ns [] (fun _ => false) (fun _ => false) = X at *
      have hXm : (X.map pav).length = X.length := List.length_map ..
      refine W.then ?_
      refine W.seq ?_
      refine W.seq ?_
      refine W.region ?_
      refine W.q (Ev.move (.t rfl)) rfl ?_
      refine W.q (Ev.not (.t rfl)) rfl ?_
      refine W.q (Ev.move (.t rfl)) rfl ?_
      refine W.gyes rfl rfl ?_
      refine W.q (Ev.move (.t rfl)) rfl ?_
      refine W.gyes rfl rfl ?_
      refine W.q (Ev.not (.t rfl)) rfl ?_
      refine W.q (Ev.or (.t rfl) ⟨_, _, rfl, rfl, by first | (simp; done) | (intro hg_ hp_; simp [hp_]; done) | (simp <;> omega; done) | (simp_all; done) | grind⟩) rfl ?_
      refine W.q (Ev.move (.t rfl)) rfl ?_
      refine W.gyes rfl rfl ?_
      refine W.q (Ev.move (.t rfl)) rfl ?_
      refine W.gyes rfl rfl ?_
      refine W.q (Ev.not (.t rfl)) rfl ?_
      refine W.q (Ev.or (.t rfl) ⟨_, _, rfl, rfl, by first | (simp; done) | (intro hg_ hp_; simp [hp_]; done) | (simp <;> omega; done) | (simp_all; done) | grind⟩) rfl ?_
      refine W.nil ?_
      refine W.then ?_
      refine W.is (t := 78) (g := true) (av' := .lit (.bool false)) rfl (congrArg (fun b => AV.lit (.bool b)) (by rfl)) ?_
      refine W.condF (.t rfl) ?_
      refine W.skip ?_
      refine W.then ?_
      refine W.seq ?_
      refine W.seq ?_
      refine W.region ?_
      refine W.q (Ev.assign .k) rfl ?_
      refine W.nil ?_
      refine W.then ?_
      refine W.block ?_
      refine W.loop (D := []) (ι := Nat) (fun i => [(18, true, .int (i : Int)), (12, true, .sl 1 (X.map pav)), (14, true, .sl 1 (Y.map pav)), (16, true, .sl 1 (Z.map pav))]) (fun _ => []) (fun i => i ≤ X.length) (fun i => X.length - i) 0 ⟨rfl, rfl, rfl, rfl, trivial⟩ (.refl _) (Nat.zero_le _) ?_
      intro i hi
      dsimp only at hi ⊢
      rcases (show i < X.length ∨ i = X.length from by omega) with hlt | hend
      · have hgi := getD_mapG pav [] X i hlt
        have hqm := getD_memG [] X i hlt
        generalize X.getD i [] = q at hgi hqm
        have hin := hXY q hqm
        have hql := hXd q hqm
        refine W.seq ?_
        refine W.seq ?_
        refine W.region ?_
        refine W.q (Ev.move (.t rfl)) rfl ?_
        refine W.q (Ev.move (.t rfl)) rfl ?_
        first | refine W.q (Ev.lensl (.t rfl) Try.underlying28) rfl ?_ | refine W.q (Ev.lenar (i := 0) (.t rfl) rfl Try.underlying28) rfl ?_ | refine W.q (Ev.lenar (i := 1) (.t rfl) rfl Try.underlying28) rfl ?_ | refine W.q (Ev.lenar (i := 2) (.t rfl) rfl Try.underlying28) rfl ?_ | refine W.q (Ev.lenar (i := 3) (.t rfl) rfl Try.underlying28) rfl ?_
        refine W.q (Ev.lti (.t rfl) (.t rfl)) rfl ?_
        refine W.nil ?_
        refine W.then ?_
        refine W.is (t := 82) (g := true) (av' := .lit (.bool true)) rfl (congrArg (fun b => AV.lit (.bool b)) (by simp; omega)) ?_
        refine W.condT (.t rfl) ?_
        refine W.skip ?_
        refine W.then ?_
        refine W.seq ?_
        refine W.block ?_
        refine W.seq ?_
        refine W.region ?_
        refine W.q (Ev.move (.t rfl)) rfl ?_
        refine W.q (Ev.move (.t rfl)) rfl ?_
        refine W.q (Ev.move (.t rfl)) rfl ?_
        refine W.q (Ev.at (E := 22) (.t rfl) (.t rfl) Try.underlying28 ty22 (fun _ => ⟨by omega, hgi⟩) rfl rfl) rfl ?_
        first | refine W.q (Ev.lde1 (.t rfl) ag22) rfl ?_ | refine W.q (Ev.ldb1 0 (.t rfl) rfl ag22 rfl) rfl ?_ | refine W.q (Ev.ldb1 1 (.t rfl) rfl ag22 rfl) rfl ?_ | refine W.q (Ev.ldb1 2 (.t rfl) rfl ag22 rfl) rfl ?_ | refine W.q (Ev.ldb1 3 (.t rfl) rfl ag22 rfl) rfl ?_
        refine W.callp (WPicks.c_hasPath Y q (by omega) (fun y hy => by have := hYd y hy; omega)) ⟨(.t rfl), (.t rfl), trivial⟩ rfl ?_
        refine W.q (Ev.not (.t rfl)) rfl ?_
        refine W.nil ?_
        refine W.then ?_
        refine W.is (t := 91) (g := true) (av' := .lit (.bool false)) rfl (congrArg (fun b => AV.lit (.bool b)) (by simp [hin])) ?_
        refine W.condF (.t rfl) ?_
        refine W.skip ?_
        refine W.blk_normal ?_
        refine W.then ?_
        refine W.region ?_
        refine W.q (Ev.move (.t rfl)) rfl ?_
        first | refine W.q (Ev.add (.t rfl) .k (fun _ => by omega)) rfl ?_ | refine W.q (Ev.addw (.t rfl) .k) rfl ?_
        refine W.q (Ev.assign (.t rfl)) rfl ?_
        refine W.nil ?_
        refine W.then ?_
        refine W.reach (D := []) (i + 1) ⟨rfl, rfl, rfl, rfl, trivial⟩ (.refl _) ⟨by show i + 1 ≤ _; omega, by show _ - (i + 1) < _; omega⟩
      · skip
        refine W.seq ?_
        refine W.seq ?_
        refine W.region ?_
        refine W.q (Ev.move (.t rfl)) rfl ?_
        refine W.q (Ev.move (.t rfl)) rfl ?_
        first | refine W.q (Ev.lensl (.t rfl) Try.underlying28) rfl ?_ | refine W.q (Ev.lenar (i := 0) (.t rfl) rfl Try.underlying28) rfl ?_ | refine W.q (Ev.lenar (i := 1) (.t rfl) rfl Try.underlying28) rfl ?_ | refine W.q (Ev.lenar (i := 2) (.t rfl) rfl Try.underlying28) rfl ?_ | refine W.q (Ev.lenar (i := 3) (.t rfl) rfl Try.underlying28) rfl ?_
        refine W.q (Ev.lti (.t rfl) (.t rfl)) rfl ?_
        refine W.nil ?_
        refine W.then ?_
        refine W.is (t := 82) (g := true) (av' := .lit (.bool false)) rfl (congrArg (fun b => AV.lit (.bool b)) (by simp; omega)) ?_
        refine W.condF (.t rfl) ?_
        refine W.exit ?_
        refine W.then_exit ?_
        refine W.then_exit ?_
        refine W.blk_hit ?_
        refine W.then ?_
        refine W.seq ?_
        refine W.seq ?_
        refine W.region ?_
        refine W.q (Ev.assign .k) rfl ?_
        refine W.nil ?_
        refine W.then ?_
        refine W.block ?_
        refine W.loop (D := []) (ι := Nat) (fun i => [(19, true, .int (i : Int)), (12, true, .sl 1 (X.map pav)), (14, true, .sl 1 (Y.map pav)), (16, true, .sl 1 (Z.map pav))]) (fun _ => []) (fun i => i ≤ Y.length) (fun i => Y.length - i) 0 ⟨rfl, rfl, rfl, rfl, trivial⟩ (.refl _) (Nat.zero_le _) ?_
        intro i hi
        dsimp only at hi ⊢
        rcases (show i < Y.length ∨ i = Y.length from by omega) with hlt | hend
        · have hgi := getD_mapG pav [] Y i hlt
          have hqm := getD_memG [] Y i hlt
          generalize Y.getD i [] = q at hgi hqm
          have hin := hYZ q hqm
          have hql := hYd q hqm
          refine W.seq ?_
          refine W.seq ?_
          refine W.region ?_
          refine W.q (Ev.move (.t rfl)) rfl ?_
          refine W.q (Ev.move (.t rfl)) rfl ?_
          first | refine W.q (Ev.lensl (.t rfl) Try.underlying28) rfl ?_ | refine W.q (Ev.lenar (i := 0) (.t rfl) rfl Try.underlying28) rfl ?_ | refine W.q (Ev.lenar (i := 1) (.t rfl) rfl Try.underlying28) rfl ?_ | refine W.q (Ev.lenar (i := 2) (.t rfl) rfl Try.underlying28) rfl ?_ | refine W.q (Ev.lenar (i := 3) (.t rfl) rfl Try.underlying28) rfl ?_
          refine W.q (Ev.lti (.t rfl) (.t rfl)) rfl ?_
          refine W.nil ?_
          refine W.then ?_
          refine W.is (t := 95) (g := true) (av' := .lit (.bool true)) rfl (congrArg (fun b => AV.lit (.bool b)) (by simp; omega)) ?_
          refine W.condT (.t rfl) ?_
          refine W.skip ?_
          refine W.then ?_
          refine W.seq ?_
          refine W.block ?_
          refine W.seq ?_
          refine W.region ?_
          refine W.q (Ev.move (.t rfl)) rfl ?_
          refine W.q (Ev.move (.t rfl)) rfl ?_
          refine W.q (Ev.move (.t rfl)) rfl ?_
          refine W.q (Ev.at (E := 22) (.t rfl) (.t rfl) Try.underlying28 ty22 (fun _ => ⟨by omega, hgi⟩) rfl rfl) rfl ?_
          first | refine W.q (Ev.lde1 (.t rfl) ag22) rfl ?_ | refine W.q (Ev.ldb1 0 (.t rfl) rfl ag22 rfl) rfl ?_ | refine W.q (Ev.ldb1 1 (.t rfl) rfl ag22 rfl) rfl ?_ | refine W.q (Ev.ldb1 2 (.t rfl) rfl ag22 rfl) rfl ?_ | refine W.q (Ev.ldb1 3 (.t rfl) rfl ag22 rfl) rfl ?_
          refine W.callp (WPicks.c_hasPath Z q (by omega) (fun y hy => by have := hZd y hy; omega)) ⟨(.t rfl), (.t rfl), trivial⟩ rfl ?_
          refine W.q (Ev.not (.t rfl)) rfl ?_
          refine W.nil ?_
          refine W.then ?_
          refine W.is (t := 104) (g := true) (av' := .lit (.bool false)) rfl (congrArg (fun b => AV.lit (.bool b)) (by simp [hin])) ?_
          refine W.condF (.t rfl) ?_
          refine W.skip ?_
          refine W.blk_normal ?_
          refine W.then ?_
          refine W.region ?_
          refine W.q (Ev.move (.t rfl)) rfl ?_
          first | refine W.q (Ev.add (.t rfl) .k (fun _ => by omega)) rfl ?_ | refine W.q (Ev.addw (.t rfl) .k) rfl ?_
          refine W.q (Ev.assign (.t rfl)) rfl ?_
          refine W.nil ?_
          refine W.then ?_
          refine W.reach (D := []) (i + 1) ⟨rfl, rfl, rfl, rfl, trivial⟩ (.refl _) ⟨by show i + 1 ≤ _; omega, by show _ - (i + 1) < _; omega⟩
        · skip
          refine W.seq ?_
          refine W.seq ?_
          refine W.region ?_
          refine W.q (Ev.move (.t rfl)) rfl ?_
          refine W.q (Ev.move (.t rfl)) rfl ?_
          first | refine W.q (Ev.lensl (.t rfl) Try.underlying28) rfl ?_ | refine W.q (Ev.lenar (i := 0) (.t rfl) rfl Try.underlying28) rfl ?_ | refine W.q (Ev.lenar (i := 1) (.t rfl) rfl Try.underlying28) rfl ?_ | refine W.q (Ev.lenar (i := 2) (.t rfl) rfl Try.underlying28) rfl ?_ | refine W.q (Ev.lenar (i := 3) (.t rfl) rfl Try.underlying28) rfl ?_
          refine W.q (Ev.lti (.t rfl) (.t rfl)) rfl ?_
          refine W.nil ?_
          refine W.then ?_
          refine W.is (t := 95) (g := true) (av' := .lit (.bool false)) rfl (congrArg (fun b => AV.lit (.bool b)) (by simp; omega)) ?_
          refine W.condF (.t rfl) ?_
          refine W.exit ?_
          refine W.then_exit ?_
          refine W.then_exit ?_
          refine W.blk_hit ?_
          refine W.then ?_
          refine W.seq ?_
          refine W.region ?_
          refine W.q (Ev.assign .k) rfl ?_
          refine W.nil ?_
          refine W.then ?_
          refine W.ret ?_
          refine W.retn (M' := []) (rs := [.tmp 4]) (avs := [_]) Try.results4 ⟨rfl, trivial⟩ rfl (.refl _) ?_
          exact ⟨rfl, rfl⟩

end LPickDeep

end Go.Proofs.Yteepllfbnoaiaaa
