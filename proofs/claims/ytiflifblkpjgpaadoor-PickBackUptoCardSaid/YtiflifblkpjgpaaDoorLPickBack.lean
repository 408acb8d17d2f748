/-
  The law PickBack, walked.
-/
import Derived.Test.YtiflifblkpjgpaaDoorG3
set_option linter.unusedVariables false
set_option linter.unusedSimpArgs false
set_option maxRecDepth 100000
namespace Go.Proofs.YtiflifblkpjgpaaDoor
open Go.Vl

namespace LPickBack
theorem ty31 : Ty Tryd.prog 31 3 40 (.agg #[.string ⟨#[]⟩, .string ⟨#[]⟩, .bool false]) := Ty.of (by kernel_rfl)
theorem ag31 : IsAgg Tryd.prog 31 true := ⟨_, Tryd.underlying31, rfl⟩
theorem ni23 : NotInt Tryd.prog 23 := .inl ⟨_, Tryd.underlying23⟩
theorem c_Parse (ps : List Pk) (h : Pk.drns ps) (hp0 : 0 < ps.length) (hp1 : ps.length ≤ 10) : FnP Tryd.prog 6 [.str (Pk.tx ps)] (.tup [.sl 3 (ps.map kav), .int 0]) := by
  obtain ⟨p0, l0, rfl⟩ : ∃ p0 l0, ps = p0 :: l0 := by cases ps with
    | nil => exact absurd hp0 (Nat.lt_irrefl _)
    | cons p l => exact ⟨p, l, rfl⟩
  have hpl := Pk.pcs_len p0 l0
  have htl := Pk.tx_len (p0 :: l0) h.1
  rw [List.length_cons] at hp1 htl
  rw [← Pk.jn_pcs]
  exact WParseB.c_parse (p0 :: l0) (Pk.pcs (p0 :: l0)) (Pk.jn_pcs p0 l0) (by omega) (Pk.fold_pcs p0 l0 h.1 h.2) (Pk.pcs_mem h.1) (List.length_pos_iff.2 (Pk.pcs_ne p0 l0)) (by omega) h.1 hp0 (by rw [List.length_cons]; exact hp1)
theorem tx_ne (ps : List Pk) (hp0 : 0 < ps.length) : Pk.tx ps ≠ [] := by
  cases ps with
  | nil => exact absurd hp0 (Nat.lt_irrefl _)
  | cons p l =>
    intro e
    have := congrArg List.length e
    rw [Pk.tx, List.length_append, Pk.wd, List.length_append] at this
    by_cases hn : p.name = []
    · rw [if_pos hn] at this; simp at this
    · rw [if_neg hn] at this
      have h0 : 0 < p.name.length := List.length_pos_iff.2 hn
      rw [List.length_nil] at this; omega
theorem pk3 : Pk3 Tryd.prog 31 := Pk3.of Tryd.underlying31 (by kernel_rfl) (by kernel_rfl) (by decide) (by decide) (by decide) rfl rfl rfl Tryd.underlying9 Tryd.underlying9 Tryd.underlying4

theorem c_PickBack (l : List Int) (hl : l.length ≤ 1048576) : FnP Tryd.prog 3 [.sl 1 (l.map AV.int)] (.bool true) :=  by
  refine FnC.mk Tryd.func3 (by kernel_rfl) rfl Tryd.ntmps3 rfl (fun w0 F => ?_)
  refine W.seq ?_
  refine W.region ?_
  refine W.q (Ev.assign .k) rfl ?_
  refine W.nil ?_
  refine W.then ?_
  refine W.seq ?_
  refine W.region ?_
  refine W.q (Ev.move (.t rfl)) rfl ?_
  refine W.call (WPicksB.c_Picks l (by omega) 10 (by decide) (by decide)) ⟨(.t rfl), .k, trivial⟩ (.refl _) rfl ?_
  rintro _ _ ⟨v10, ps, rfl, rfl, hp0, hp1, hd⟩
  have hpl : (ps.map kav).length = ps.length := List.length_map ..
  have htn := tx_ne ps hp0
  refine W.freezeA (M1 := []) (M2 := []) (D := []) (v := v10) (L' := [(10, true, .sl 3 (ps.map kav))]) (.refl _) ⟨⟨_, rfl, .one .hit⟩, trivial⟩ (FrzMs.refl _) ?_
  refine W.q (Ev.assign (.t rfl)) rfl ?_
  refine W.nil ?_
  refine W.then ?_
  refine W.seq ?_
  refine W.region ?_
  refine W.q (Ev.move (.t rfl)) rfl ?_
  first | refine W.appn .k (.sl (.t rfl) (by intro e he; obtain ⟨d, _, rfl⟩ := List.mem_map.1 he; rfl)) Tryd.underlying23 ni23 ty31 rfl rfl (by omega) rfl ?_ | refine W.appn .k (.arr 0 (.t rfl) rfl (by intro e he; obtain ⟨d, _, rfl⟩ := List.mem_map.1 he; rfl)) Tryd.underlying23 ni23 ty31 rfl rfl (by omega) rfl ?_ | refine W.appn .k (.arr 1 (.t rfl) rfl (by intro e he; obtain ⟨d, _, rfl⟩ := List.mem_map.1 he; rfl)) Tryd.underlying23 ni23 ty31 rfl rfl (by omega) rfl ?_ | refine W.appn .k (.arr 2 (.t rfl) rfl (by intro e he; obtain ⟨d, _, rfl⟩ := List.mem_map.1 he; rfl)) Tryd.underlying23 ni23 ty31 rfl rfl (by omega) rfl ?_ | refine W.appn .k (.arr 3 (.t rfl) rfl (by intro e he; obtain ⟨d, _, rfl⟩ := List.mem_map.1 he; rfl)) Tryd.underlying23 ni23 ty31 rfl rfl (by omega) rfl ?_
  intro v13
  refine W.freezeA (M1 := []) (M2 := []) (D := []) (v := v13) (L' := [(13, true, .sl 3 (ps.map kav))]) (.refl _) ⟨⟨_, rfl, .one .hit⟩, trivial⟩ (FrzMs.refl _) ?_
  refine W.callp (WTextT.c_Text ps hd.1 hp0 hp1) ⟨(.t rfl), trivial⟩ rfl ?_
  refine W.q (Ev.move (.t rfl)) rfl ?_
  refine W.q (Ev.extract (.t rfl) rfl) rfl ?_
  refine W.q (Ev.extract (.t rfl) rfl) rfl ?_
  refine W.q (Ev.assign (.t rfl)) rfl ?_
  refine W.q (Ev.assign (.t rfl)) rfl ?_
  refine W.nil ?_
  refine W.then ?_
  refine W.seq ?_
  refine W.region ?_
  refine W.q (Ev.move (.t rfl)) rfl ?_
  refine W.callp (c_Parse ps hd hp0 hp1) ⟨(.t rfl), trivial⟩ rfl ?_
  refine W.q (Ev.move (.t rfl)) rfl ?_
  refine W.q (Ev.extract (.t rfl) rfl) rfl ?_
  refine W.q (Ev.extract (.t rfl) rfl) rfl ?_
  refine W.q (Ev.assign (.t rfl)) rfl ?_
  refine W.q (Ev.assign (.t rfl)) rfl ?_
  refine W.nil ?_
  refine W.then ?_
  refine W.seq ?_
  refine W.seq ?_
  refine W.region ?_
  refine W.q (Ev.move (.t rfl)) rfl ?_
  refine W.q (Ev.nei (.t rfl) .k) rfl ?_
  refine W.q (Ev.move (.t rfl)) rfl ?_
  refine W.qgF rfl rfl (Ev.move (.t rfl)) rfl ?_
  refine W.qgF rfl rfl (Ev.nei (.c rfl) .k) rfl ?_
  refine W.q (Ev.or (.t rfl) ⟨_, _, rfl, rfl, by first | (simp; done) | (intro hg_ hp_; simp [hp_]; done) | (simp <;> omega; done) | (simp_all; done) | grind⟩) rfl ?_
  refine W.q (Ev.move (.t rfl)) rfl ?_
  refine W.qgF rfl rfl (Ev.move (.t rfl)) rfl ?_
  first | refine W.qgF rfl rfl (Ev.lensl (.c rfl) Tryd.underlying23) rfl ?_ | refine W.qgF rfl rfl (Ev.lenar (i := 0) (.c rfl) rfl Tryd.underlying23) rfl ?_ | refine W.qgF rfl rfl (Ev.lenar (i := 1) (.c rfl) rfl Tryd.underlying23) rfl ?_ | refine W.qgF rfl rfl (Ev.lenar (i := 2) (.c rfl) rfl Tryd.underlying23) rfl ?_ | refine W.qgF rfl rfl (Ev.lenar (i := 3) (.c rfl) rfl Tryd.underlying23) rfl ?_
  refine W.qgF rfl rfl (Ev.move (.t rfl)) rfl ?_
  first | refine W.qgF rfl rfl (Ev.lensl (.c rfl) Tryd.underlying23) rfl ?_ | refine W.qgF rfl rfl (Ev.lenar (i := 0) (.c rfl) rfl Tryd.underlying23) rfl ?_ | refine W.qgF rfl rfl (Ev.lenar (i := 1) (.c rfl) rfl Tryd.underlying23) rfl ?_ | refine W.qgF rfl rfl (Ev.lenar (i := 2) (.c rfl) rfl Tryd.underlying23) rfl ?_ | refine W.qgF rfl rfl (Ev.lenar (i := 3) (.c rfl) rfl Tryd.underlying23) rfl ?_
  refine W.qgF rfl rfl (Ev.nei (.c rfl) (.c rfl)) rfl ?_
  refine W.q (Ev.or (.t rfl) ⟨_, _, rfl, rfl, by first | (simp; done) | (intro hg_ hp_; simp [hp_]; done) | (simp <;> omega; done) | (simp_all; done) | grind⟩) rfl ?_
  refine W.q (Ev.move (.t rfl)) rfl ?_
  refine W.qgF rfl rfl (Ev.move (.t rfl)) rfl ?_
  refine W.qgF rfl rfl (Ev.eqs (.c rfl) .k) rfl ?_
  refine W.q (Ev.or (.t rfl) ⟨_, _, rfl, rfl, by first | (simp; done) | (intro hg_ hp_; simp [hp_]; done) | (simp <;> omega; done) | (simp_all; done) | grind⟩) rfl ?_
  refine W.nil ?_
  refine W.then ?_
  refine W.is (t := 38) (g := true) (av' := .lit (.bool false)) rfl (congrArg (fun b => AV.lit (.bool b)) (by simp [htn])) ?_
  refine W.condF (.t rfl) ?_
  refine W.skip ?_
  refine W.then ?_
  refine W.seq ?_
  refine W.seq ?_
  refine W.region ?_
  refine W.q (Ev.assign .k) rfl ?_
  refine W.nil ?_
  refine W.then ?_
  refine W.block ?_
  refine W.loop (D := []) (ι := Nat) (fun i => [(8, true, .int (i : Int)), (3, true, .sl 3 (ps.map kav)), (6, true, .sl 3 (ps.map kav))]) (fun _ => []) (fun i => i ≤ ps.length) (fun i => ps.length - i) 0 ⟨rfl, rfl, rfl, trivial⟩ (.refl _) (Nat.zero_le _) ?_
  intro i hi
  dsimp only at hi ⊢
  rcases (show i < ps.length ∨ i = ps.length from by omega) with hlt | hend
  · have hga := getD_mapG kav Pk.dfl ps i hlt
    generalize ps.getD i Pk.dfl = d at hga
    refine W.seq ?_
    refine W.seq ?_
    refine W.region ?_
    refine W.q (Ev.move (.t rfl)) rfl ?_
    refine W.q (Ev.move (.t rfl)) rfl ?_
    first | refine W.q (Ev.lensl (.t rfl) Tryd.underlying23) rfl ?_ | refine W.q (Ev.lenar (i := 0) (.t rfl) rfl Tryd.underlying23) rfl ?_ | refine W.q (Ev.lenar (i := 1) (.t rfl) rfl Tryd.underlying23) rfl ?_ | refine W.q (Ev.lenar (i := 2) (.t rfl) rfl Tryd.underlying23) rfl ?_ | refine W.q (Ev.lenar (i := 3) (.t rfl) rfl Tryd.underlying23) rfl ?_
    refine W.q (Ev.lti (.t rfl) (.t rfl)) rfl ?_
    refine W.nil ?_
    refine W.then ?_
    refine W.is (t := 42) (g := true) (av' := .lit (.bool true)) rfl (congrArg (fun b => AV.lit (.bool b)) (by exact decide_eq_true (by omega))) ?_
    refine W.condT (.t rfl) ?_
    refine W.skip ?_
    refine W.then ?_
    refine W.seq ?_
    refine W.block ?_
    refine W.seq ?_
    refine W.drawn (by kernel_rfl) (by kernel_rfl) ?_
    refine DP.q (Ev.move (.t rfl)) rfl ?_
    refine DP.q (Ev.move (.t rfl)) rfl ?_
    refine DP.q (Ev.at (E := 31) (.t rfl) (.t rfl) Tryd.underlying23 ty31 (fun _ => ⟨by omega, hga⟩) rfl rfl) rfl ?_
    first | refine DP.q (Ev.lden (.t rfl) ag31 ty31 rfl rfl) rfl ?_ | refine DP.q (Ev.ldbn 0 (.t rfl) rfl ag31 ty31 rfl) rfl ?_ | refine DP.q (Ev.ldbn 1 (.t rfl) rfl ag31 ty31 rfl) rfl ?_ | refine DP.q (Ev.ldbn 2 (.t rfl) rfl ag31 ty31 rfl) rfl ?_ | refine DP.q (Ev.ldbn 3 (.t rfl) rfl ag31 ty31 rfl) rfl ?_
    refine DP.q (Ev.move (.t rfl)) rfl ?_
    refine DP.q (Ev.move (.t rfl)) rfl ?_
    refine DP.q (Ev.at (E := 31) (.t rfl) (.t rfl) Tryd.underlying23 ty31 (fun _ => ⟨by omega, hga⟩) rfl rfl) rfl ?_
    first | refine DP.q (Ev.lden (.t rfl) ag31 ty31 rfl rfl) rfl ?_ | refine DP.q (Ev.ldbn 0 (.t rfl) rfl ag31 ty31 rfl) rfl ?_ | refine DP.q (Ev.ldbn 1 (.t rfl) rfl ag31 ty31 rfl) rfl ?_ | refine DP.q (Ev.ldbn 2 (.t rfl) rfl ag31 ty31 rfl) rfl ?_ | refine DP.q (Ev.ldbn 3 (.t rfl) rfl ag31 ty31 rfl) rfl ?_
    refine DP.q (Ev.nepk pk3 (.t rfl) (.t rfl)) rfl ?_
    refine DP.nil ?_
    refine W.then ?_
    refine W.is (t := 53) (g := true) (av' := .lit (.bool false)) rfl (congrArg (fun b => AV.lit (.bool b)) (by rfl)) ?_
    refine W.condF (.t rfl) ?_
    refine W.skip ?_
    refine W.blk_normal ?_
    refine W.then ?_
    refine W.region ?_
    refine W.q (Ev.move (.t rfl)) rfl ?_
    first | refine W.q (Ev.add (.t rfl) .k (fun _ => by omega)) rfl ?_ | refine W.q (Ev.addw (.t rfl) .k) rfl ?_
    refine W.q (Ev.assign (.t rfl)) rfl ?_
    refine W.nil ?_
    refine W.then ?_
    refine W.reach (D := []) (i + 1) ⟨rfl, rfl, rfl, trivial⟩ (.refl _) ⟨hlt, by show ps.length - (i + 1) < ps.length - i; omega⟩
  · skip
    refine W.seq ?_
    refine W.seq ?_
    refine W.region ?_
    refine W.q (Ev.move (.t rfl)) rfl ?_
    refine W.q (Ev.move (.t rfl)) rfl ?_
    first | refine W.q (Ev.lensl (.t rfl) Tryd.underlying23) rfl ?_ | refine W.q (Ev.lenar (i := 0) (.t rfl) rfl Tryd.underlying23) rfl ?_ | refine W.q (Ev.lenar (i := 1) (.t rfl) rfl Tryd.underlying23) rfl ?_ | refine W.q (Ev.lenar (i := 2) (.t rfl) rfl Tryd.underlying23) rfl ?_ | refine W.q (Ev.lenar (i := 3) (.t rfl) rfl Tryd.underlying23) rfl ?_
    refine W.q (Ev.lti (.t rfl) (.t rfl)) rfl ?_
    refine W.nil ?_
    refine W.then ?_
    refine W.is (t := 42) (g := true) (av' := .lit (.bool false)) rfl (congrArg (fun b => AV.lit (.bool b)) (by exact decide_eq_false (by omega))) ?_
    refine W.condF (.t rfl) ?_
    refine W.exit ?_
    refine W.then_exit ?_
    refine W.then_exit ?_
    refine W.blk_hit ?_
    refine W.then ?_
    refine W.seq ?_
    refine W.region ?_
    refine W.q (Ev.assign .k) rfl ?_
    refine W.nil ?_
    refine W.then ?_
    refine W.ret ?_
    refine W.retn (M' := []) (D := _) (rs := [.tmp 2]) (avs := [_]) Tryd.results3 ⟨rfl, trivial⟩ rfl (.refl _) ?_
    exact ⟨rfl, rfl⟩

end LPickBack

end Go.Proofs.YtiflifblkpjgpaaDoor
