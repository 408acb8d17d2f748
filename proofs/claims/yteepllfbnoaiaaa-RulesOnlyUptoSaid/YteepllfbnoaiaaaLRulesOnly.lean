/-
  The law RulesOnly, walked.
-/
import Derived.Test.YteepllfbnoaiaaaWRulesOf
import Derived.Test.YteepllfbnoaiaaaWApply
import Derived.Test.YteepllfbnoaiaaaWOnlyN
import Derived.Test.YteepllfbnoaiaaaWApart
import Derived.Test.YteepllfbnoaiaaaWWords
import Derived.Test.YteepllfbnoaiaaaWNodes
set_option linter.unusedVariables false
set_option linter.unusedSimpArgs false
set_option maxRecDepth 100000
namespace Go.Proofs.Yteepllfbnoaiaaa
open Go.Vl

namespace LRulesOnly
theorem ty3 : Ty Try.prog 3 1 8 (.int .i64 0) := Ty.of (by kernel_rfl)
theorem ty9 : Ty Try.prog 9 1 16 (.string ⟨#[]⟩) := Ty.of (by kernel_rfl)
theorem ty51 : Ty Try.prog 51 3 40 (.agg #[.string ⟨#[]⟩, .int .i64 0, .string ⟨#[]⟩]) := Ty.of (by kernel_rfl)
theorem ag3 : IsAgg Try.prog 3 false := ⟨_, Try.underlying3, rfl⟩
theorem ag9 : IsAgg Try.prog 9 false := ⟨_, Try.underlying9, rfl⟩
theorem fa51_1 : FieldAt Try.prog 51 1 1 1 false := ⟨_, _, Try.underlying51, rfl, rfl, ty3.size, ag3, by decide⟩
theorem fa51_2 : FieldAt Try.prog 51 2 2 1 false := ⟨_, _, Try.underlying51, rfl, rfl, ty9.size, ag9, by decide⟩
theorem ni40 : NotInt Try.prog 40 := .inl ⟨_, Try.underlying40⟩
theorem c_RulesOnly (l0 l : List Int) (hl0 : l0.length ≤ 1048576) (hl : l.length ≤ 1048576) : FnP Try.prog 7 [.sl 1 (l0.map AV.int), .sl 1 (l.map AV.int)] (.bool true) :=  by
  refine FnC.mk Try.func7 (by kernel_rfl) rfl Try.ntmps7 rfl (fun w0 F => ?_)
  refine W.seq ?_
  refine W.region ?_
  refine W.q (Ev.assign .k) rfl ?_
  refine W.nil ?_
  refine W.then ?_
  refine W.seq ?_
  refine W.region ?_
  refine W.q (Ev.move (.t rfl)) rfl ?_
  refine W.call (WRulesOf.c_RulesOf l0 (by omega)) ⟨(.t rfl), trivial⟩ (.refl _) rfl ?_
  rintro _ _ ⟨v14, rs, rfl, rfl, hdr⟩
  have hrs := Rl.drawn_oks hdr
  have hr6 := Rl.drawn_len hdr
  have hrm : (rs.map rav).length = rs.length := List.length_map ..
  refine W.q (Ev.assign (.t rfl)) rfl ?_
  refine W.nil ?_
  refine W.freezeA (M1 := []) (M2 := []) (D := []) (v := v14) (L' := [(5, true, .sl 3 (rs.map rav))]) (.refl _) ⟨⟨_, rfl, .one .hit⟩, trivial⟩ (FrzMs.refl _) ?_
  refine W.then ?_
  refine W.seq ?_
  refine W.region ?_
  refine W.q (Ev.move (.t rfl)) rfl ?_
  refine W.call (WNodes.c_Nodes l hl 4 6 (by decide) (by decide) (by decide)) ⟨(.t rfl), .k, .k, trivial⟩ (.refl _) rfl ?_
  rintro _ _ ⟨v17, ns, rest, rfl, rfl, hn1, hn2, hn3, hn4⟩
  have hns := Nd.szs_len ns
  refine W.q (Ev.move (.t rfl)) rfl ?_
  refine W.q (Ev.extract (.t rfl) rfl) rfl ?_
  refine W.q (Ev.extract (.t rfl) rfl) rfl ?_
  refine W.q (Ev.assign (.t rfl)) rfl ?_
  refine W.q (Ev.assign (.t rfl)) rfl ?_
  refine W.nil ?_
  refine W.freezeA (M1 := []) (M2 := []) (D := []) (v := v17) (L' := [(6, true, .sl 4 (ns.map Nd.av))]) (.refl _) ⟨⟨_, rfl, .one .hit⟩, trivial⟩ (FrzMs.refl _) ?_
  obtain ⟨_, hpl, _, htz⟩ := Nd.drs_facts _ _ _ ns (Nat.le_refl _) hn4
  have hkm := Rl.kn_mem rs hrs.all
  obtain ⟨hX1, hX2⟩ := Rl.run_all rs (Rl.kn rs) hkm _ ns [] (Nat.le_refl _) rfl rfl
  obtain ⟨hX3, hX4⟩ := Rl.run_wds rs (Rl.kn rs) hkm _ ns [] (Nat.le_refl _) hpl rfl rfl
  have hX5 := Rl.run_szs rs _ ns [] (Nat.le_refl _)
  have hX6 := Rl.run_tszs rs _ ns [] (Nat.le_refl _)
  have z1 : Nd.szs ([] : List Nd) = 0 := rfl
  have z2 : Nd.tszs ([] : List Nd) = 0 := rfl
  have z3 : (Nd.wds ([] : List Nd)).length = 0 := rfl
  have hcX : FnP Try.prog 24 [.sl 3 (rs.map rav), .sl 4 (ns.map Nd.av)] (.tup [.sl 4 ((Rl.run rs [] ns).map Nd.av), .bool true]) := WApply.c_ruledBy rs hrs ns (by omega) (by omega)
  have hX4b : (Nd.wds ([] : List Nd)) = [] := rfl
  rw [hX4b, List.nil_append] at hX4
  generalize Rl.run rs [] ns = X at *
  refine W.then ?_
  refine W.seq ?_
  refine W.region ?_
  refine W.q (Ev.move (.t rfl)) rfl ?_
  refine W.q (Ev.move (.t rfl)) rfl ?_
  refine W.callp (hcX) ⟨(.t rfl), (.t rfl), trivial⟩ rfl ?_
  refine W.q (Ev.move (.t rfl)) rfl ?_
  refine W.q (Ev.extract (.t rfl) rfl) rfl ?_
  refine W.q (Ev.extract (.t rfl) rfl) rfl ?_
  refine W.q (Ev.assign (.t rfl)) rfl ?_
  refine W.q (Ev.assign (.t rfl)) rfl ?_
  refine W.nil ?_
  refine W.then ?_
  refine W.seq ?_
  refine W.region ?_
  refine W.q (Ev.assign .k) rfl ?_
  refine W.nil ?_
  refine W.then ?_
  refine W.seq ?_
  refine W.region ?_
  refine W.q (Ev.assign .k) rfl ?_
  refine W.nil ?_
  refine W.then ?_
  refine W.seq ?_
  refine W.seq ?_
  refine W.region ?_
  refine W.q (Ev.assign .k) rfl ?_
  refine W.nil ?_
  refine W.then ?_
  refine W.block ?_
  refine W.own_nil 9 1 ?_
  refine W.loop (D := []) (ι := Nat × Value) (fun z => [(12, true, .int (z.1 : Int)), (5, true, .sl 3 (rs.map rav)), (6, true, .sl 4 (ns.map Nd.av)), (8, true, .sl 4 (X.map Nd.av)), (9, true, .bool true), (10, true, .lit z.2), (11, true, .bool ((rs.take z.1).all fun r => !(r.act == 3)))]) (fun z => [.arr z.2 9 1 ((Rl.kn (rs.take z.1)).map AV.str)]) (fun z => z.1 ≤ rs.length) (fun z => rs.length - z.1) (0, .slice none 0 0) ⟨rfl, rfl, rfl, rfl, rfl, rfl, rfl, trivial⟩ (.refl _) (Nat.zero_le _) ?_
  rintro ⟨i, v⟩ hi
  dsimp only at hi ⊢
  rcases (show i < rs.length ∨ i = rs.length from by omega) with hlt | hend
  · have hga := getD_mapG rav Rl.dfl rs i hlt
    have hks := Rl.kn_snoc rs i hlt
    have htk := take_getDG Rl.dfl rs i hlt
    generalize rs.getD i Rl.dfl = r at hga hks htk
    have hkl := Rl.kn_len (rs.take i)
    rw [List.length_take] at hkl
    have hal : ((rs.take (i + 1)).all fun r => !(r.act == 3)) = (((rs.take i).all fun r => !(r.act == 3)) && !(r.act == 3)) := by rw [htk, List.all_append]; simp
    refine W.seq ?_
    refine W.seq ?_
    refine W.region ?_
    refine W.q (Ev.move (.t rfl)) rfl ?_
    refine W.q (Ev.move (.t rfl)) rfl ?_
    first | refine W.q (Ev.lensl (.t rfl) Try.underlying46) rfl ?_ | refine W.q (Ev.lenar (i := 0) (.t rfl) rfl Try.underlying46) rfl ?_ | refine W.q (Ev.lenar (i := 1) (.t rfl) rfl Try.underlying46) rfl ?_ | refine W.q (Ev.lenar (i := 2) (.t rfl) rfl Try.underlying46) rfl ?_ | refine W.q (Ev.lenar (i := 3) (.t rfl) rfl Try.underlying46) rfl ?_
    refine W.q (Ev.lti (.t rfl) (.t rfl)) rfl ?_
    refine W.nil ?_
    refine W.then ?_
    refine W.is (t := 29) (g := true) (av' := .lit (.bool true)) rfl (congrArg (fun b => AV.lit (.bool b)) (by exact decide_eq_true (by omega))) ?_
    refine W.condT (.t rfl) ?_
    refine W.skip ?_
    refine W.then ?_
    refine W.seq ?_
    refine W.block ?_
    refine W.seq ?_
    refine W.seq ?_
    refine W.region ?_
    refine W.q (Ev.move (.t rfl)) rfl ?_
    refine W.q (Ev.move (.t rfl)) rfl ?_
    refine W.q (Ev.at (E := 51) (.t rfl) (.t rfl) Try.underlying46 ty51 (fun _ => ⟨by omega, hga⟩) rfl rfl) rfl ?_
    first | refine W.q (Ev.fae (.t rfl) fa51_1 rfl) rfl ?_ | refine W.q (Ev.fab (.t rfl) fa51_1) rfl ?_ | refine W.q (Ev.faa (.t rfl) fa51_1) rfl ?_
    first | refine W.q (Ev.lde1 (.t rfl) ag3) rfl ?_ | refine W.q (Ev.ldb1 0 (.t rfl) rfl ag3 rfl) rfl ?_ | refine W.q (Ev.ldb1 1 (.t rfl) rfl ag3 rfl) rfl ?_ | refine W.q (Ev.ldb1 2 (.t rfl) rfl ag3 rfl) rfl ?_ | refine W.q (Ev.ldb1 3 (.t rfl) rfl ag3 rfl) rfl ?_
    refine W.q (Ev.eqi (.t rfl) .k) rfl ?_
    refine W.nil ?_
    refine W.then ?_
    refine W.cond (.t rfl) (fun hc_t37 => ?_) (fun hc_t37 => ?_)
    · have ha1 : r.act = 1 := beq_iff_eq.1 hc_t37
      rw [if_pos ha1] at hks
      refine W.region ?_
      refine W.q (Ev.move (.t rfl)) rfl ?_
      refine W.q (Ev.move (.t rfl)) rfl ?_
      refine W.q (Ev.move (.t rfl)) rfl ?_
      refine W.q (Ev.at (E := 51) (.t rfl) (.t rfl) Try.underlying46 ty51 (fun _ => ⟨by omega, hga⟩) rfl rfl) rfl ?_
      first | refine W.q (Ev.fae (.t rfl) fa51_2 rfl) rfl ?_ | refine W.q (Ev.fab (.t rfl) fa51_2) rfl ?_ | refine W.q (Ev.faa (.t rfl) fa51_2) rfl ?_
      first | refine W.q (Ev.lde1 (.t rfl) ag9) rfl ?_ | refine W.q (Ev.ldb1 0 (.t rfl) rfl ag9 rfl) rfl ?_ | refine W.q (Ev.ldb1 1 (.t rfl) rfl ag9 rfl) rfl ?_ | refine W.q (Ev.ldb1 2 (.t rfl) rfl ag9 rfl) rfl ?_ | refine W.q (Ev.ldb1 3 (.t rfl) rfl ag9 rfl) rfl ?_
      refine W.bs (es := [_]) Try.underlying40 ty9 ⟨rfl, (.t rfl), rfl, rfl, trivial⟩ rfl (by decide) rfl rfl ?_
      first | refine W.app 0 (.t rfl) rfl (.sl (.t rfl) (by first | (simp [AV.okc, shV]; done) | (intro e he; rw [List.mem_singleton.1 he]; rfl))) Try.underlying40 ni40 ty9 rfl rfl (by simp only [List.length_map, List.length_cons, List.length_nil]; omega) rfl ?_ | refine W.app 1 (.t rfl) rfl (.sl (.t rfl) (by first | (simp [AV.okc, shV]; done) | (intro e he; rw [List.mem_singleton.1 he]; rfl))) Try.underlying40 ni40 ty9 rfl rfl (by simp only [List.length_map, List.length_cons, List.length_nil]; omega) rfl ?_ | refine W.app 2 (.t rfl) rfl (.sl (.t rfl) (by first | (simp [AV.okc, shV]; done) | (intro e he; rw [List.mem_singleton.1 he]; rfl))) Try.underlying40 ni40 ty9 rfl rfl (by simp only [List.length_map, List.length_cons, List.length_nil]; omega) rfl ?_ | refine W.app 3 (.t rfl) rfl (.sl (.t rfl) (by first | (simp [AV.okc, shV]; done) | (intro e he; rw [List.mem_singleton.1 he]; rfl))) Try.underlying40 ni40 ty9 rfl rfl (by simp only [List.length_map, List.length_cons, List.length_nil]; omega) rfl ?_ | refine W.app 0 (.t rfl) rfl (.arr 0 (.t rfl) rfl (by first | (simp [AV.okc, shV]; done) | (intro e he; rw [List.mem_singleton.1 he]; rfl))) Try.underlying40 ni40 ty9 rfl rfl (by simp only [List.length_map, List.length_cons, List.length_nil]; omega) rfl ?_ | refine W.app 0 (.t rfl) rfl (.arr 1 (.t rfl) rfl (by first | (simp [AV.okc, shV]; done) | (intro e he; rw [List.mem_singleton.1 he]; rfl))) Try.underlying40 ni40 ty9 rfl rfl (by simp only [List.length_map, List.length_cons, List.length_nil]; omega) rfl ?_ | refine W.app 0 (.t rfl) rfl (.arr 2 (.t rfl) rfl (by first | (simp [AV.okc, shV]; done) | (intro e he; rw [List.mem_singleton.1 he]; rfl))) Try.underlying40 ni40 ty9 rfl rfl (by simp only [List.length_map, List.length_cons, List.length_nil]; omega) rfl ?_ | refine W.app 0 (.t rfl) rfl (.arr 3 (.t rfl) rfl (by first | (simp [AV.okc, shV]; done) | (intro e he; rw [List.mem_singleton.1 he]; rfl))) Try.underlying40 ni40 ty9 rfl rfl (by simp only [List.length_map, List.length_cons, List.length_nil]; omega) rfl ?_ | refine W.app 1 (.t rfl) rfl (.arr 0 (.t rfl) rfl (by first | (simp [AV.okc, shV]; done) | (intro e he; rw [List.mem_singleton.1 he]; rfl))) Try.underlying40 ni40 ty9 rfl rfl (by simp only [List.length_map, List.length_cons, List.length_nil]; omega) rfl ?_ | refine W.app 1 (.t rfl) rfl (.arr 1 (.t rfl) rfl (by first | (simp [AV.okc, shV]; done) | (intro e he; rw [List.mem_singleton.1 he]; rfl))) Try.underlying40 ni40 ty9 rfl rfl (by simp only [List.length_map, List.length_cons, List.length_nil]; omega) rfl ?_ | refine W.app 1 (.t rfl) rfl (.arr 2 (.t rfl) rfl (by first | (simp [AV.okc, shV]; done) | (intro e he; rw [List.mem_singleton.1 he]; rfl))) Try.underlying40 ni40 ty9 rfl rfl (by simp only [List.length_map, List.length_cons, List.length_nil]; omega) rfl ?_ | refine W.app 1 (.t rfl) rfl (.arr 3 (.t rfl) rfl (by first | (simp [AV.okc, shV]; done) | (intro e he; rw [List.mem_singleton.1 he]; rfl))) Try.underlying40 ni40 ty9 rfl rfl (by simp only [List.length_map, List.length_cons, List.length_nil]; omega) rfl ?_ | refine W.app 2 (.t rfl) rfl (.arr 0 (.t rfl) rfl (by first | (simp [AV.okc, shV]; done) | (intro e he; rw [List.mem_singleton.1 he]; rfl))) Try.underlying40 ni40 ty9 rfl rfl (by simp only [List.length_map, List.length_cons, List.length_nil]; omega) rfl ?_ | refine W.app 2 (.t rfl) rfl (.arr 1 (.t rfl) rfl (by first | (simp [AV.okc, shV]; done) | (intro e he; rw [List.mem_singleton.1 he]; rfl))) Try.underlying40 ni40 ty9 rfl rfl (by simp only [List.length_map, List.length_cons, List.length_nil]; omega) rfl ?_ | refine W.app 2 (.t rfl) rfl (.arr 2 (.t rfl) rfl (by first | (simp [AV.okc, shV]; done) | (intro e he; rw [List.mem_singleton.1 he]; rfl))) Try.underlying40 ni40 ty9 rfl rfl (by simp only [List.length_map, List.length_cons, List.length_nil]; omega) rfl ?_ | refine W.app 2 (.t rfl) rfl (.arr 3 (.t rfl) rfl (by first | (simp [AV.okc, shV]; done) | (intro e he; rw [List.mem_singleton.1 he]; rfl))) Try.underlying40 ni40 ty9 rfl rfl (by simp only [List.length_map, List.length_cons, List.length_nil]; omega) rfl ?_ | refine W.app 3 (.t rfl) rfl (.arr 0 (.t rfl) rfl (by first | (simp [AV.okc, shV]; done) | (intro e he; rw [List.mem_singleton.1 he]; rfl))) Try.underlying40 ni40 ty9 rfl rfl (by simp only [List.length_map, List.length_cons, List.length_nil]; omega) rfl ?_ | refine W.app 3 (.t rfl) rfl (.arr 1 (.t rfl) rfl (by first | (simp [AV.okc, shV]; done) | (intro e he; rw [List.mem_singleton.1 he]; rfl))) Try.underlying40 ni40 ty9 rfl rfl (by simp only [List.length_map, List.length_cons, List.length_nil]; omega) rfl ?_ | refine W.app 3 (.t rfl) rfl (.arr 2 (.t rfl) rfl (by first | (simp [AV.okc, shV]; done) | (intro e he; rw [List.mem_singleton.1 he]; rfl))) Try.underlying40 ni40 ty9 rfl rfl (by simp only [List.length_map, List.length_cons, List.length_nil]; omega) rfl ?_ | refine W.app 3 (.t rfl) rfl (.arr 3 (.t rfl) rfl (by first | (simp [AV.okc, shV]; done) | (intro e he; rw [List.mem_singleton.1 he]; rfl))) Try.underlying40 ni40 ty9 rfl rfl (by simp only [List.length_map, List.length_cons, List.length_nil]; omega) rfl ?_
      intro v45
      refine W.q (Ev.assign (.t rfl)) rfl ?_
      refine W.nil ?_
      refine W.then ?_
      refine W.region ?_
      refine W.q (Ev.move (.t rfl)) rfl ?_
      refine W.q (Ev.move (.t rfl)) rfl ?_
      refine W.qgT rfl rfl (Ev.move (.t rfl)) rfl ?_
      refine W.qgT rfl rfl (Ev.move (.t rfl)) rfl ?_
      refine W.qgT rfl rfl (Ev.at (E := 51) (.c rfl) (.c rfl) Try.underlying46 ty51 (fun _ => ⟨by omega, hga⟩) rfl rfl) rfl ?_
      first | refine W.qgT rfl rfl (Ev.fae (.c rfl) fa51_1 rfl) rfl ?_ | refine W.qgT rfl rfl (Ev.fab (.c rfl) fa51_1) rfl ?_ | refine W.qgT rfl rfl (Ev.faa (.c rfl) fa51_1) rfl ?_
      first | refine W.qgT rfl rfl (Ev.lde1 (.c rfl) ag3) rfl ?_ | refine W.qgT rfl rfl (Ev.ldb1 0 (.c rfl) rfl ag3 rfl) rfl ?_ | refine W.qgT rfl rfl (Ev.ldb1 1 (.c rfl) rfl ag3 rfl) rfl ?_ | refine W.qgT rfl rfl (Ev.ldb1 2 (.c rfl) rfl ag3 rfl) rfl ?_ | refine W.qgT rfl rfl (Ev.ldb1 3 (.c rfl) rfl ag3 rfl) rfl ?_
      refine W.qgT rfl rfl (Ev.nei (.c rfl) .k) rfl ?_
      refine W.q (Ev.and (.t rfl) ⟨_, _, rfl, rfl, by first | (simp; done) | (intro hg_ hp_; simp [hp_]; done) | (simp <;> omega; done) | (simp_all; done) | grind⟩) rfl ?_
      refine W.q (Ev.assign (.t rfl)) rfl ?_
      refine W.nil ?_
      refine W.blk_normal ?_
      refine W.then ?_
      refine W.region ?_
      refine W.q (Ev.move (.t rfl)) rfl ?_
      first | refine W.q (Ev.add (.t rfl) .k (fun _ => by omega)) rfl ?_ | refine W.q (Ev.addw (.t rfl) .k) rfl ?_
      refine W.q (Ev.assign (.t rfl)) rfl ?_
      refine W.nil ?_
      refine W.then ?_
      refine W.is (t := 11) (g := true) (av' := .bool ((rs.take (i + 1)).all fun r => !(r.act == 3))) rfl (congrArg AV.bool (by rw [hal]; first | rfl | simp [bne])) ?_
      refine W.reach (D := []) (i + 1, _) ⟨rfl, rfl, rfl, rfl, rfl, rfl, rfl, trivial⟩ (by rw [hks]; first | exact .refl _ | (rw [List.map_append]; exact .refl _)) ⟨by show i + 1 ≤ _; omega, by show _ - (i + 1) < _; omega⟩
    · have ha1 : r.act ≠ 1 := beq_eq_false_iff_ne.1 hc_t37
      rw [if_neg ha1, List.append_nil] at hks
      refine W.skip ?_
      refine W.then ?_
      refine W.region ?_
      refine W.q (Ev.move (.t rfl)) rfl ?_
      refine W.q (Ev.move (.t rfl)) rfl ?_
      refine W.qgT rfl rfl (Ev.move (.t rfl)) rfl ?_
      refine W.qgT rfl rfl (Ev.move (.t rfl)) rfl ?_
      refine W.qgT rfl rfl (Ev.at (E := 51) (.c rfl) (.c rfl) Try.underlying46 ty51 (fun _ => ⟨by omega, hga⟩) rfl rfl) rfl ?_
      first | refine W.qgT rfl rfl (Ev.fae (.c rfl) fa51_1 rfl) rfl ?_ | refine W.qgT rfl rfl (Ev.fab (.c rfl) fa51_1) rfl ?_ | refine W.qgT rfl rfl (Ev.faa (.c rfl) fa51_1) rfl ?_
      first | refine W.qgT rfl rfl (Ev.lde1 (.c rfl) ag3) rfl ?_ | refine W.qgT rfl rfl (Ev.ldb1 0 (.c rfl) rfl ag3 rfl) rfl ?_ | refine W.qgT rfl rfl (Ev.ldb1 1 (.c rfl) rfl ag3 rfl) rfl ?_ | refine W.qgT rfl rfl (Ev.ldb1 2 (.c rfl) rfl ag3 rfl) rfl ?_ | refine W.qgT rfl rfl (Ev.ldb1 3 (.c rfl) rfl ag3 rfl) rfl ?_
      refine W.qgT rfl rfl (Ev.nei (.c rfl) .k) rfl ?_
      refine W.q (Ev.and (.t rfl) ⟨_, _, rfl, rfl, by first | (simp; done) | (intro hg_ hp_; simp [hp_]; done) | (simp <;> omega; done) | (simp_all; done) | grind⟩) rfl ?_
      refine W.q (Ev.assign (.t rfl)) rfl ?_
      refine W.nil ?_
      refine W.blk_normal ?_
      refine W.then ?_
      refine W.region ?_
      refine W.q (Ev.move (.t rfl)) rfl ?_
      first | refine W.q (Ev.add (.t rfl) .k (fun _ => by omega)) rfl ?_ | refine W.q (Ev.addw (.t rfl) .k) rfl ?_
      refine W.q (Ev.assign (.t rfl)) rfl ?_
      refine W.nil ?_
      refine W.then ?_
      refine W.is (t := 11) (g := true) (av' := .bool ((rs.take (i + 1)).all fun r => !(r.act == 3))) rfl (congrArg AV.bool (by rw [hal]; first | rfl | simp [bne])) ?_
      refine W.reach (D := []) (i + 1, _) ⟨rfl, rfl, rfl, rfl, rfl, rfl, rfl, trivial⟩ (by rw [hks]; first | exact .refl _ | (rw [List.map_append]; exact .refl _)) ⟨by show i + 1 ≤ _; omega, by show _ - (i + 1) < _; omega⟩
  · have he : rs.take i = rs := List.take_of_length_le (by omega)
    rw [he]
    refine W.freezeA (M1 := []) (M2 := []) (D := []) (v := v) (L' := [(10, true, .sl 1 ((Rl.kn rs).map AV.str))]) (.refl _) ⟨⟨_, rfl, .one .hit⟩, trivial⟩ (FrzMs.refl _) ?_
    have hkl := Rl.kn_len rs
    have hall : (rs.all fun r => !(r.act == 3)) = true → ∀ r ∈ rs, r.act = 1 ∨ r.act = 2 := fun h r hr => by have h1 := List.all_eq_true.1 h r hr; have k := hrs.all r hr; have h2 : r.act ≠ 3 := (by simpa using h1); have := k.a1; have := k.a3; omega
    refine W.seq ?_
    refine W.seq ?_
    refine W.region ?_
    refine W.q (Ev.move (.t rfl)) rfl ?_
    refine W.q (Ev.move (.t rfl)) rfl ?_
    first | refine W.q (Ev.lensl (.t rfl) Try.underlying46) rfl ?_ | refine W.q (Ev.lenar (i := 0) (.t rfl) rfl Try.underlying46) rfl ?_ | refine W.q (Ev.lenar (i := 1) (.t rfl) rfl Try.underlying46) rfl ?_ | refine W.q (Ev.lenar (i := 2) (.t rfl) rfl Try.underlying46) rfl ?_ | refine W.q (Ev.lenar (i := 3) (.t rfl) rfl Try.underlying46) rfl ?_
    refine W.q (Ev.lti (.t rfl) (.t rfl)) rfl ?_
    refine W.nil ?_
    refine W.then ?_
    refine W.is (t := 29) (g := true) (av' := .lit (.bool false)) rfl (congrArg (fun b => AV.lit (.bool b)) (by exact decide_eq_false (by omega))) ?_
    refine W.condF (.t rfl) ?_
    refine W.exit ?_
    refine W.then_exit ?_
    refine W.then_exit ?_
    refine W.blk_hit ?_
    refine W.then ?_
    refine W.seq ?_
    refine W.region ?_
    refine W.q (Ev.move (.t rfl)) rfl ?_
    refine W.q (Ev.move (.t rfl)) rfl ?_
    refine W.gyes rfl rfl ?_
    refine W.q (Ev.move (.t rfl)) rfl ?_
    refine W.gyes rfl rfl ?_
    refine W.q (Ev.move (.t rfl)) rfl ?_
    refine W.gyes rfl rfl ?_
    refine W.callp (WOnlyN.c_only (Rl.kn rs) (by omega) X (by omega)) ⟨(.t rfl), (.t rfl), trivial⟩ rfl ?_
    refine W.q (Ev.and (.t rfl) ⟨_, _, rfl, rfl, by first | (simp; done) | (intro hg_ hp_; simp [hp_]; done) | (simp <;> omega; done) | (simp_all; done) | grind⟩) rfl ?_
    refine W.is (t := 60) (g := true) (av' := .bool true) rfl (congrArg AV.bool (by rw [hX2]; rfl)) ?_
    refine W.q (Ev.move (.t rfl)) rfl ?_
    refine W.gyes rfl rfl ?_
    refine W.q (Ev.move (.t rfl)) rfl ?_
    refine W.gyes rfl rfl ?_
    refine W.callp (WApart.c_apart X (by omega)) ⟨(.t rfl), trivial⟩ rfl ?_
    refine W.q (Ev.and (.t rfl) ⟨_, _, rfl, rfl, by first | (simp; done) | (intro hg_ hp_; simp [hp_]; done) | (simp <;> omega; done) | (simp_all; done) | grind⟩) rfl ?_
    refine W.is (t := 64) (g := true) (av' := .bool true) rfl (congrArg AV.bool (by rw [hX1]; rfl)) ?_
    refine W.q (Ev.move (.t rfl)) rfl ?_
    refine W.gyes rfl rfl ?_
    refine W.q (Ev.move (.t rfl)) rfl ?_
    refine W.gyes rfl rfl ?_
    refine W.q (Ev.not (.t rfl)) rfl ?_
    refine W.gyes rfl rfl ?_
    refine W.q (Ev.move (.t rfl)) rfl ?_
    refine W.qgF rfl rfl (Ev.move (.t rfl)) rfl ?_
    refine W.callgF (Min := []) (caps := []) (avs := [_]) rfl rfl (fun hg => WWords.c_words X (by omega) (by omega)) (fun hg => .f) (fun hg => ⟨(.i rfl (fun _ => hg)), trivial⟩) rfl (.refl _) rfl ?_
    refine W.qgF rfl rfl (Ev.move (.t rfl)) rfl ?_
    refine W.callgF (Min := []) (caps := []) (avs := [_]) rfl rfl (fun hg => WWords.c_words ns (by omega) (by omega)) (fun hg => .f) (fun hg => ⟨(.i rfl (fun _ => hg)), trivial⟩) rfl (.refl _) rfl ?_
    refine W.qgF rfl rfl (Ev.eqs (.c rfl) (.c rfl)) rfl ?_
    refine W.gyes rfl rfl ?_
    refine W.q (Ev.or (.t rfl) ⟨_, _, rfl, rfl, by first | (simp; done) | (intro hg_ hp_; simp [hp_]; done) | (simp <;> omega; done) | (simp_all; done) | grind⟩) rfl ?_
    refine W.q (Ev.and (.t rfl) ⟨_, _, rfl, rfl, by first | (simp; done) | (intro hg_ hp_; simp [hp_]; done) | (simp <;> omega; done) | (simp_all; done) | grind⟩) rfl ?_
    refine W.is (t := 75) (g := true) (av' := .bool true) rfl (congrArg AV.bool (by cases h : (rs.all fun r => !(r.act == 3)); (simp); (rw [hX4 (hall h)]; simp))) ?_
    refine W.q (Ev.move (.t rfl)) rfl ?_
    refine W.gyes rfl rfl ?_
    refine W.q (Ev.move (.t rfl)) rfl ?_
    refine W.gyes rfl rfl ?_
    refine W.callp (WWords.c_words X (by omega) (by omega)) ⟨(.t rfl), trivial⟩ rfl ?_
    refine W.gyes rfl rfl ?_
    refine W.q (Ev.lens (.t rfl) Try.underlying9) rfl ?_
    refine W.gyes rfl rfl ?_
    refine W.q (Ev.move (.t rfl)) rfl ?_
    refine W.gyes rfl rfl ?_
    refine W.callp (WWords.c_words ns (by omega) (by omega)) ⟨(.t rfl), trivial⟩ rfl ?_
    refine W.gyes rfl rfl ?_
    refine W.q (Ev.lens (.t rfl) Try.underlying9) rfl ?_
    refine W.gyes rfl rfl ?_
    refine W.q (Ev.lei (.t rfl) (.t rfl)) rfl ?_
    refine W.q (Ev.and (.t rfl) ⟨_, _, rfl, rfl, by first | (simp; done) | (intro hg_ hp_; simp [hp_]; done) | (simp <;> omega; done) | (simp_all; done) | grind⟩) rfl ?_
    refine W.q (Ev.assign (.t rfl)) rfl ?_
    refine W.nil ?_
    refine W.then ?_
    refine W.ret ?_
    refine W.retn (M' := []) (rs := [.tmp 4]) (avs := [_]) Try.results7 ⟨rfl, trivial⟩ rfl (.refl _) ?_
    exact ⟨congrArg AV.bool (by simp; omega), rfl⟩

end LRulesOnly

end Go.Proofs.Yteepllfbnoaiaaa
