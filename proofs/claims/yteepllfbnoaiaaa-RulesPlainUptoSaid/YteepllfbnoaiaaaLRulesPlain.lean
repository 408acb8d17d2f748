/-
  The law RulesPlain, walked.
-/
import Derived.Test.YteepllfbnoaiaaaWApply
import Derived.Test.YteepllfbnoaiaaaWWords
import Derived.Test.YteepllfbnoaiaaaWNodes
import Derived.Test.YteepllfbnoaiaaaPick
set_option linter.unusedVariables false
set_option linter.unusedSimpArgs false
set_option maxRecDepth 100000
namespace Go.Proofs.Yteepllfbnoaiaaa
open Go.Vl

namespace LRulesPlain
theorem ty3 : Ty Try.prog 3 1 8 (.int .i64 0) := Ty.of (by kernel_rfl)
theorem ty9 : Ty Try.prog 9 1 16 (.string ⟨#[]⟩) := Ty.of (by kernel_rfl)
theorem ty35 : Ty Try.prog 35 4 80 (.agg #[.string ⟨#[]⟩, .slice none 0 0, .string ⟨#[]⟩, .slice none 0 0]) := Ty.of (by kernel_rfl)
theorem ty51 : Ty Try.prog 51 3 40 (.agg #[.string ⟨#[]⟩, .int .i64 0, .string ⟨#[]⟩]) := Ty.of (by kernel_rfl)
theorem ag9 : IsAgg Try.prog 9 false := ⟨_, Try.underlying9, rfl⟩
theorem fa35_0 : FieldAt Try.prog 35 0 0 1 false := ⟨_, _, Try.underlying35, rfl, rfl, ty9.size, ag9, by decide⟩
theorem fa35_2 : FieldAt Try.prog 35 2 2 1 false := ⟨_, _, Try.underlying35, rfl, rfl, ty9.size, ag9, by decide⟩
theorem st51 : StructAt Try.prog 51 [(0, 1), (1, 1), (2, 1)] := ⟨_, Try.underlying51, rfl, ty9.size, rfl, ty3.size, rfl, ty9.size, trivial⟩
theorem ni46 : NotInt Try.prog 46 := .inl ⟨_, Try.underlying46⟩
theorem c_RulesPlain (l : List Int) (hl : l.length ≤ 1048576) : FnP Try.prog 10 [.sl 1 (l.map AV.int)] (.bool true) :=  by
  refine FnC.mk Try.func10 (by kernel_rfl) rfl Try.ntmps10 rfl (fun w0 F => ?_)
  refine W.seq ?_
  refine W.region ?_
  refine W.q (Ev.assign .k) rfl ?_
  refine W.nil ?_
  refine W.then ?_
  refine W.seq ?_
  refine W.region ?_
  refine W.q (Ev.move (.t rfl)) rfl ?_
  refine W.call (WNodes.c_Nodes l hl 4 6 (by decide) (by decide) (by decide)) ⟨(.t rfl), .k, .k, trivial⟩ (.refl _) rfl ?_
  rintro _ _ ⟨v17, ns, rest, rfl, rfl, hn1, hn2, hn3, hn4⟩
  have hns := Nd.szs_len ns
  refine W.q (Ev.move (.t rfl)) rfl ?_
  refine W.q (Ev.extract (.t rfl) rfl) rfl ?_
  refine W.q (Ev.extract (.t rfl) rfl) rfl ?_
  refine W.q (Ev.assign (.t rfl)) rfl ?_
  refine W.q (Ev.assign (.t rfl)) rfl ?_
  refine W.nil ?_
  refine W.freezeA (M1 := []) (M2 := []) (D := []) (v := v17) (L' := [(3, true, .sl 4 (ns.map Nd.av))]) (.refl _) ⟨⟨_, rfl, .one .hit⟩, trivial⟩ (FrzMs.refl _) ?_
  obtain ⟨_, hpl, _, htz⟩ := Nd.drs_facts _ _ _ ns (Nat.le_refl _) hn4
  have hnm := Nd.drs_names _ ns _ hn4
  obtain ⟨hX1, hX2⟩ := Rl.run_all [] [] (by simp) _ ns [] (Nat.le_refl _) rfl rfl
  obtain ⟨_, hX4⟩ := Rl.run_wds [] [] (by simp) _ ns [] (Nat.le_refl _) hpl rfl rfl
  replace hX4 := hX4 (by simp)
  have hlv : ∀ r ∈ Rl.lv Rl.nm8, r.act = 1 → (r.to = [] → False) ∧ r.to ∈ ([] : List (List UInt8)) := fun r hr ha => by obtain ⟨s, _, rfl⟩ := List.mem_map.1 hr; cases ha
  obtain ⟨hY1, hY2⟩ := Rl.run_all (Rl.lv Rl.nm8) [] hlv _ ns [] (Nat.le_refl _) rfl rfl
  have hY4 := Rl.run_outer (Rl.lv Rl.nm8) [] hlv ns [] hpl (fun d hd hn => by have h := Rl.lv_act d.name (hnm d hd hn); rw [h]; decide) rfl rfl
  have hX5 := Rl.run_szs [] _ ns [] (Nat.le_refl _)
  have hX6 := Rl.run_tszs [] _ ns [] (Nat.le_refl _)
  have hY5 := Rl.run_szs (Rl.lv Rl.nm8) _ ns [] (Nat.le_refl _)
  have hY6 := Rl.run_tszs (Rl.lv Rl.nm8) _ ns [] (Nat.le_refl _)
  have z1 : Nd.szs ([] : List Nd) = 0 := rfl
  have z2 : Nd.tszs ([] : List Nd) = 0 := rfl
  have z3 : (Nd.wds ([] : List Nd)) = [] := rfl
  have hcX := WApply.c_ruledBy [] Rl.oks_nil ns (by omega) (by omega)
  have hcY := WApply.c_ruledBy (Rl.lv Rl.nm8) Rl.lv_oks ns (by omega) (by omega)
  rw [z3, List.nil_append] at hX4 hY4
  generalize Rl.run [] [] ns = X at *
  generalize Rl.run (Rl.lv Rl.nm8) [] ns = Y at *
  have hXo := Rl.only_one hX1 hX2
  have hYo := Rl.only_one hY1 hY2
  have hYl : (Y.map Nd.av).length ≤ 1 := by rcases hYo with rfl | ⟨t, _, rfl⟩ <;> simp
  have hot := Rl.outer_len ns
  have hnl : (ns.map Nd.av).length = ns.length := List.length_map ..
  refine W.then ?_
  refine W.seq ?_
  refine W.region ?_
  refine W.q (Ev.move (.t rfl)) rfl ?_
  refine W.callp (hcX) ⟨(by first | exact .k | exact .kn), (.t rfl), trivial⟩ rfl ?_
  refine W.q (Ev.move (.t rfl)) rfl ?_
  refine W.q (Ev.extract (.t rfl) rfl) rfl ?_
  refine W.q (Ev.extract (.t rfl) rfl) rfl ?_
  refine W.q (Ev.assign (.t rfl)) rfl ?_
  refine W.q (Ev.assign (.t rfl)) rfl ?_
  refine W.nil ?_
  refine W.then ?_
  refine W.seq ?_
  refine W.region ?_
  refine W.q (Ev.move (.t rfl)) rfl ?_
  refine W.callp (WWords.c_words ns (by omega) (by omega)) ⟨(.t rfl), trivial⟩ rfl ?_
  refine W.q (Ev.assign (.t rfl)) rfl ?_
  refine W.nil ?_
  refine W.then ?_
  refine W.seq ?_
  refine W.region ?_
  refine W.q (Ev.assign .k) rfl ?_
  refine W.nil ?_
  refine W.then ?_
  refine W.seq ?_
  refine W.region ?_
  refine W.bs (es := [_, _, _, _, _, _, _, _]) Try.underlying40 ty9 ⟨rfl, .k, rfl, rfl, rfl, .k, rfl, rfl, rfl, .k, rfl, rfl, rfl, .k, rfl, rfl, rfl, .k, rfl, rfl, rfl, .k, rfl, rfl, rfl, .k, rfl, rfl, rfl, .k, rfl, rfl, trivial⟩ rfl (by decide) rfl rfl ?_
  refine W.q (Ev.assign (.t rfl)) rfl ?_
  refine W.nil ?_
  refine W.then ?_
  refine W.seq ?_
  refine W.seq ?_
  refine W.region ?_
  refine W.q (Ev.assign .k) rfl ?_
  refine W.nil ?_
  refine W.then ?_
  refine W.block ?_
  refine W.own_nil 51 3 ?_
  refine W.loop (D := []) (ι := Nat × Value) (fun z => [(10, true, .int (z.1 : Int)), (9, true, .sl 1 (Rl.nm8.map AV.str)), (8, true, .lit z.2), (3, true, .sl 4 (ns.map Nd.av)), (5, true, .sl 4 (X.map Nd.av)), (6, true, .bool true), (7, true, .str (Nd.wds ns))]) (fun z => [.arr z.2 51 3 ((Rl.lv (Rl.nm8.take z.1)).map rav)]) (fun z => z.1 ≤ Rl.nm8.length) (fun z => Rl.nm8.length - z.1) (0, .slice none 0 0) ⟨rfl, rfl, rfl, rfl, rfl, rfl, rfl, trivial⟩ (.refl _) (Nat.zero_le _) ?_
  rintro ⟨i, v⟩ hi
  dsimp only at hi ⊢
  have hn8 : (Rl.nm8.map AV.str).length = 8 := rfl
  have hn8b : Rl.nm8.length = 8 := rfl
  rcases (show i < Rl.nm8.length ∨ i = Rl.nm8.length from by omega) with hlt | hend
  · have hgs := getD_mapG AV.str [] Rl.nm8 i hlt
    have htk := take_getDG [] Rl.nm8 i hlt
    generalize Rl.nm8.getD i [] = s at hgs htk
    have hlvl : (Rl.nm8.take i).length ≤ 8 := by rw [List.length_take]; omega
    refine W.seq ?_
    refine W.seq ?_
    refine W.region ?_
    refine W.q (Ev.move (.t rfl)) rfl ?_
    refine W.q (Ev.move (.t rfl)) rfl ?_
    first | refine W.q (Ev.lensl (.t rfl) Try.underlying40) rfl ?_ | refine W.q (Ev.lenar (i := 0) (.t rfl) rfl Try.underlying40) rfl ?_ | refine W.q (Ev.lenar (i := 1) (.t rfl) rfl Try.underlying40) rfl ?_ | refine W.q (Ev.lenar (i := 2) (.t rfl) rfl Try.underlying40) rfl ?_ | refine W.q (Ev.lenar (i := 3) (.t rfl) rfl Try.underlying40) rfl ?_
    refine W.q (Ev.lti (.t rfl) (.t rfl)) rfl ?_
    refine W.nil ?_
    refine W.then ?_
    refine W.is (t := 31) (g := true) (av' := .lit (.bool true)) rfl (congrArg (fun b => AV.lit (.bool b)) (by exact decide_eq_true (by omega))) ?_
    refine W.condT (.t rfl) ?_
    refine W.skip ?_
    refine W.then ?_
    refine W.seq ?_
    refine W.block ?_
    refine W.region ?_
    refine W.q (Ev.move (.t rfl)) rfl ?_
    refine W.q (Ev.move (.t rfl)) rfl ?_
    refine W.q (Ev.move (.t rfl)) rfl ?_
    refine W.q (Ev.at (E := 9) (.t rfl) (.t rfl) Try.underlying40 ty9 (fun _ => ⟨by omega, hgs⟩) rfl rfl) rfl ?_
    first | refine W.q (Ev.lde1 (.t rfl) ag9) rfl ?_ | refine W.q (Ev.ldb1 0 (.t rfl) rfl ag9 rfl) rfl ?_ | refine W.q (Ev.ldb1 1 (.t rfl) rfl ag9 rfl) rfl ?_ | refine W.q (Ev.ldb1 2 (.t rfl) rfl ag9 rfl) rfl ?_ | refine W.q (Ev.ldb1 3 (.t rfl) rfl ag9 rfl) rfl ?_
    refine W.q (Ev.build ty51 st51 rfl (fun hg => ⟨_, _, _, rfl, (.t rfl), rfl, rfl, rfl, _, _, _, rfl, .k, rfl, rfl, rfl, rfl⟩)) rfl ?_
    refine W.bs (es := [_]) Try.underlying46 ty51 ⟨rfl, (.t rfl), rfl, rfl, trivial⟩ rfl (by decide) rfl rfl ?_
    first | refine W.app 0 (.t rfl) rfl (.sl (.t rfl) (by first | (simp [AV.okc, shV]; done) | (intro e he; rw [List.mem_singleton.1 he]; rfl))) Try.underlying46 ni46 ty51 rfl rfl (by simp only [List.length_map, List.length_cons, List.length_nil]; omega) rfl ?_ | refine W.app 1 (.t rfl) rfl (.sl (.t rfl) (by first | (simp [AV.okc, shV]; done) | (intro e he; rw [List.mem_singleton.1 he]; rfl))) Try.underlying46 ni46 ty51 rfl rfl (by simp only [List.length_map, List.length_cons, List.length_nil]; omega) rfl ?_ | refine W.app 2 (.t rfl) rfl (.sl (.t rfl) (by first | (simp [AV.okc, shV]; done) | (intro e he; rw [List.mem_singleton.1 he]; rfl))) Try.underlying46 ni46 ty51 rfl rfl (by simp only [List.length_map, List.length_cons, List.length_nil]; omega) rfl ?_ | refine W.app 3 (.t rfl) rfl (.sl (.t rfl) (by first | (simp [AV.okc, shV]; done) | (intro e he; rw [List.mem_singleton.1 he]; rfl))) Try.underlying46 ni46 ty51 rfl rfl (by simp only [List.length_map, List.length_cons, List.length_nil]; omega) rfl ?_ | refine W.app 0 (.t rfl) rfl (.arr 0 (.t rfl) rfl (by first | (simp [AV.okc, shV]; done) | (intro e he; rw [List.mem_singleton.1 he]; rfl))) Try.underlying46 ni46 ty51 rfl rfl (by simp only [List.length_map, List.length_cons, List.length_nil]; omega) rfl ?_ | refine W.app 0 (.t rfl) rfl (.arr 1 (.t rfl) rfl (by first | (simp [AV.okc, shV]; done) | (intro e he; rw [List.mem_singleton.1 he]; rfl))) Try.underlying46 ni46 ty51 rfl rfl (by simp only [List.length_map, List.length_cons, List.length_nil]; omega) rfl ?_ | refine W.app 0 (.t rfl) rfl (.arr 2 (.t rfl) rfl (by first | (simp [AV.okc, shV]; done) | (intro e he; rw [List.mem_singleton.1 he]; rfl))) Try.underlying46 ni46 ty51 rfl rfl (by simp only [List.length_map, List.length_cons, List.length_nil]; omega) rfl ?_ | refine W.app 0 (.t rfl) rfl (.arr 3 (.t rfl) rfl (by first | (simp [AV.okc, shV]; done) | (intro e he; rw [List.mem_singleton.1 he]; rfl))) Try.underlying46 ni46 ty51 rfl rfl (by simp only [List.length_map, List.length_cons, List.length_nil]; omega) rfl ?_ | refine W.app 1 (.t rfl) rfl (.arr 0 (.t rfl) rfl (by first | (simp [AV.okc, shV]; done) | (intro e he; rw [List.mem_singleton.1 he]; rfl))) Try.underlying46 ni46 ty51 rfl rfl (by simp only [List.length_map, List.length_cons, List.length_nil]; omega) rfl ?_ | refine W.app 1 (.t rfl) rfl (.arr 1 (.t rfl) rfl (by first | (simp [AV.okc, shV]; done) | (intro e he; rw [List.mem_singleton.1 he]; rfl))) Try.underlying46 ni46 ty51 rfl rfl (by simp only [List.length_map, List.length_cons, List.length_nil]; omega) rfl ?_ | refine W.app 1 (.t rfl) rfl (.arr 2 (.t rfl) rfl (by first | (simp [AV.okc, shV]; done) | (intro e he; rw [List.mem_singleton.1 he]; rfl))) Try.underlying46 ni46 ty51 rfl rfl (by simp only [List.length_map, List.length_cons, List.length_nil]; omega) rfl ?_ | refine W.app 1 (.t rfl) rfl (.arr 3 (.t rfl) rfl (by first | (simp [AV.okc, shV]; done) | (intro e he; rw [List.mem_singleton.1 he]; rfl))) Try.underlying46 ni46 ty51 rfl rfl (by simp only [List.length_map, List.length_cons, List.length_nil]; omega) rfl ?_ | refine W.app 2 (.t rfl) rfl (.arr 0 (.t rfl) rfl (by first | (simp [AV.okc, shV]; done) | (intro e he; rw [List.mem_singleton.1 he]; rfl))) Try.underlying46 ni46 ty51 rfl rfl (by simp only [List.length_map, List.length_cons, List.length_nil]; omega) rfl ?_ | refine W.app 2 (.t rfl) rfl (.arr 1 (.t rfl) rfl (by first | (simp [AV.okc, shV]; done) | (intro e he; rw [List.mem_singleton.1 he]; rfl))) Try.underlying46 ni46 ty51 rfl rfl (by simp only [List.length_map, List.length_cons, List.length_nil]; omega) rfl ?_ | refine W.app 2 (.t rfl) rfl (.arr 2 (.t rfl) rfl (by first | (simp [AV.okc, shV]; done) | (intro e he; rw [List.mem_singleton.1 he]; rfl))) Try.underlying46 ni46 ty51 rfl rfl (by simp only [List.length_map, List.length_cons, List.length_nil]; omega) rfl ?_ | refine W.app 2 (.t rfl) rfl (.arr 3 (.t rfl) rfl (by first | (simp [AV.okc, shV]; done) | (intro e he; rw [List.mem_singleton.1 he]; rfl))) Try.underlying46 ni46 ty51 rfl rfl (by simp only [List.length_map, List.length_cons, List.length_nil]; omega) rfl ?_ | refine W.app 3 (.t rfl) rfl (.arr 0 (.t rfl) rfl (by first | (simp [AV.okc, shV]; done) | (intro e he; rw [List.mem_singleton.1 he]; rfl))) Try.underlying46 ni46 ty51 rfl rfl (by simp only [List.length_map, List.length_cons, List.length_nil]; omega) rfl ?_ | refine W.app 3 (.t rfl) rfl (.arr 1 (.t rfl) rfl (by first | (simp [AV.okc, shV]; done) | (intro e he; rw [List.mem_singleton.1 he]; rfl))) Try.underlying46 ni46 ty51 rfl rfl (by simp only [List.length_map, List.length_cons, List.length_nil]; omega) rfl ?_ | refine W.app 3 (.t rfl) rfl (.arr 2 (.t rfl) rfl (by first | (simp [AV.okc, shV]; done) | (intro e he; rw [List.mem_singleton.1 he]; rfl))) Try.underlying46 ni46 ty51 rfl rfl (by simp only [List.length_map, List.length_cons, List.length_nil]; omega) rfl ?_ | refine W.app 3 (.t rfl) rfl (.arr 3 (.t rfl) rfl (by first | (simp [AV.okc, shV]; done) | (intro e he; rw [List.mem_singleton.1 he]; rfl))) Try.underlying46 ni46 ty51 rfl rfl (by simp only [List.length_map, List.length_cons, List.length_nil]; omega) rfl ?_
    intro v41
    refine W.q (Ev.assign (.t rfl)) rfl ?_
    refine W.nil ?_
    refine W.blk_normal ?_
    refine W.then ?_
    refine W.region ?_
    refine W.q (Ev.move (.t rfl)) rfl ?_
    first | refine W.q (Ev.add (.t rfl) .k (fun _ => by omega)) rfl ?_ | refine W.q (Ev.addw (.t rfl) .k) rfl ?_
    refine W.q (Ev.assign (.t rfl)) rfl ?_
    refine W.nil ?_
    refine W.then ?_
    refine W.reach (D := []) (i + 1, v41) ⟨rfl, rfl, rfl, rfl, rfl, rfl, rfl, trivial⟩ (by rw [htk, show Rl.lv (Rl.nm8.take i ++ [s]) = Rl.lv (Rl.nm8.take i) ++ [⟨s, 3, []⟩] from List.map_append .., List.map_append]; exact .refl _) ⟨by show i + 1 ≤ _; omega, by show _ - (i + 1) < _; omega⟩
  · have he : Rl.nm8.take i = Rl.nm8 := List.take_of_length_le (by omega)
    rw [he]
    refine W.freezeA (M1 := []) (M2 := []) (D := []) (v := v) (L' := [(8, true, .sl 3 ((Rl.lv Rl.nm8).map rav))]) (.refl _) ⟨⟨_, rfl, .one .hit⟩, trivial⟩ (FrzMs.refl _) ?_
    refine W.seq ?_
    refine W.seq ?_
    refine W.region ?_
    refine W.q (Ev.move (.t rfl)) rfl ?_
    refine W.q (Ev.move (.t rfl)) rfl ?_
    first | refine W.q (Ev.lensl (.t rfl) Try.underlying40) rfl ?_ | refine W.q (Ev.lenar (i := 0) (.t rfl) rfl Try.underlying40) rfl ?_ | refine W.q (Ev.lenar (i := 1) (.t rfl) rfl Try.underlying40) rfl ?_ | refine W.q (Ev.lenar (i := 2) (.t rfl) rfl Try.underlying40) rfl ?_ | refine W.q (Ev.lenar (i := 3) (.t rfl) rfl Try.underlying40) rfl ?_
    refine W.q (Ev.lti (.t rfl) (.t rfl)) rfl ?_
    refine W.nil ?_
    refine W.then ?_
    refine W.is (t := 31) (g := true) (av' := .lit (.bool false)) rfl (congrArg (fun b => AV.lit (.bool b)) (by exact decide_eq_false (by omega))) ?_
    refine W.condF (.t rfl) ?_
    refine W.exit ?_
    refine W.then_exit ?_
    refine W.then_exit ?_
    refine W.blk_hit ?_
    refine W.then ?_
    refine W.seq ?_
    refine W.region ?_
    refine W.q (Ev.move (.t rfl)) rfl ?_
    refine W.q (Ev.move (.t rfl)) rfl ?_
    refine W.callp (hcY) ⟨(.t rfl), (.t rfl), trivial⟩ rfl ?_
    refine W.q (Ev.move (.t rfl)) rfl ?_
    refine W.q (Ev.extract (.t rfl) rfl) rfl ?_
    refine W.q (Ev.extract (.t rfl) rfl) rfl ?_
    refine W.q (Ev.assign (.t rfl)) rfl ?_
    refine W.q (Ev.assign (.t rfl)) rfl ?_
    refine W.nil ?_
    refine W.then ?_
    refine W.seq ?_
    refine W.region ?_
    refine W.q (Ev.assign .k) rfl ?_
    refine W.nil ?_
    refine W.then ?_
    refine W.seq ?_
    refine W.seq ?_
    refine W.region ?_
    refine W.q (Ev.assign .k) rfl ?_
    refine W.nil ?_
    refine W.then ?_
    refine W.block ?_
    refine W.loop (D := []) (ι := Nat) (fun i => [(14, true, .int (i : Int)), (13, true, .str (Rl.outer (ns.take i))), (3, true, .sl 4 (ns.map Nd.av)), (5, true, .sl 4 (X.map Nd.av)), (6, true, .bool true), (7, true, .str (Nd.wds ns)), (11, true, .sl 4 (Y.map Nd.av)), (12, true, .bool true)]) (fun _ => []) (fun i => i ≤ ns.length) (fun i => ns.length - i) 0 ⟨rfl, rfl, rfl, rfl, rfl, rfl, rfl, rfl, trivial⟩ (.refl _) (Nat.zero_le _) ?_
    intro i hi
    dsimp only at hi ⊢
    rcases (show i < ns.length ∨ i = ns.length from by omega) with hlt | hend
    · have hga := Nd.at_av ns i hlt
      have hou := Rl.outer_snoc ns i hlt
      have hou2 := Rl.outer_len (ns.take i)
      have htt := Nd.tszs_take ns i
      have htm := Nd.at_tsz ns i hlt
      generalize ns.getD i Nd.dflt = d at hga hou htm
      have htd := Nd.tsz_eq d
      refine W.seq ?_
      refine W.seq ?_
      refine W.region ?_
      refine W.q (Ev.move (.t rfl)) rfl ?_
      refine W.q (Ev.move (.t rfl)) rfl ?_
      first | refine W.q (Ev.lensl (.t rfl) Try.underlying25) rfl ?_ | refine W.q (Ev.lenar (i := 0) (.t rfl) rfl Try.underlying25) rfl ?_ | refine W.q (Ev.lenar (i := 1) (.t rfl) rfl Try.underlying25) rfl ?_ | refine W.q (Ev.lenar (i := 2) (.t rfl) rfl Try.underlying25) rfl ?_ | refine W.q (Ev.lenar (i := 3) (.t rfl) rfl Try.underlying25) rfl ?_
      refine W.q (Ev.lti (.t rfl) (.t rfl)) rfl ?_
      refine W.nil ?_
      refine W.then ?_
      refine W.is (t := 51) (g := true) (av' := .lit (.bool true)) rfl (congrArg (fun b => AV.lit (.bool b)) (by exact decide_eq_true (by omega))) ?_
      refine W.condT (.t rfl) ?_
      refine W.skip ?_
      refine W.then ?_
      refine W.seq ?_
      refine W.block ?_
      refine W.region ?_
      refine W.q (Ev.move (.t rfl)) rfl ?_
      refine W.q (Ev.move (.t rfl)) rfl ?_
      refine W.q (Ev.move (.t rfl)) rfl ?_
      refine W.q (Ev.at (E := 35) (.t rfl) (.t rfl) Try.underlying25 ty35 (fun _ => ⟨by omega, hga⟩) rfl rfl) rfl ?_
      first | refine W.q (Ev.fae (.t rfl) fa35_2 rfl) rfl ?_ | refine W.q (Ev.fab (.t rfl) fa35_2) rfl ?_ | refine W.q (Ev.faa (.t rfl) fa35_2) rfl ?_
      first | refine W.q (Ev.lde1 (.t rfl) ag9) rfl ?_ | refine W.q (Ev.ldb1 0 (.t rfl) rfl ag9 rfl) rfl ?_ | refine W.q (Ev.ldb1 1 (.t rfl) rfl ag9 rfl) rfl ?_ | refine W.q (Ev.ldb1 2 (.t rfl) rfl ag9 rfl) rfl ?_ | refine W.q (Ev.ldb1 3 (.t rfl) rfl ag9 rfl) rfl ?_
      refine W.q (Ev.cat (.t rfl) (.t rfl) (fun _ => by first | omega | (simp only [List.length_append]; omega) | (simp [-List.length_flatMap]; omega) | (simp; omega))) rfl ?_
      refine W.q (Ev.assign (.t rfl)) rfl ?_
      refine W.nil ?_
      refine W.blk_normal ?_
      refine W.then ?_
      refine W.region ?_
      refine W.q (Ev.move (.t rfl)) rfl ?_
      first | refine W.q (Ev.add (.t rfl) .k (fun _ => by omega)) rfl ?_ | refine W.q (Ev.addw (.t rfl) .k) rfl ?_
      refine W.q (Ev.assign (.t rfl)) rfl ?_
      refine W.nil ?_
      refine W.then ?_
      refine W.is (t := 13) (g := true) (av' := .str (Rl.outer (ns.take (i + 1)))) rfl (congrArg AV.str hou.symm) ?_
      refine W.reach (D := []) (i + 1) ⟨rfl, rfl, rfl, rfl, rfl, rfl, rfl, rfl, trivial⟩ (.refl _) ⟨by show i + 1 ≤ _; omega, by show _ - (i + 1) < _; omega⟩
    · have he : ns.take i = ns := List.take_of_length_le (by omega)
      rw [he]
      refine W.seq ?_
      refine W.seq ?_
      refine W.region ?_
      refine W.q (Ev.move (.t rfl)) rfl ?_
      refine W.q (Ev.move (.t rfl)) rfl ?_
      first | refine W.q (Ev.lensl (.t rfl) Try.underlying25) rfl ?_ | refine W.q (Ev.lenar (i := 0) (.t rfl) rfl Try.underlying25) rfl ?_ | refine W.q (Ev.lenar (i := 1) (.t rfl) rfl Try.underlying25) rfl ?_ | refine W.q (Ev.lenar (i := 2) (.t rfl) rfl Try.underlying25) rfl ?_ | refine W.q (Ev.lenar (i := 3) (.t rfl) rfl Try.underlying25) rfl ?_
      refine W.q (Ev.lti (.t rfl) (.t rfl)) rfl ?_
      refine W.nil ?_
      refine W.then ?_
      refine W.is (t := 51) (g := true) (av' := .lit (.bool false)) rfl (congrArg (fun b => AV.lit (.bool b)) (by exact decide_eq_false (by omega))) ?_
      refine W.condF (.t rfl) ?_
      refine W.exit ?_
      refine W.then_exit ?_
      refine W.then_exit ?_
      refine W.blk_hit ?_
      refine W.then ?_
      refine W.seq ?_
      refine W.seq ?_
      refine W.region ?_
      refine W.q (Ev.move (.t rfl)) rfl ?_
      refine W.q (Ev.not (.t rfl)) rfl ?_
      refine W.q (Ev.move (.t rfl)) rfl ?_
      refine W.gyes rfl rfl ?_
      refine W.q (Ev.move (.t rfl)) rfl ?_
      refine W.gyes rfl rfl ?_
      refine W.q (Ev.not (.t rfl)) rfl ?_
      refine W.q (Ev.or (.t rfl) ⟨_, _, rfl, rfl, by first | (simp; done) | (intro hg_ hp_; simp [hp_]; done) | (simp <;> omega; done) | (simp_all; done) | grind⟩) rfl ?_
      refine W.q (Ev.move (.t rfl)) rfl ?_
      refine W.gyes rfl rfl ?_
      refine W.q (Ev.move (.t rfl)) rfl ?_
      refine W.gyes rfl rfl ?_
      refine W.callp (WWords.c_words Y (by omega) (by omega)) ⟨(.t rfl), trivial⟩ rfl ?_
      refine W.gyes rfl rfl ?_
      refine W.q (Ev.move (.t rfl)) rfl ?_
      refine W.gyes rfl rfl ?_
      refine W.q (Ev.nes (.t rfl) (.t rfl)) rfl ?_
      refine W.q (Ev.or (.t rfl) ⟨_, _, rfl, rfl, by first | (simp; done) | (intro hg_ hp_; simp [hp_]; done) | (simp <;> omega; done) | (simp_all; done) | grind⟩) rfl ?_
      refine W.q (Ev.move (.t rfl)) rfl ?_
      refine W.is (t := 73) (g := true) (av' := .bool false) rfl (congrArg AV.bool (by rw [hY4]; simp)) ?_
      refine W.gyes rfl rfl ?_
      refine W.q (Ev.move (.t rfl)) rfl ?_
      refine W.gyes rfl rfl ?_
      first | refine W.q (Ev.lensl (.t rfl) Try.underlying25) rfl ?_ | refine W.q (Ev.lenar (i := 0) (.t rfl) rfl Try.underlying25) rfl ?_ | refine W.q (Ev.lenar (i := 1) (.t rfl) rfl Try.underlying25) rfl ?_ | refine W.q (Ev.lenar (i := 2) (.t rfl) rfl Try.underlying25) rfl ?_ | refine W.q (Ev.lenar (i := 3) (.t rfl) rfl Try.underlying25) rfl ?_
      refine W.gyes rfl rfl ?_
      refine W.q (Ev.gti (.t rfl) .k) rfl ?_
      refine W.q (Ev.or (.t rfl) ⟨_, _, rfl, rfl, by first | (simp; done) | (intro hg_ hp_; simp [hp_]; done) | (simp <;> omega; done) | (simp_all; done) | grind⟩) rfl ?_
      refine W.nil ?_
      refine W.then ?_
      refine W.is (t := 77) (g := true) (av' := .lit (.bool false)) rfl (congrArg (fun b => AV.lit (.bool b)) (by exact decide_eq_false (by omega))) ?_
      refine W.condF (.t rfl) ?_
      refine W.skip ?_
      refine W.then ?_
      refine W.seq ?_
      refine W.region ?_
      obtain ⟨x0, hx0, hfin⟩ := Rl.plain_end X (Nd.wds ns) hXo hX4
      refine W.q (Ev.move (.t rfl)) rfl ?_
      refine W.q (Ev.eqs (.t rfl) .k) rfl ?_
      refine W.q (Ev.move (.t rfl)) rfl ?_
      refine W.qgT rfl rfl (Ev.move (.t rfl)) rfl ?_
      first | refine W.qgT rfl rfl (Ev.lensl (.c rfl) Try.underlying25) rfl ?_ | refine W.qgT rfl rfl (Ev.lenar (i := 0) (.c rfl) rfl Try.underlying25) rfl ?_ | refine W.qgT rfl rfl (Ev.lenar (i := 1) (.c rfl) rfl Try.underlying25) rfl ?_ | refine W.qgT rfl rfl (Ev.lenar (i := 2) (.c rfl) rfl Try.underlying25) rfl ?_ | refine W.qgT rfl rfl (Ev.lenar (i := 3) (.c rfl) rfl Try.underlying25) rfl ?_
      refine W.qgT rfl rfl (Ev.eqi (.c rfl) .k) rfl ?_
      refine W.q (Ev.and (.t rfl) ⟨_, _, rfl, rfl, by first | (simp; done) | (intro hg_ hp_; simp [hp_]; done) | (simp <;> omega; done) | (simp_all; done) | grind⟩) rfl ?_
      refine W.q (Ev.move (.t rfl)) rfl ?_
      refine W.qgF rfl rfl (Ev.move (.t rfl)) rfl ?_
      first | refine W.qgF rfl rfl (Ev.lensl (.c rfl) Try.underlying25) rfl ?_ | refine W.qgF rfl rfl (Ev.lenar (i := 0) (.c rfl) rfl Try.underlying25) rfl ?_ | refine W.qgF rfl rfl (Ev.lenar (i := 1) (.c rfl) rfl Try.underlying25) rfl ?_ | refine W.qgF rfl rfl (Ev.lenar (i := 2) (.c rfl) rfl Try.underlying25) rfl ?_ | refine W.qgF rfl rfl (Ev.lenar (i := 3) (.c rfl) rfl Try.underlying25) rfl ?_
      refine W.qgF rfl rfl (Ev.eqi (.c rfl) .k) rfl ?_
      refine W.qgF rfl rfl (Ev.move (.c rfl)) rfl ?_
      refine W.qgT' rfl rfl (Ev.move (.t rfl)) rfl ?_
      refine W.qgT' rfl rfl (Ev.at (E := 35) (e := Nd.avx x0) (.c rfl) .k Try.underlying25 ty35 (fun hg => hx0 (by simp at hg ⊢; first | exact hg | exact hg.1 | exact hg.2 | exact hg.1.2 | exact hg.2.1 | omega | simp_all)) rfl rfl) rfl ?_
      first | refine W.qgT' rfl rfl (Ev.fae (.c rfl) fa35_0 rfl) rfl ?_ | refine W.qgT' rfl rfl (Ev.fab (.c rfl) fa35_0) rfl ?_ | refine W.qgT' rfl rfl (Ev.faa (.c rfl) fa35_0) rfl ?_
      first | refine W.qgT' rfl rfl (Ev.lde1 (.c rfl) ag9) rfl ?_ | refine W.qgT' rfl rfl (Ev.ldb1 0 (.c rfl) rfl ag9 rfl) rfl ?_ | refine W.qgT' rfl rfl (Ev.ldb1 1 (.c rfl) rfl ag9 rfl) rfl ?_ | refine W.qgT' rfl rfl (Ev.ldb1 2 (.c rfl) rfl ag9 rfl) rfl ?_ | refine W.qgT' rfl rfl (Ev.ldb1 3 (.c rfl) rfl ag9 rfl) rfl ?_
      refine W.qgT' rfl rfl (Ev.eqs (.c rfl) .k) rfl ?_
      refine W.qgF rfl rfl (Ev.and (.c rfl) ⟨_, _, rfl, rfl, by first | (simp; done) | (intro hg_ hp_; simp [hp_]; done) | (simp <;> omega; done) | (simp_all; done) | grind⟩) rfl ?_
      refine W.qgF rfl rfl (Ev.move (.c rfl)) rfl ?_
      refine W.qgT' rfl rfl (Ev.move (.t rfl)) rfl ?_
      refine W.qgT' rfl rfl (Ev.at (E := 35) (e := Nd.avx x0) (.c rfl) .k Try.underlying25 ty35 (fun hg => hx0 (by simp at hg ⊢; first | exact hg | exact hg.1 | exact hg.2 | exact hg.1.2 | exact hg.2.1 | omega | simp_all)) rfl rfl) rfl ?_
      first | refine W.qgT' rfl rfl (Ev.fae (.c rfl) fa35_2 rfl) rfl ?_ | refine W.qgT' rfl rfl (Ev.fab (.c rfl) fa35_2) rfl ?_ | refine W.qgT' rfl rfl (Ev.faa (.c rfl) fa35_2) rfl ?_
      first | refine W.qgT' rfl rfl (Ev.lde1 (.c rfl) ag9) rfl ?_ | refine W.qgT' rfl rfl (Ev.ldb1 0 (.c rfl) rfl ag9 rfl) rfl ?_ | refine W.qgT' rfl rfl (Ev.ldb1 1 (.c rfl) rfl ag9 rfl) rfl ?_ | refine W.qgT' rfl rfl (Ev.ldb1 2 (.c rfl) rfl ag9 rfl) rfl ?_ | refine W.qgT' rfl rfl (Ev.ldb1 3 (.c rfl) rfl ag9 rfl) rfl ?_
      refine W.qgT' rfl rfl (Ev.move (.t rfl)) rfl ?_
      refine W.qgT' rfl rfl (Ev.eqs (.c rfl) (.c rfl)) rfl ?_
      refine W.qgF rfl rfl (Ev.and (.c rfl) ⟨_, _, rfl, rfl, by first | (simp; done) | (intro hg_ hp_; simp [hp_]; done) | (simp <;> omega; done) | (simp_all; done) | grind⟩) rfl ?_
      refine W.q (Ev.or (.t rfl) ⟨_, _, rfl, rfl, by first | (simp; done) | (intro hg_ hp_; simp [hp_]; done) | (simp <;> omega; done) | (simp_all; done) | grind⟩) rfl ?_
      refine W.q (Ev.assign (.t rfl)) rfl ?_
      refine W.nil ?_
      refine W.then ?_
      refine W.ret ?_
      refine W.retn (M' := []) (rs := [.tmp 2]) (avs := [_]) Try.results10 ⟨rfl, trivial⟩ rfl (.refl _) ?_
      exact ⟨congrArg AV.bool (by rw [List.length_map]; exact hfin), rfl⟩

end LRulesPlain

end Go.Proofs.Yteepllfbnoaiaaa
