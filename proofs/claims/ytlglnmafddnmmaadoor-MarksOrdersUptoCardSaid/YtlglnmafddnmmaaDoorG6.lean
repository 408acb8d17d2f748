/-
  Merged: WMNorm WMNorms WMNests WMSure WMBy WApart Change.
-/
import Derived.Test.YtlglnmafddnmmaaDoorG5

section
set_option linter.unusedVariables false
set_option linter.unusedSimpArgs false
set_option maxRecDepth 100000
namespace Go.Proofs.YtlglnmafddnmmaaDoor
open Go.Vl

namespace WMNorm
theorem ty9 : Ty Tryd.prog 9 1 16 (.string ⟨#[]⟩) := Ty.of (by kernel_rfl)
theorem ty23 : Ty Tryd.prog 23 1 24 (.slice none 0 0) := Ty.of (by kernel_rfl)
theorem ty49 : Ty Tryd.prog 49 2 40 (.agg #[.string ⟨#[]⟩, .slice none 0 0]) := Ty.of (by kernel_rfl)
theorem ag9 : IsAgg Tryd.prog 9 false := ⟨_, Tryd.underlying9, rfl⟩
theorem ag23 : IsAgg Tryd.prog 23 false := ⟨_, Tryd.underlying23, rfl⟩
theorem ag49 : IsAgg Tryd.prog 49 true := ⟨_, Tryd.underlying49, rfl⟩
theorem fa49_0 : FieldAt Tryd.prog 49 0 0 1 false := ⟨_, _, Tryd.underlying49, rfl, rfl, ty9.size, ag9, by decide⟩
theorem fa49_1 : FieldAt Tryd.prog 49 1 1 1 false := ⟨_, _, Tryd.underlying49, rfl, rfl, ty23.size, ag23, by decide⟩
theorem st49 : StructAt Tryd.prog 49 [(0, 1), (1, 1)] := ⟨_, Tryd.underlying49, rfl, ty9.size, rfl, ty23.size, trivial⟩
theorem ni23 : NotInt Tryd.prog 23 := .inl ⟨_, Tryd.underlying23⟩
theorem ni29 : NotInt Tryd.prog 29 := .inl ⟨_, Tryd.underlying29⟩
theorem c_norm1 (m : List UInt8) (ms : List (List UInt8)) (hm : ms.length ≤ 100) (b : Nat) : FnC Tryd.prog 55 [.str m, .lit (.pointer (some ⟨b, 0, none⟩))] [.box b 23 [.sl 1 (ms.map AV.str)]] (fun x M => x = .bool (!(ms.any fun s => m == s)) ∧ M = [.box b 23 [.sl 1 (ms.map AV.str)]]) :=  by
  refine FnC.mk Tryd.func55 (by kernel_rfl) rfl Tryd.ntmps55 rfl (fun w0 F => ?_)
  refine W.seq ?_
  refine W.region ?_
  refine W.q (Ev.assign .k) rfl ?_
  refine W.nil ?_
  refine W.then ?_
  refine W.seq ?_
  refine W.region ?_
  first | refine W.q (Ev.lde1 (.t rfl) ag23) rfl ?_ | refine W.q (Ev.ldb1 0 (.t rfl) rfl ag23 rfl) rfl ?_ | refine W.q (Ev.ldb1 1 (.t rfl) rfl ag23 rfl) rfl ?_ | refine W.q (Ev.ldb1 2 (.t rfl) rfl ag23 rfl) rfl ?_ | refine W.q (Ev.ldb1 3 (.t rfl) rfl ag23 rfl) rfl ?_
  refine W.q (Ev.move (.t rfl)) rfl ?_
  refine W.callp (WLib.c_Contains ms m (by omega)) ⟨(.t rfl), (.t rfl), trivial⟩ rfl ?_
  refine W.q (Ev.not (.t rfl)) rfl ?_
  refine W.q (Ev.assign (.t rfl)) rfl ?_
  refine W.nil ?_
  refine W.then ?_
  refine W.ret ?_
  refine W.retn (M' := [.box b 23 _]) (D := []) (rs := [.tmp 3]) (avs := [_]) Tryd.results55 ⟨rfl, trivial⟩ rfl (.refl _) ?_
  exact ⟨rfl, rfl⟩

theorem c_norm (ms : List (List UInt8)) (hms : ms.length ≤ 100) (l : List Rn) (hl : l.length ≤ 1000) (hin : ∀ r ∈ l, ∀ m ∈ r.2, m ∈ ms) (hr2 : ∀ r ∈ l, r.2.length ≤ 1000) (htx : (Mrk.tx l).length ≤ 1000000) : FnP Tryd.prog 36 [.sl 1 (ms.map AV.str), .sl 2 (l.map rnav)] (.tup [.sl 2 ((Mrk.norm ms l).map rnav), .int 0]) :=  by
  refine FnC.mk Tryd.func36 (by kernel_rfl) rfl Tryd.ntmps36 rfl (fun w0 F => ?_)
  have hml : (ms.map AV.str).length = ms.length := List.length_map ..
  have hll : (l.map rnav).length = l.length := List.length_map ..
  refine W.seq ?_
  refine W.region ?_
  refine W.box (.t rfl) rfl rfl ?_
  intro b2
  refine W.q (Ev.assign .k) rfl ?_
  refine W.q (Ev.assign .k) rfl ?_
  refine W.nil ?_
  refine W.then ?_
  refine W.seq ?_
  refine W.region ?_
  refine W.q (Ev.assign .k) rfl ?_
  refine W.nil ?_
  refine W.then ?_
  refine W.seq ?_
  refine W.seq ?_
  refine W.region ?_
  refine W.q (Ev.move (.t rfl)) rfl ?_
  first | refine W.q (Ev.lensl (.t rfl) Tryd.underlying29) rfl ?_ | refine W.q (Ev.lenar (i := 0) (.t rfl) rfl Tryd.underlying29) rfl ?_ | refine W.q (Ev.lenar (i := 1) (.t rfl) rfl Tryd.underlying29) rfl ?_ | refine W.q (Ev.lenar (i := 2) (.t rfl) rfl Tryd.underlying29) rfl ?_ | refine W.q (Ev.lenar (i := 3) (.t rfl) rfl Tryd.underlying29) rfl ?_ | refine W.q (Ev.lenar (i := 4) (.t rfl) rfl Tryd.underlying29) rfl ?_ | refine W.q (Ev.lenar (i := 5) (.t rfl) rfl Tryd.underlying29) rfl ?_
  refine W.q (Ev.move .k) rfl ?_
  refine W.nil ?_
  refine W.then ?_
  refine W.block ?_
  refine W.own_nil 49 2 ?_
  refine W.loop (D := []) (ι := Nat × Value) (fun z => [(15, true, .int (z.1 : Int)), (14, true, .int ((l.map rnav).length : Int)), (13, true, .sl 2 (l.map rnav)), (2, true, .lit (.pointer (some ⟨b2, 0, none⟩))), (6, true, .lit z.2)]) (fun z => [.arr z.2 49 2 ((Mrk.norm ms (l.take z.1)).map rnav), .box b2 23 [.sl 1 (ms.map AV.str)]]) (fun z => z.1 ≤ l.length) (fun z => l.length - z.1) (0, .slice none 0 0) ⟨rfl, rfl, rfl, rfl, rfl, trivial⟩ (.refl _) (Nat.zero_le _) ?_
  rintro ⟨i, v6⟩ hi
  dsimp only at hi ⊢
  rcases (show i < l.length ∨ i = l.length from by omega) with hlt | hend
  · have hga := getD_mapG rnav ([], []) l i hlt
    have hnt := Mrk.norm_take ms l i hlt
    have hrm := getD_memG ([], []) l i hlt
    have htx1 := Mrk.tx_take l (i + 1)
    rw [Mrk.tx_snoc l i hlt, List.length_append] at htx1
    generalize l.getD i ([], []) = r at hga hnt hrm htx1
    have hinr := hin r hrm
    have hr2r := hr2 r hrm
    have hnl := Mrk.norm_len ms (l.take i)
    rw [List.length_take] at hnl
    have hnx := congrArg List.length (Mrk.tx_norm ms (l.take i))
    have hml2 := Mrk.norm_ml ms (l.take i)
    generalize Mrk.norm ms (l.take i) = O at hnt hnl hnx hml2 ⊢
    have hOl : (O.map rnav).length = O.length := List.length_map ..
    have hpm : 0 < O.length → O.getD (O.length - 1) ([], []) ∈ O := Mrk.getD_mem_last
    have hgp : 0 < O.length → (O.map rnav)[O.length - 1]? = some (rnav (O.getD (O.length - 1) ([], []))) := fun h => getD_mapG rnav ([], []) O _ (by omega)
    obtain ⟨p, hp⟩ : ∃ p, O.getD (O.length - 1) ([], []) = p := ⟨_, rfl⟩
    rw [hp] at hpm hgp
    have hp2 : p.2.length ≤ 100 := by rcases Nat.eq_zero_or_pos O.length with h | h; rw [← hp, List.eq_nil_of_length_eq_zero h]; exact Nat.zero_le _; exact Nat.le_trans (hml2 p (hpm h)) hms
    refine W.seq ?_
    refine W.region ?_
    refine W.q (Ev.lti (.t rfl) (.t rfl)) rfl ?_
    refine W.nil ?_
    refine W.then ?_
    refine W.seq ?_
    refine W.is (t := 16) (g := true) (av' := .lit (.bool true)) rfl (congrArg (fun b => AV.lit (.bool b)) (by exact decide_eq_true (by omega))) ?_
    refine W.condT (.t rfl) ?_
    refine W.skip ?_
    refine W.then ?_
    refine W.seq ?_
    refine W.block ?_
    refine W.seq ?_
    refine W.region ?_
    refine W.q (Ev.at (E := 49) (.t rfl) (.t rfl) Tryd.underlying29 ty49 (fun _ => ⟨by omega, hga⟩) rfl rfl) rfl ?_
    first | refine W.q (Ev.lden (.t rfl) ag49 ty49 rfl rfl) rfl ?_ | refine W.q (Ev.ldbn 0 (.t rfl) rfl ag49 ty49 rfl) rfl ?_ | refine W.q (Ev.ldbn 1 (.t rfl) rfl ag49 ty49 rfl) rfl ?_ | refine W.q (Ev.ldbn 2 (.t rfl) rfl ag49 ty49 rfl) rfl ?_ | refine W.q (Ev.ldbn 3 (.t rfl) rfl ag49 ty49 rfl) rfl ?_ | refine W.q (Ev.ldbn 4 (.t rfl) rfl ag49 ty49 rfl) rfl ?_ | refine W.q (Ev.ldbn 5 (.t rfl) rfl ag49 ty49 rfl) rfl ?_
    refine W.alloc ty49 rfl rfl ?_
    intro b8
    first | refine W.stb 0 (.t rfl) (.t rfl) rfl ty49 rfl rfl rfl ?_ | refine W.stb 1 (.t rfl) (.t rfl) rfl ty49 rfl rfl rfl ?_ | refine W.stb 2 (.t rfl) (.t rfl) rfl ty49 rfl rfl rfl ?_ | refine W.stb 3 (.t rfl) (.t rfl) rfl ty49 rfl rfl rfl ?_ | refine W.stb 4 (.t rfl) (.t rfl) rfl ty49 rfl rfl rfl ?_ | refine W.stb 5 (.t rfl) (.t rfl) rfl ty49 rfl rfl rfl ?_
    refine W.nil ?_
    refine W.then ?_
    refine W.seq ?_
    refine W.seq ?_
    refine W.region ?_
    first | refine W.q (Ev.fae (.t rfl) fa49_1 rfl) rfl ?_ | refine W.q (Ev.fab (.t rfl) fa49_1) rfl ?_ | refine W.q (Ev.faa (.t rfl) fa49_1) rfl ?_
    first | refine W.q (Ev.lde1 (.t rfl) ag23) rfl ?_ | refine W.q (Ev.ldb1 0 (.t rfl) rfl ag23 rfl) rfl ?_ | refine W.q (Ev.ldb1 1 (.t rfl) rfl ag23 rfl) rfl ?_ | refine W.q (Ev.ldb1 2 (.t rfl) rfl ag23 rfl) rfl ?_ | refine W.q (Ev.ldb1 3 (.t rfl) rfl ag23 rfl) rfl ?_ | refine W.q (Ev.ldb1 4 (.t rfl) rfl ag23 rfl) rfl ?_ | refine W.q (Ev.ldb1 5 (.t rfl) rfl ag23 rfl) rfl ?_
    refine W.q (Ev.mkfn (caps := [.tmp 2]) (vs := [_]) ⟨(.t rfl), trivial⟩) rfl ?_
    refine W.call (WMrkL.c_ContainsFuncS r.2 55 [.pointer (some ⟨b2, 0, none⟩)] [.box b2 23 [.sl 1 (ms.map AV.str)]] (fun m => !(ms.any fun s => m == s)) (fun m _ => c_norm1 m ms hms b2) (by omega)) ⟨(.t rfl), (.t rfl), trivial⟩ ((List.perm_append_comm (l₁ := [_, _]))) rfl ?_
    rintro _ _ ⟨rfl, rfl⟩
    refine W.nil ?_
    refine W.then ?_
    refine W.is (t := 22) (g := true) (av' := .lit (.bool false)) rfl (congrArg (fun b => AV.lit (.bool b)) (by rw [List.any_eq_false]; intro m hm; have h := hinr m hm; simp only [Mrk.any_has, Bool.not_eq_true', Bool.not_eq_false, List.contains_eq_mem, decide_eq_true_eq]; simp [h])) ?_
    refine W.condF (.t rfl) ?_
    refine W.skip ?_
    refine W.then ?_
    refine W.seq ?_
    refine W.region ?_
    first | refine W.q (Ev.fae (.t rfl) fa49_0 rfl) rfl ?_ | refine W.q (Ev.fab (.t rfl) fa49_0) rfl ?_ | refine W.q (Ev.faa (.t rfl) fa49_0) rfl ?_
    first | refine W.q (Ev.lde1 (.t rfl) ag9) rfl ?_ | refine W.q (Ev.ldb1 0 (.t rfl) rfl ag9 rfl) rfl ?_ | refine W.q (Ev.ldb1 1 (.t rfl) rfl ag9 rfl) rfl ?_ | refine W.q (Ev.ldb1 2 (.t rfl) rfl ag9 rfl) rfl ?_ | refine W.q (Ev.ldb1 3 (.t rfl) rfl ag9 rfl) rfl ?_ | refine W.q (Ev.ldb1 4 (.t rfl) rfl ag9 rfl) rfl ?_ | refine W.q (Ev.ldb1 5 (.t rfl) rfl ag9 rfl) rfl ?_
    refine W.q (Ev.build ty49 st49 rfl (fun hg => ⟨_, _, _, rfl, (.t rfl), rfl, rfl, rfl, rfl⟩)) rfl ?_
    refine W.alloc ty49 rfl rfl ?_
    intro b9
    first | refine W.stb 0 (.t rfl) (.t rfl) rfl ty49 rfl rfl rfl ?_ | refine W.stb 1 (.t rfl) (.t rfl) rfl ty49 rfl rfl rfl ?_ | refine W.stb 2 (.t rfl) (.t rfl) rfl ty49 rfl rfl rfl ?_ | refine W.stb 3 (.t rfl) (.t rfl) rfl ty49 rfl rfl rfl ?_ | refine W.stb 4 (.t rfl) (.t rfl) rfl ty49 rfl rfl rfl ?_ | refine W.stb 5 (.t rfl) (.t rfl) rfl ty49 rfl rfl rfl ?_
    refine W.nil ?_
    refine W.then ?_
    refine W.seq ?_
    refine W.seq ?_
    refine W.region ?_
    first | refine W.q (Ev.lde1 (.t rfl) ag23) rfl ?_ | refine W.q (Ev.ldb1 0 (.t rfl) rfl ag23 rfl) rfl ?_ | refine W.q (Ev.ldb1 1 (.t rfl) rfl ag23 rfl) rfl ?_ | refine W.q (Ev.ldb1 2 (.t rfl) rfl ag23 rfl) rfl ?_ | refine W.q (Ev.ldb1 3 (.t rfl) rfl ag23 rfl) rfl ?_ | refine W.q (Ev.ldb1 4 (.t rfl) rfl ag23 rfl) rfl ?_ | refine W.q (Ev.ldb1 5 (.t rfl) rfl ag23 rfl) rfl ?_
    first | refine W.q (Ev.lensl (.t rfl) Tryd.underlying23) rfl ?_ | refine W.q (Ev.lenar (i := 0) (.t rfl) rfl Tryd.underlying23) rfl ?_ | refine W.q (Ev.lenar (i := 1) (.t rfl) rfl Tryd.underlying23) rfl ?_ | refine W.q (Ev.lenar (i := 2) (.t rfl) rfl Tryd.underlying23) rfl ?_ | refine W.q (Ev.lenar (i := 3) (.t rfl) rfl Tryd.underlying23) rfl ?_ | refine W.q (Ev.lenar (i := 4) (.t rfl) rfl Tryd.underlying23) rfl ?_ | refine W.q (Ev.lenar (i := 5) (.t rfl) rfl Tryd.underlying23) rfl ?_
    refine W.q (Ev.move .k) rfl ?_
    refine W.nil ?_
    refine W.then ?_
    refine W.block ?_
    refine W.own_nil 9 1 ?_
    refine W.loop (D := []) (ι := Nat × Value) (fun z => [(28, true, .int (z.1 : Int)), (27, true, .int ((ms.map AV.str).length : Int)), (26, true, .sl 1 (ms.map AV.str)), (8, true, .lit (.pointer (some ⟨b8, 0, none⟩))), (9, true, .lit (.pointer (some ⟨b9, 0, none⟩))), (15, true, .int (i : Int)), (14, true, .int ((l.map rnav).length : Int)), (13, true, .sl 2 (l.map rnav)), (2, true, .lit (.pointer (some ⟨b2, 0, none⟩))), (6, true, .lit v6)]) (fun z => [.arr z.2 9 1 ((Mrk.mks (ms.take z.1) r).map AV.str), .box b9 49 [.str r.1, .lit z.2], .box b2 23 [.sl 1 (ms.map AV.str)], .box b8 49 [.str r.1, .sl 1 (r.2.map AV.str)], .arr v6 49 2 (O.map rnav)]) (fun z => z.1 ≤ ms.length) (fun z => ms.length - z.1) (0, .slice none 0 0) ⟨rfl, rfl, rfl, rfl, rfl, rfl, rfl, rfl, rfl, rfl, trivial⟩ (.refl _) (Nat.zero_le _) ?_
    rintro ⟨j, vm⟩ hj
    dsimp only at hj ⊢
    rcases (show j < ms.length ∨ j = ms.length from by omega) with hltj | hendj
    · have hgm := getD_mapG AV.str [] ms j hltj
      have htm := Mrk.mks_take ms r j hltj
      generalize ms.getD j [] = m at hgm htm
      have hmkl := Mrk.mks_len (ms.take j) r
      rw [List.length_take] at hmkl
      refine W.seq ?_
      refine W.region ?_
      refine W.q (Ev.lti (.t rfl) (.t rfl)) rfl ?_
      refine W.nil ?_
      refine W.then ?_
      refine W.seq ?_
      refine W.is (t := 29) (g := true) (av' := .lit (.bool true)) rfl (congrArg (fun b => AV.lit (.bool b)) (by exact decide_eq_true (by omega))) ?_
      refine W.condT (.t rfl) ?_
      refine W.skip ?_
      refine W.then ?_
      refine W.seq ?_
      refine W.block ?_
      refine W.seq ?_
      refine W.region ?_
      refine W.q (Ev.at (E := 9) (.t rfl) (.t rfl) Tryd.underlying23 ty9 (fun _ => ⟨by omega, hgm⟩) rfl rfl) rfl ?_
      first | refine W.q (Ev.lde1 (.t rfl) ag9) rfl ?_ | refine W.q (Ev.ldb1 0 (.t rfl) rfl ag9 rfl) rfl ?_ | refine W.q (Ev.ldb1 1 (.t rfl) rfl ag9 rfl) rfl ?_ | refine W.q (Ev.ldb1 2 (.t rfl) rfl ag9 rfl) rfl ?_ | refine W.q (Ev.ldb1 3 (.t rfl) rfl ag9 rfl) rfl ?_ | refine W.q (Ev.ldb1 4 (.t rfl) rfl ag9 rfl) rfl ?_ | refine W.q (Ev.ldb1 5 (.t rfl) rfl ag9 rfl) rfl ?_
      refine W.q (Ev.assign (.t rfl)) rfl ?_
      refine W.nil ?_
      refine W.then ?_
      refine W.seq ?_
      refine W.region ?_
      first | refine W.q (Ev.fae (.t rfl) fa49_1 rfl) rfl ?_ | refine W.q (Ev.fab (.t rfl) fa49_1) rfl ?_ | refine W.q (Ev.faa (.t rfl) fa49_1) rfl ?_
      first | refine W.q (Ev.lde1 (.t rfl) ag23) rfl ?_ | refine W.q (Ev.ldb1 0 (.t rfl) rfl ag23 rfl) rfl ?_ | refine W.q (Ev.ldb1 1 (.t rfl) rfl ag23 rfl) rfl ?_ | refine W.q (Ev.ldb1 2 (.t rfl) rfl ag23 rfl) rfl ?_ | refine W.q (Ev.ldb1 3 (.t rfl) rfl ag23 rfl) rfl ?_ | refine W.q (Ev.ldb1 4 (.t rfl) rfl ag23 rfl) rfl ?_ | refine W.q (Ev.ldb1 5 (.t rfl) rfl ag23 rfl) rfl ?_
      refine W.q (Ev.move (.t rfl)) rfl ?_
      refine W.callp (WLib.c_Contains r.2 m (by omega)) ⟨(.t rfl), (.t rfl), trivial⟩ rfl ?_
      refine W.nil ?_
      refine W.then ?_
      refine W.cond (.t rfl) (fun hc_t35 => ?_) (fun hc_t35 => ?_)
      · have hmk : Mrk.mks (ms.take (j + 1)) r = Mrk.mks (ms.take j) r ++ [m] := by rw [htm, if_pos (by rw [← Mrk.any_has]; exact hc_t35)]
        refine W.region ?_
        first | refine W.q (Ev.fae (.t rfl) fa49_1 rfl) rfl ?_ | refine W.q (Ev.fab (.t rfl) fa49_1) rfl ?_ | refine W.q (Ev.faa (.t rfl) fa49_1) rfl ?_
        first | refine W.q (Ev.lde1 (.t rfl) ag23) rfl ?_ | refine W.q (Ev.ldb1 0 (.t rfl) rfl ag23 rfl) rfl ?_ | refine W.q (Ev.ldb1 1 (.t rfl) rfl ag23 rfl) rfl ?_ | refine W.q (Ev.ldb1 2 (.t rfl) rfl ag23 rfl) rfl ?_ | refine W.q (Ev.ldb1 3 (.t rfl) rfl ag23 rfl) rfl ?_ | refine W.q (Ev.ldb1 4 (.t rfl) rfl ag23 rfl) rfl ?_ | refine W.q (Ev.ldb1 5 (.t rfl) rfl ag23 rfl) rfl ?_
        refine W.q (Ev.move (.t rfl)) rfl ?_
        refine W.bs (es := [_]) Tryd.underlying23 ty9 ⟨rfl, (.t rfl), rfl, rfl, trivial⟩ rfl (by decide) rfl rfl ?_
        first | refine W.app 0 (.t rfl) rfl (.sl (.t rfl) (by first | (simp [AV.okc, shV]; done) | (intro e he; rw [List.mem_singleton.1 he]; rfl))) Tryd.underlying23 ni23 ty9 rfl rfl (by simp only [List.length_map, List.length_cons, List.length_nil]; omega) rfl ?_ | refine W.app 1 (.t rfl) rfl (.sl (.t rfl) (by first | (simp [AV.okc, shV]; done) | (intro e he; rw [List.mem_singleton.1 he]; rfl))) Tryd.underlying23 ni23 ty9 rfl rfl (by simp only [List.length_map, List.length_cons, List.length_nil]; omega) rfl ?_ | refine W.app 2 (.t rfl) rfl (.sl (.t rfl) (by first | (simp [AV.okc, shV]; done) | (intro e he; rw [List.mem_singleton.1 he]; rfl))) Tryd.underlying23 ni23 ty9 rfl rfl (by simp only [List.length_map, List.length_cons, List.length_nil]; omega) rfl ?_ | refine W.app 3 (.t rfl) rfl (.sl (.t rfl) (by first | (simp [AV.okc, shV]; done) | (intro e he; rw [List.mem_singleton.1 he]; rfl))) Tryd.underlying23 ni23 ty9 rfl rfl (by simp only [List.length_map, List.length_cons, List.length_nil]; omega) rfl ?_ | refine W.app 4 (.t rfl) rfl (.sl (.t rfl) (by first | (simp [AV.okc, shV]; done) | (intro e he; rw [List.mem_singleton.1 he]; rfl))) Tryd.underlying23 ni23 ty9 rfl rfl (by simp only [List.length_map, List.length_cons, List.length_nil]; omega) rfl ?_ | refine W.app 5 (.t rfl) rfl (.sl (.t rfl) (by first | (simp [AV.okc, shV]; done) | (intro e he; rw [List.mem_singleton.1 he]; rfl))) Tryd.underlying23 ni23 ty9 rfl rfl (by simp only [List.length_map, List.length_cons, List.length_nil]; omega) rfl ?_ | refine W.app 0 (.t rfl) rfl (.arr 0 (.t rfl) rfl (by first | (simp [AV.okc, shV]; done) | (intro e he; rw [List.mem_singleton.1 he]; rfl))) Tryd.underlying23 ni23 ty9 rfl rfl (by simp only [List.length_map, List.length_cons, List.length_nil]; omega) rfl ?_ | refine W.app 0 (.t rfl) rfl (.arr 1 (.t rfl) rfl (by first | (simp [AV.okc, shV]; done) | (intro e he; rw [List.mem_singleton.1 he]; rfl))) Tryd.underlying23 ni23 ty9 rfl rfl (by simp only [List.length_map, List.length_cons, List.length_nil]; omega) rfl ?_ | refine W.app 0 (.t rfl) rfl (.arr 2 (.t rfl) rfl (by first | (simp [AV.okc, shV]; done) | (intro e he; rw [List.mem_singleton.1 he]; rfl))) Tryd.underlying23 ni23 ty9 rfl rfl (by simp only [List.length_map, List.length_cons, List.length_nil]; omega) rfl ?_ | refine W.app 0 (.t rfl) rfl (.arr 3 (.t rfl) rfl (by first | (simp [AV.okc, shV]; done) | (intro e he; rw [List.mem_singleton.1 he]; rfl))) Tryd.underlying23 ni23 ty9 rfl rfl (by simp only [List.length_map, List.length_cons, List.length_nil]; omega) rfl ?_ | refine W.app 0 (.t rfl) rfl (.arr 4 (.t rfl) rfl (by first | (simp [AV.okc, shV]; done) | (intro e he; rw [List.mem_singleton.1 he]; rfl))) Tryd.underlying23 ni23 ty9 rfl rfl (by simp only [List.length_map, List.length_cons, List.length_nil]; omega) rfl ?_ | refine W.app 0 (.t rfl) rfl (.arr 5 (.t rfl) rfl (by first | (simp [AV.okc, shV]; done) | (intro e he; rw [List.mem_singleton.1 he]; rfl))) Tryd.underlying23 ni23 ty9 rfl rfl (by simp only [List.length_map, List.length_cons, List.length_nil]; omega) rfl ?_ | refine W.app 1 (.t rfl) rfl (.arr 0 (.t rfl) rfl (by first | (simp [AV.okc, shV]; done) | (intro e he; rw [List.mem_singleton.1 he]; rfl))) Tryd.underlying23 ni23 ty9 rfl rfl (by simp only [List.length_map, List.length_cons, List.length_nil]; omega) rfl ?_ | refine W.app 1 (.t rfl) rfl (.arr 1 (.t rfl) rfl (by first | (simp [AV.okc, shV]; done) | (intro e he; rw [List.mem_singleton.1 he]; rfl))) Tryd.underlying23 ni23 ty9 rfl rfl (by simp only [List.length_map, List.length_cons, List.length_nil]; omega) rfl ?_ | refine W.app 1 (.t rfl) rfl (.arr 2 (.t rfl) rfl (by first | (simp [AV.okc, shV]; done) | (intro e he; rw [List.mem_singleton.1 he]; rfl))) Tryd.underlying23 ni23 ty9 rfl rfl (by simp only [List.length_map, List.length_cons, List.length_nil]; omega) rfl ?_ | refine W.app 1 (.t rfl) rfl (.arr 3 (.t rfl) rfl (by first | (simp [AV.okc, shV]; done) | (intro e he; rw [List.mem_singleton.1 he]; rfl))) Tryd.underlying23 ni23 ty9 rfl rfl (by simp only [List.length_map, List.length_cons, List.length_nil]; omega) rfl ?_ | refine W.app 1 (.t rfl) rfl (.arr 4 (.t rfl) rfl (by first | (simp [AV.okc, shV]; done) | (intro e he; rw [List.mem_singleton.1 he]; rfl))) Tryd.underlying23 ni23 ty9 rfl rfl (by simp only [List.length_map, List.length_cons, List.length_nil]; omega) rfl ?_ | refine W.app 1 (.t rfl) rfl (.arr 5 (.t rfl) rfl (by first | (simp [AV.okc, shV]; done) | (intro e he; rw [List.mem_singleton.1 he]; rfl))) Tryd.underlying23 ni23 ty9 rfl rfl (by simp only [List.length_map, List.length_cons, List.length_nil]; omega) rfl ?_ | refine W.app 2 (.t rfl) rfl (.arr 0 (.t rfl) rfl (by first | (simp [AV.okc, shV]; done) | (intro e he; rw [List.mem_singleton.1 he]; rfl))) Tryd.underlying23 ni23 ty9 rfl rfl (by simp only [List.length_map, List.length_cons, List.length_nil]; omega) rfl ?_ | refine W.app 2 (.t rfl) rfl (.arr 1 (.t rfl) rfl (by first | (simp [AV.okc, shV]; done) | (intro e he; rw [List.mem_singleton.1 he]; rfl))) Tryd.underlying23 ni23 ty9 rfl rfl (by simp only [List.length_map, List.length_cons, List.length_nil]; omega) rfl ?_ | refine W.app 2 (.t rfl) rfl (.arr 2 (.t rfl) rfl (by first | (simp [AV.okc, shV]; done) | (intro e he; rw [List.mem_singleton.1 he]; rfl))) Tryd.underlying23 ni23 ty9 rfl rfl (by simp only [List.length_map, List.length_cons, List.length_nil]; omega) rfl ?_ | refine W.app 2 (.t rfl) rfl (.arr 3 (.t rfl) rfl (by first | (simp [AV.okc, shV]; done) | (intro e he; rw [List.mem_singleton.1 he]; rfl))) Tryd.underlying23 ni23 ty9 rfl rfl (by simp only [List.length_map, List.length_cons, List.length_nil]; omega) rfl ?_ | refine W.app 2 (.t rfl) rfl (.arr 4 (.t rfl) rfl (by first | (simp [AV.okc, shV]; done) | (intro e he; rw [List.mem_singleton.1 he]; rfl))) Tryd.underlying23 ni23 ty9 rfl rfl (by simp only [List.length_map, List.length_cons, List.length_nil]; omega) rfl ?_ | refine W.app 2 (.t rfl) rfl (.arr 5 (.t rfl) rfl (by first | (simp [AV.okc, shV]; done) | (intro e he; rw [List.mem_singleton.1 he]; rfl))) Tryd.underlying23 ni23 ty9 rfl rfl (by simp only [List.length_map, List.length_cons, List.length_nil]; omega) rfl ?_ | refine W.app 3 (.t rfl) rfl (.arr 0 (.t rfl) rfl (by first | (simp [AV.okc, shV]; done) | (intro e he; rw [List.mem_singleton.1 he]; rfl))) Tryd.underlying23 ni23 ty9 rfl rfl (by simp only [List.length_map, List.length_cons, List.length_nil]; omega) rfl ?_ | refine W.app 3 (.t rfl) rfl (.arr 1 (.t rfl) rfl (by first | (simp [AV.okc, shV]; done) | (intro e he; rw [List.mem_singleton.1 he]; rfl))) Tryd.underlying23 ni23 ty9 rfl rfl (by simp only [List.length_map, List.length_cons, List.length_nil]; omega) rfl ?_ | refine W.app 3 (.t rfl) rfl (.arr 2 (.t rfl) rfl (by first | (simp [AV.okc, shV]; done) | (intro e he; rw [List.mem_singleton.1 he]; rfl))) Tryd.underlying23 ni23 ty9 rfl rfl (by simp only [List.length_map, List.length_cons, List.length_nil]; omega) rfl ?_ | refine W.app 3 (.t rfl) rfl (.arr 3 (.t rfl) rfl (by first | (simp [AV.okc, shV]; done) | (intro e he; rw [List.mem_singleton.1 he]; rfl))) Tryd.underlying23 ni23 ty9 rfl rfl (by simp only [List.length_map, List.length_cons, List.length_nil]; omega) rfl ?_ | refine W.app 3 (.t rfl) rfl (.arr 4 (.t rfl) rfl (by first | (simp [AV.okc, shV]; done) | (intro e he; rw [List.mem_singleton.1 he]; rfl))) Tryd.underlying23 ni23 ty9 rfl rfl (by simp only [List.length_map, List.length_cons, List.length_nil]; omega) rfl ?_ | refine W.app 3 (.t rfl) rfl (.arr 5 (.t rfl) rfl (by first | (simp [AV.okc, shV]; done) | (intro e he; rw [List.mem_singleton.1 he]; rfl))) Tryd.underlying23 ni23 ty9 rfl rfl (by simp only [List.length_map, List.length_cons, List.length_nil]; omega) rfl ?_ | refine W.app 4 (.t rfl) rfl (.arr 0 (.t rfl) rfl (by first | (simp [AV.okc, shV]; done) | (intro e he; rw [List.mem_singleton.1 he]; rfl))) Tryd.underlying23 ni23 ty9 rfl rfl (by simp only [List.length_map, List.length_cons, List.length_nil]; omega) rfl ?_ | refine W.app 4 (.t rfl) rfl (.arr 1 (.t rfl) rfl (by first | (simp [AV.okc, shV]; done) | (intro e he; rw [List.mem_singleton.1 he]; rfl))) Tryd.underlying23 ni23 ty9 rfl rfl (by simp only [List.length_map, List.length_cons, List.length_nil]; omega) rfl ?_ | refine W.app 4 (.t rfl) rfl (.arr 2 (.t rfl) rfl (by first | (simp [AV.okc, shV]; done) | (intro e he; rw [List.mem_singleton.1 he]; rfl))) Tryd.underlying23 ni23 ty9 rfl rfl (by simp only [List.length_map, List.length_cons, List.length_nil]; omega) rfl ?_ | refine W.app 4 (.t rfl) rfl (.arr 3 (.t rfl) rfl (by first | (simp [AV.okc, shV]; done) | (intro e he; rw [List.mem_singleton.1 he]; rfl))) Tryd.underlying23 ni23 ty9 rfl rfl (by simp only [List.length_map, List.length_cons, List.length_nil]; omega) rfl ?_ | refine W.app 4 (.t rfl) rfl (.arr 4 (.t rfl) rfl (by first | (simp [AV.okc, shV]; done) | (intro e he; rw [List.mem_singleton.1 he]; rfl))) Tryd.underlying23 ni23 ty9 rfl rfl (by simp only [List.length_map, List.length_cons, List.length_nil]; omega) rfl ?_ | refine W.app 4 (.t rfl) rfl (.arr 5 (.t rfl) rfl (by first | (simp [AV.okc, shV]; done) | (intro e he; rw [List.mem_singleton.1 he]; rfl))) Tryd.underlying23 ni23 ty9 rfl rfl (by simp only [List.length_map, List.length_cons, List.length_nil]; omega) rfl ?_ | refine W.app 5 (.t rfl) rfl (.arr 0 (.t rfl) rfl (by first | (simp [AV.okc, shV]; done) | (intro e he; rw [List.mem_singleton.1 he]; rfl))) Tryd.underlying23 ni23 ty9 rfl rfl (by simp only [List.length_map, List.length_cons, List.length_nil]; omega) rfl ?_ | refine W.app 5 (.t rfl) rfl (.arr 1 (.t rfl) rfl (by first | (simp [AV.okc, shV]; done) | (intro e he; rw [List.mem_singleton.1 he]; rfl))) Tryd.underlying23 ni23 ty9 rfl rfl (by simp only [List.length_map, List.length_cons, List.length_nil]; omega) rfl ?_ | refine W.app 5 (.t rfl) rfl (.arr 2 (.t rfl) rfl (by first | (simp [AV.okc, shV]; done) | (intro e he; rw [List.mem_singleton.1 he]; rfl))) Tryd.underlying23 ni23 ty9 rfl rfl (by simp only [List.length_map, List.length_cons, List.length_nil]; omega) rfl ?_ | refine W.app 5 (.t rfl) rfl (.arr 3 (.t rfl) rfl (by first | (simp [AV.okc, shV]; done) | (intro e he; rw [List.mem_singleton.1 he]; rfl))) Tryd.underlying23 ni23 ty9 rfl rfl (by simp only [List.length_map, List.length_cons, List.length_nil]; omega) rfl ?_ | refine W.app 5 (.t rfl) rfl (.arr 4 (.t rfl) rfl (by first | (simp [AV.okc, shV]; done) | (intro e he; rw [List.mem_singleton.1 he]; rfl))) Tryd.underlying23 ni23 ty9 rfl rfl (by simp only [List.length_map, List.length_cons, List.length_nil]; omega) rfl ?_ | refine W.app 5 (.t rfl) rfl (.arr 5 (.t rfl) rfl (by first | (simp [AV.okc, shV]; done) | (intro e he; rw [List.mem_singleton.1 he]; rfl))) Tryd.underlying23 ni23 ty9 rfl rfl (by simp only [List.length_map, List.length_cons, List.length_nil]; omega) rfl ?_
        intro v40
        first | refine W.q (Ev.fae (.t rfl) fa49_1 rfl) rfl ?_ | refine W.q (Ev.fab (.t rfl) fa49_1) rfl ?_ | refine W.q (Ev.faa (.t rfl) fa49_1) rfl ?_
        refine W.arr_inv 0 rfl (fun a40 n40 c40 h40 => ?_)
        subst h40
        refine W.stb 1 (.t rfl) (.t rfl) rfl ty23 rfl rfl rfl ?_
        refine W.nil ?_
        refine W.blk_normal ?_
        refine W.then ?_
        refine W.region ?_
        first | refine W.q (Ev.add (.t rfl) .k (fun _ => by omega)) rfl ?_ | refine W.q (Ev.addw (.t rfl) .k) rfl ?_
        refine W.q (Ev.move (.t rfl)) rfl ?_
        refine W.nil ?_
        refine W.then ?_
        first
        | (refine W.reach (D := []) (j + 1, .slice a40 n40 c40) ⟨rfl, rfl, rfl, rfl, rfl, rfl, rfl, rfl, rfl, rfl, trivial⟩ (by rw [hmk, List.map_append]; exact .refl _) ⟨by show j + 1 ≤ _; omega, by show _ - (j + 1) < _; omega⟩)
        | (refine W.reach (D := []) (j + 1, vm) ⟨rfl, rfl, rfl, rfl, rfl, rfl, rfl, rfl, rfl, rfl, trivial⟩ (by rw [hmk]; exact .refl _) ⟨by show j + 1 ≤ _; omega, by show _ - (j + 1) < _; omega⟩)
      · have hmk : Mrk.mks (ms.take (j + 1)) r = Mrk.mks (ms.take j) r := by rw [htm, if_neg (by rw [← Mrk.any_has, hc_t35]; simp), List.append_nil]
        refine W.skip ?_
        refine W.blk_normal ?_
        refine W.then ?_
        refine W.region ?_
        first | refine W.q (Ev.add (.t rfl) .k (fun _ => by omega)) rfl ?_ | refine W.q (Ev.addw (.t rfl) .k) rfl ?_
        refine W.q (Ev.move (.t rfl)) rfl ?_
        refine W.nil ?_
        refine W.then ?_
        first
        | (refine W.reach (D := []) (j + 1, .slice a40 n40 c40) ⟨rfl, rfl, rfl, rfl, rfl, rfl, rfl, rfl, rfl, rfl, trivial⟩ (by rw [hmk, List.map_append]; exact .refl _) ⟨by show j + 1 ≤ _; omega, by show _ - (j + 1) < _; omega⟩)
        | (refine W.reach (D := []) (j + 1, vm) ⟨rfl, rfl, rfl, rfl, rfl, rfl, rfl, rfl, rfl, rfl, trivial⟩ (by rw [hmk]; exact .refl _) ⟨by show j + 1 ≤ _; omega, by show _ - (j + 1) < _; omega⟩)
    · have hej : ms.take j = ms := List.take_of_length_le (by omega)
      rw [hej]
      refine W.freezeA (M1 := [.box b9 49 [.str r.1, .lit vm], .box b2 23 [.sl 1 (ms.map AV.str)], .box b8 49 [.str r.1, .sl 1 (r.2.map AV.str)], .arr v6 49 2 (O.map rnav)]) (M2 := [.box b9 49 [.str r.1, .sl 1 ((Mrk.mks ms r).map AV.str)], .box b2 23 [.sl 1 (ms.map AV.str)], .box b8 49 [.str r.1, .sl 1 (r.2.map AV.str)], .arr v6 49 2 (O.map rnav)]) (D := []) (v := vm) (L' := []) (.refl _) trivial ⟨.box ⟨.refl _, .hit, trivial⟩, .refl _, .refl _, .refl _, trivial⟩ ?_
      refine W.seq ?_
      refine W.region ?_
      refine W.q (Ev.lti (.t rfl) (.t rfl)) rfl ?_
      refine W.nil ?_
      refine W.then ?_
      refine W.seq ?_
      refine W.is (t := 29) (g := true) (av' := .lit (.bool false)) rfl (congrArg (fun b => AV.lit (.bool b)) (by exact decide_eq_false (by omega))) ?_
      refine W.condF (.t rfl) ?_
      refine W.exit ?_
      refine W.then_exit ?_
      refine W.then_exit ?_
      refine W.blk_hit ?_
      refine W.then ?_
      refine W.seq ?_
      refine W.region ?_
      refine W.q (Ev.move (.t rfl)) rfl ?_
      first | refine W.q (Ev.lensl (.t rfl) Tryd.underlying29) rfl ?_ | refine W.q (Ev.lenar (i := 0) (.t rfl) rfl Tryd.underlying29) rfl ?_ | refine W.q (Ev.lenar (i := 1) (.t rfl) rfl Tryd.underlying29) rfl ?_ | refine W.q (Ev.lenar (i := 2) (.t rfl) rfl Tryd.underlying29) rfl ?_ | refine W.q (Ev.lenar (i := 3) (.t rfl) rfl Tryd.underlying29) rfl ?_ | refine W.q (Ev.lenar (i := 4) (.t rfl) rfl Tryd.underlying29) rfl ?_ | refine W.q (Ev.lenar (i := 5) (.t rfl) rfl Tryd.underlying29) rfl ?_
      refine W.q (Ev.assign (.t rfl)) rfl ?_
      refine W.nil ?_
      refine W.then ?_
      refine W.seq ?_
      refine W.drawnE (ι := Unit) (fun _ _ => _) 13 () (by kernel_rfl) (by kernel_rfl) rfl ?_
      refine DE.q (fun e c hk => (Ev.move (.t rfl))) rfl (fun _ _ => rfl) (by first | exact .inr (fun _ _ => rfl) | exact .inl (by kernel_rfl)) ?_
      refine DE.q (fun e c hk => (Ev.gti (.t rfl) .k)) rfl (fun _ _ => rfl) (by first | exact .inr (fun _ _ => rfl) | exact .inl (by kernel_rfl)) ?_
      refine DE.q (fun e c hk => (Ev.move (.t rfl))) rfl (fun _ _ => rfl) (by first | exact .inr (fun _ _ => rfl) | exact .inl (by kernel_rfl)) ?_
      refine DE.qg rfl (fun _ => rfl) (fun e c hk => (Ev.move (.t rfl))) rfl (fun _ _ => rfl) (by first | exact .inr (fun _ _ => rfl) | exact .inl (by kernel_rfl)) ?_
      refine DE.qg rfl (fun _ => rfl) (fun e c hk => (Ev.move (.t rfl))) rfl (fun _ _ => rfl) (by first | exact .inr (fun _ _ => rfl) | exact .inl (by kernel_rfl)) ?_
      first | refine DE.qg rfl (fun _ => rfl) (fun e c hk => (Ev.sub (.c rfl) .k (fun _ => by omega))) rfl (fun _ _ => rfl) (by first | exact .inr (fun _ _ => rfl) | exact .inl (by kernel_rfl)) ?_ | refine DE.qg rfl (fun _ => rfl) (fun e c hk => (Ev.subw (.c rfl) .k)) rfl (fun _ _ => rfl) (by first | exact .inr (fun _ _ => rfl) | exact .inl (by kernel_rfl)) ?_
      refine DE.qg rfl (fun _ => rfl) (fun e c hk => Ev.ata 3 (.c rfl) rfl (.c rfl) Tryd.underlying29 ty49 (fun hg => by simp at hg; omega)) rfl (fun _ _ => rfl) (by first | exact .inr (fun _ _ => rfl) | exact .inl (by kernel_rfl)) ?_
      first | refine DE.qg rfl (fun _ => rfl) (fun e c hk => (Ev.fae (.c rfl) fa49_1 rfl)) rfl (fun _ _ => rfl) (by first | exact .inr (fun _ _ => rfl) | exact .inl (by kernel_rfl)) ?_ | refine DE.qg rfl (fun _ => rfl) (fun e c hk => (Ev.fab (.c rfl) fa49_1)) rfl (fun _ _ => rfl) (by first | exact .inr (fun _ _ => rfl) | exact .inl (by kernel_rfl)) ?_ | refine DE.qg rfl (fun _ => rfl) (fun e c hk => (Ev.faa (.c rfl) fa49_1)) rfl (fun _ _ => rfl) (by first | exact .inr (fun _ _ => rfl) | exact .inl (by kernel_rfl)) ?_
      refine DE.qg rfl (fun _ => rfl) (fun e c hk => Ev.lda1g 3 (O.length - 1) 1 (e := rnav p) (.c rfl) rfl (fun hg => hgp (by simp at hg; omega)) (fun hg => by simp at hg; omega) rfl rfl rfl ag23) rfl (fun _ _ => rfl) (by first | exact .inr (fun _ _ => rfl) | exact .inl (by kernel_rfl)) ?_
      first | refine DE.qg rfl (fun _ => rfl) (fun e c hk => (Ev.fae (.t rfl) fa49_1 rfl)) rfl (fun _ _ => rfl) (by first | exact .inr (fun _ _ => rfl) | exact .inl (by kernel_rfl)) ?_ | refine DE.qg rfl (fun _ => rfl) (fun e c hk => (Ev.fab (.t rfl) fa49_1)) rfl (fun _ _ => rfl) (by first | exact .inr (fun _ _ => rfl) | exact .inl (by kernel_rfl)) ?_ | refine DE.qg rfl (fun _ => rfl) (fun e c hk => (Ev.faa (.t rfl) fa49_1)) rfl (fun _ _ => rfl) (by first | exact .inr (fun _ _ => rfl) | exact .inl (by kernel_rfl)) ?_
      first | refine DE.qg rfl (fun _ => rfl) (fun e c hk => (Ev.lde1 (.c rfl) ag23)) rfl (fun _ _ => rfl) (by first | exact .inr (fun _ _ => rfl) | exact .inl (by kernel_rfl)) ?_ | refine DE.qg rfl (fun _ => rfl) (fun e c hk => (Ev.ldb1 0 (.c rfl) rfl ag23 rfl)) rfl (fun _ _ => rfl) (by first | exact .inr (fun _ _ => rfl) | exact .inl (by kernel_rfl)) ?_ | refine DE.qg rfl (fun _ => rfl) (fun e c hk => (Ev.ldb1 1 (.c rfl) rfl ag23 rfl)) rfl (fun _ _ => rfl) (by first | exact .inr (fun _ _ => rfl) | exact .inl (by kernel_rfl)) ?_ | refine DE.qg rfl (fun _ => rfl) (fun e c hk => (Ev.ldb1 2 (.c rfl) rfl ag23 rfl)) rfl (fun _ _ => rfl) (by first | exact .inr (fun _ _ => rfl) | exact .inl (by kernel_rfl)) ?_ | refine DE.qg rfl (fun _ => rfl) (fun e c hk => (Ev.ldb1 3 (.c rfl) rfl ag23 rfl)) rfl (fun _ _ => rfl) (by first | exact .inr (fun _ _ => rfl) | exact .inl (by kernel_rfl)) ?_ | refine DE.qg rfl (fun _ => rfl) (fun e c hk => (Ev.ldb1 4 (.c rfl) rfl ag23 rfl)) rfl (fun _ _ => rfl) (by first | exact .inr (fun _ _ => rfl) | exact .inl (by kernel_rfl)) ?_ | refine DE.qg rfl (fun _ => rfl) (fun e c hk => (Ev.ldb1 5 (.c rfl) rfl ag23 rfl)) rfl (fun _ _ => rfl) (by first | exact .inr (fun _ _ => rfl) | exact .inl (by kernel_rfl)) ?_
      refine DE.callg rfl (fun _ => rfl) (fun c hg => WMrkL.c_Equal p.2 (Mrk.mks ms r) (by omega)) (fun c hg => ⟨(.i rfl (fun _ => hg)), (.i rfl (fun _ => hg)), trivial⟩) rfl (fun _ _ => rfl) (by first | exact .inr (fun _ _ => rfl) | exact .inl (by kernel_rfl)) ?_
      refine DE.q (fun e c hk => (Ev.and (.t rfl) ⟨_, _, rfl, rfl, by first | (simp; done) | (intro hg_ hp_; simp [hp_]; done) | (simp <;> omega; done) | (simp_all; done) | grind⟩)) rfl (fun _ _ => rfl) (by first | exact .inr (fun _ _ => rfl) | exact .inl (by kernel_rfl)) ?_
      refine DE.nil (fun c_ e_ he_ => ?_)
      dsimp only
      refine W.then ?_
      refine W.cond (.t rfl) (fun hc_t57 => ?_) (fun hc_t57 => ?_)
      · have hb : 0 < O.length ∧ p.2 = Mrk.mks ms r := by simp at hc_t57; exact ⟨by omega, hc_t57.2⟩
        have h0 := hb.1
        have hpt := Mrk.tx_mem (hpm h0)
        have hgr := Mrk.push_grow O (r.1, Mrk.mks ms r) h0 (by rw [hp]; exact hb.2)
        rw [hp] at hgr
        refine W.drawnE (ι := Unit) (fun ee c => [.box b9 49 [.str r.1, .sl 1 ((Mrk.mks ms r).map AV.str)], .box b2 23 [.sl 1 (ms.map AV.str)], .box b8 49 [.str r.1, .sl 1 (r.2.map AV.str)], .arr v6 49 2 (bif ee 11 then ((O.map rnav).set (O.length - 1) (.agg [.str (p.1 ++ r.1), .sl 1 (p.2.map AV.str)])) else O.map rnav)]) 12 () (by kernel_rfl) (by kernel_rfl) rfl ?_
        refine DE.q (fun e c hk => (Ev.move (.t rfl))) rfl (fun _ _ => rfl) (by first | exact .inr (fun _ _ => rfl) | exact .inl (by kernel_rfl)) ?_
        refine DE.q (fun e c hk => (Ev.move (.t rfl))) rfl (fun _ _ => rfl) (by first | exact .inr (fun _ _ => rfl) | exact .inl (by kernel_rfl)) ?_
        first | refine DE.q (fun e c hk => (Ev.sub (.t rfl) .k (fun _ => by omega))) rfl (fun _ _ => rfl) (by first | exact .inr (fun _ _ => rfl) | exact .inl (by kernel_rfl)) ?_ | refine DE.q (fun e c hk => (Ev.subw (.t rfl) .k)) rfl (fun _ _ => rfl) (by first | exact .inr (fun _ _ => rfl) | exact .inl (by kernel_rfl)) ?_
        refine DE.q (av := fun _ => .aptr v6 (((((O.map rnav).length : Int) - 1).toNat) * 2)) (fun e_ c hk => by have h := hk.down 11 (by kernel_rfl); simp only [h, cond_false]; exact Ev.ata 3 (.t rfl) rfl (.t rfl) Tryd.underlying29 ty49 (fun _ => by omega)) rfl (fun _ _ => rfl) (by first | exact .inr (fun _ _ => rfl) | exact .inl (by kernel_rfl)) ?_
        first | refine DE.q (fun e c hk => (Ev.fae (.t rfl) fa49_0 rfl)) rfl (fun _ _ => rfl) (by first | exact .inr (fun _ _ => rfl) | exact .inl (by kernel_rfl)) ?_ | refine DE.q (fun e c hk => (Ev.fab (.t rfl) fa49_0)) rfl (fun _ _ => rfl) (by first | exact .inr (fun _ _ => rfl) | exact .inl (by kernel_rfl)) ?_ | refine DE.q (fun e c hk => (Ev.faa (.t rfl) fa49_0)) rfl (fun _ _ => rfl) (by first | exact .inr (fun _ _ => rfl) | exact .inl (by kernel_rfl)) ?_
        refine DE.q (av := fun _ => .str p.1) (fun e_ c hk => by have h := hk.down 11 (by kernel_rfl); simp only [h, cond_false]; exact Ev.lda1 3 (O.length - 1) 0 (e := rnav p) (.t rfl) rfl (hgp h0) (by omega) rfl rfl rfl ag9) rfl (fun _ _ => rfl) (by first | exact .inr (fun _ _ => rfl) | exact .inl (by kernel_rfl)) ?_
        first | refine DE.q (fun e c hk => (Ev.fae (.t rfl) fa49_0 rfl)) rfl (fun _ _ => rfl) (by first | exact .inr (fun _ _ => rfl) | exact .inl (by kernel_rfl)) ?_ | refine DE.q (fun e c hk => (Ev.fab (.t rfl) fa49_0)) rfl (fun _ _ => rfl) (by first | exact .inr (fun _ _ => rfl) | exact .inl (by kernel_rfl)) ?_ | refine DE.q (fun e c hk => (Ev.faa (.t rfl) fa49_0)) rfl (fun _ _ => rfl) (by first | exact .inr (fun _ _ => rfl) | exact .inl (by kernel_rfl)) ?_
        first | refine DE.q (fun e c hk => (Ev.lde1 (.t rfl) ag9)) rfl (fun _ _ => rfl) (by first | exact .inr (fun _ _ => rfl) | exact .inl (by kernel_rfl)) ?_ | refine DE.q (fun e c hk => (Ev.ldb1 0 (.t rfl) rfl ag9 rfl)) rfl (fun _ _ => rfl) (by first | exact .inr (fun _ _ => rfl) | exact .inl (by kernel_rfl)) ?_ | refine DE.q (fun e c hk => (Ev.ldb1 1 (.t rfl) rfl ag9 rfl)) rfl (fun _ _ => rfl) (by first | exact .inr (fun _ _ => rfl) | exact .inl (by kernel_rfl)) ?_ | refine DE.q (fun e c hk => (Ev.ldb1 2 (.t rfl) rfl ag9 rfl)) rfl (fun _ _ => rfl) (by first | exact .inr (fun _ _ => rfl) | exact .inl (by kernel_rfl)) ?_ | refine DE.q (fun e c hk => (Ev.ldb1 3 (.t rfl) rfl ag9 rfl)) rfl (fun _ _ => rfl) (by first | exact .inr (fun _ _ => rfl) | exact .inl (by kernel_rfl)) ?_ | refine DE.q (fun e c hk => (Ev.ldb1 4 (.t rfl) rfl ag9 rfl)) rfl (fun _ _ => rfl) (by first | exact .inr (fun _ _ => rfl) | exact .inl (by kernel_rfl)) ?_ | refine DE.q (fun e c hk => (Ev.ldb1 5 (.t rfl) rfl ag9 rfl)) rfl (fun _ _ => rfl) (by first | exact .inr (fun _ _ => rfl) | exact .inl (by kernel_rfl)) ?_
        refine DE.q (fun e_ c hk => Ev.cat (.t rfl) (.t rfl) (fun _ => by omega)) rfl (fun _ _ => rfl) (by first | exact .inr (fun _ _ => rfl) | exact .inl (by kernel_rfl)) ?_
        refine DE.q (av := fun _ => .aptr v6 (((((O.map rnav).length : Int) - 1).toNat) * 2)) (fun e_ c hk => by have h := hk.down 11 (by kernel_rfl); simp only [h, cond_false]; exact Ev.ata 3 (.t rfl) rfl (.t rfl) Tryd.underlying29 ty49 (fun _ => by omega)) rfl (fun _ _ => rfl) (by first | exact .inr (fun _ _ => rfl) | exact .inl (by kernel_rfl)) ?_
        first | refine DE.q (fun e c hk => (Ev.fae (.t rfl) fa49_0 rfl)) rfl (fun _ _ => rfl) (by first | exact .inr (fun _ _ => rfl) | exact .inl (by kernel_rfl)) ?_ | refine DE.q (fun e c hk => (Ev.fab (.t rfl) fa49_0)) rfl (fun _ _ => rfl) (by first | exact .inr (fun _ _ => rfl) | exact .inl (by kernel_rfl)) ?_ | refine DE.q (fun e c hk => (Ev.faa (.t rfl) fa49_0)) rfl (fun _ _ => rfl) (by first | exact .inr (fun _ _ => rfl) | exact .inl (by kernel_rfl)) ?_
        refine DE.eff0 (fun e_ c hk L_ hs Q h => ?_) ?_
        · have hk_11 := hk.not
          simp only [addE, hk_11, ↓reduceIte, cond_true, cond_false] at h ⊢
          refine W.sta 3 (O.length - 1) 0 (e := rnav p) (e' := .agg [.str (p.1 ++ r.1), .sl 1 (p.2.map AV.str)]) (.t (hs _ _ rfl)) (.t (hs _ _ rfl)) rfl (hgp h0) (by omega) ty9 rfl rfl rfl rfl rfl rfl rfl ?_
          exact h
        refine DE.nil (fun c_ e_ he_ => ?_)
        simp only [he_ 11 (by decide), cond_true, cond_false]
        refine W.blk_normal ?_
        refine W.then ?_
        refine W.region ?_
        first | refine W.q (Ev.add (.t rfl) .k (fun _ => by omega)) rfl ?_ | refine W.q (Ev.addw (.t rfl) .k) rfl ?_
        refine W.q (Ev.move (.t rfl)) rfl ?_
        refine W.nil ?_
        refine W.then ?_
        first
        | (refine W.reach (D := [_, _]) (i + 1, v6) ⟨rfl, rfl, rfl, rfl, rfl, trivial⟩ (by rw [hnt, ← hgr]; exact ((List.perm_middle (l₁ := [_, _, _])).trans <| List.Perm.cons _ <| (List.perm_middle (l₁ := [_])).trans <| List.Perm.cons _ <| List.Perm.cons _ <| List.Perm.cons _ <| .refl _)) ⟨by show i + 1 ≤ _; omega, by show _ - (i + 1) < _; omega⟩)
        | (refine W.reach (D := [_, _]) (i + 1, v75) ⟨rfl, rfl, rfl, rfl, rfl, trivial⟩ (by rw [hnt, hpn, List.map_append]; exact ((List.perm_middle (l₁ := [_, _, _])).trans <| List.Perm.cons _ <| (List.perm_middle (l₁ := [_])).trans <| List.Perm.cons _ <| List.Perm.cons _ <| List.Perm.cons _ <| .refl _)) ⟨by show i + 1 ≤ _; omega, by show _ - (i + 1) < _; omega⟩)
        | (refine W.reach (D := [_, _]) (i + 1, v6) ⟨rfl, rfl, rfl, rfl, rfl, trivial⟩ (by rw [hnt, hpn]; exact ((List.perm_middle (l₁ := [_, _, _])).trans <| List.Perm.cons _ <| (List.perm_middle (l₁ := [_])).trans <| List.Perm.cons _ <| List.Perm.cons _ <| List.Perm.cons _ <| .refl _)) ⟨by show i + 1 ≤ _; omega, by show _ - (i + 1) < _; omega⟩)
      · have hb : ¬ (0 < O.length ∧ (O.getD (O.length - 1) ([], [])).2 = Mrk.mks ms r) := by rw [hp]; simp at hc_t57; rintro ⟨h1, h2⟩; exact hc_t57 (by omega) h2
        have hpn := Mrk.push_not O (r.1, Mrk.mks ms r) hb
        refine W.seq ?_
        refine W.region ?_
        first | refine W.q (Ev.fae (.t rfl) fa49_0 rfl) rfl ?_ | refine W.q (Ev.fab (.t rfl) fa49_0) rfl ?_ | refine W.q (Ev.faa (.t rfl) fa49_0) rfl ?_
        first | refine W.q (Ev.lde1 (.t rfl) ag9) rfl ?_ | refine W.q (Ev.ldb1 0 (.t rfl) rfl ag9 rfl) rfl ?_ | refine W.q (Ev.ldb1 1 (.t rfl) rfl ag9 rfl) rfl ?_ | refine W.q (Ev.ldb1 2 (.t rfl) rfl ag9 rfl) rfl ?_ | refine W.q (Ev.ldb1 3 (.t rfl) rfl ag9 rfl) rfl ?_ | refine W.q (Ev.ldb1 4 (.t rfl) rfl ag9 rfl) rfl ?_ | refine W.q (Ev.ldb1 5 (.t rfl) rfl ag9 rfl) rfl ?_
        refine W.q (Ev.nes (.t rfl) .k) rfl ?_
        refine W.nil ?_
        refine W.then ?_
        refine W.cond (.t rfl) (fun hc_t71 => ?_) (fun hc_t71 => ?_)
        · have hne : r.1 ≠ [] := by simpa using hc_t71
          rw [if_neg hne] at hpn
          refine W.region ?_
          refine W.q (Ev.move (.t rfl)) rfl ?_
          first | refine W.q (Ev.lden (.t rfl) ag49 ty49 rfl rfl) rfl ?_ | refine W.q (Ev.ldbn 0 (.t rfl) rfl ag49 ty49 rfl) rfl ?_ | refine W.q (Ev.ldbn 1 (.t rfl) rfl ag49 ty49 rfl) rfl ?_ | refine W.q (Ev.ldbn 2 (.t rfl) rfl ag49 ty49 rfl) rfl ?_ | refine W.q (Ev.ldbn 3 (.t rfl) rfl ag49 ty49 rfl) rfl ?_ | refine W.q (Ev.ldbn 4 (.t rfl) rfl ag49 ty49 rfl) rfl ?_ | refine W.q (Ev.ldbn 5 (.t rfl) rfl ag49 ty49 rfl) rfl ?_
          refine W.bs (es := [_]) Tryd.underlying29 ty49 ⟨rfl, (.t rfl), rfl, rfl, trivial⟩ rfl (by decide) rfl rfl ?_
          first | refine W.app 0 (.t rfl) rfl (.sl (.t rfl) (by first | (simp [AV.okc, shV]; done) | (intro e he; rw [List.mem_singleton.1 he]; rfl))) Tryd.underlying29 ni29 ty49 rfl rfl (by simp only [List.length_map, List.length_cons, List.length_nil]; omega) rfl ?_ | refine W.app 1 (.t rfl) rfl (.sl (.t rfl) (by first | (simp [AV.okc, shV]; done) | (intro e he; rw [List.mem_singleton.1 he]; rfl))) Tryd.underlying29 ni29 ty49 rfl rfl (by simp only [List.length_map, List.length_cons, List.length_nil]; omega) rfl ?_ | refine W.app 2 (.t rfl) rfl (.sl (.t rfl) (by first | (simp [AV.okc, shV]; done) | (intro e he; rw [List.mem_singleton.1 he]; rfl))) Tryd.underlying29 ni29 ty49 rfl rfl (by simp only [List.length_map, List.length_cons, List.length_nil]; omega) rfl ?_ | refine W.app 3 (.t rfl) rfl (.sl (.t rfl) (by first | (simp [AV.okc, shV]; done) | (intro e he; rw [List.mem_singleton.1 he]; rfl))) Tryd.underlying29 ni29 ty49 rfl rfl (by simp only [List.length_map, List.length_cons, List.length_nil]; omega) rfl ?_ | refine W.app 4 (.t rfl) rfl (.sl (.t rfl) (by first | (simp [AV.okc, shV]; done) | (intro e he; rw [List.mem_singleton.1 he]; rfl))) Tryd.underlying29 ni29 ty49 rfl rfl (by simp only [List.length_map, List.length_cons, List.length_nil]; omega) rfl ?_ | refine W.app 5 (.t rfl) rfl (.sl (.t rfl) (by first | (simp [AV.okc, shV]; done) | (intro e he; rw [List.mem_singleton.1 he]; rfl))) Tryd.underlying29 ni29 ty49 rfl rfl (by simp only [List.length_map, List.length_cons, List.length_nil]; omega) rfl ?_ | refine W.app 0 (.t rfl) rfl (.arr 0 (.t rfl) rfl (by first | (simp [AV.okc, shV]; done) | (intro e he; rw [List.mem_singleton.1 he]; rfl))) Tryd.underlying29 ni29 ty49 rfl rfl (by simp only [List.length_map, List.length_cons, List.length_nil]; omega) rfl ?_ | refine W.app 0 (.t rfl) rfl (.arr 1 (.t rfl) rfl (by first | (simp [AV.okc, shV]; done) | (intro e he; rw [List.mem_singleton.1 he]; rfl))) Tryd.underlying29 ni29 ty49 rfl rfl (by simp only [List.length_map, List.length_cons, List.length_nil]; omega) rfl ?_ | refine W.app 0 (.t rfl) rfl (.arr 2 (.t rfl) rfl (by first | (simp [AV.okc, shV]; done) | (intro e he; rw [List.mem_singleton.1 he]; rfl))) Tryd.underlying29 ni29 ty49 rfl rfl (by simp only [List.length_map, List.length_cons, List.length_nil]; omega) rfl ?_ | refine W.app 0 (.t rfl) rfl (.arr 3 (.t rfl) rfl (by first | (simp [AV.okc, shV]; done) | (intro e he; rw [List.mem_singleton.1 he]; rfl))) Tryd.underlying29 ni29 ty49 rfl rfl (by simp only [List.length_map, List.length_cons, List.length_nil]; omega) rfl ?_ | refine W.app 0 (.t rfl) rfl (.arr 4 (.t rfl) rfl (by first | (simp [AV.okc, shV]; done) | (intro e he; rw [List.mem_singleton.1 he]; rfl))) Tryd.underlying29 ni29 ty49 rfl rfl (by simp only [List.length_map, List.length_cons, List.length_nil]; omega) rfl ?_ | refine W.app 0 (.t rfl) rfl (.arr 5 (.t rfl) rfl (by first | (simp [AV.okc, shV]; done) | (intro e he; rw [List.mem_singleton.1 he]; rfl))) Tryd.underlying29 ni29 ty49 rfl rfl (by simp only [List.length_map, List.length_cons, List.length_nil]; omega) rfl ?_ | refine W.app 1 (.t rfl) rfl (.arr 0 (.t rfl) rfl (by first | (simp [AV.okc, shV]; done) | (intro e he; rw [List.mem_singleton.1 he]; rfl))) Tryd.underlying29 ni29 ty49 rfl rfl (by simp only [List.length_map, List.length_cons, List.length_nil]; omega) rfl ?_ | refine W.app 1 (.t rfl) rfl (.arr 1 (.t rfl) rfl (by first | (simp [AV.okc, shV]; done) | (intro e he; rw [List.mem_singleton.1 he]; rfl))) Tryd.underlying29 ni29 ty49 rfl rfl (by simp only [List.length_map, List.length_cons, List.length_nil]; omega) rfl ?_ | refine W.app 1 (.t rfl) rfl (.arr 2 (.t rfl) rfl (by first | (simp [AV.okc, shV]; done) | (intro e he; rw [List.mem_singleton.1 he]; rfl))) Tryd.underlying29 ni29 ty49 rfl rfl (by simp only [List.length_map, List.length_cons, List.length_nil]; omega) rfl ?_ | refine W.app 1 (.t rfl) rfl (.arr 3 (.t rfl) rfl (by first | (simp [AV.okc, shV]; done) | (intro e he; rw [List.mem_singleton.1 he]; rfl))) Tryd.underlying29 ni29 ty49 rfl rfl (by simp only [List.length_map, List.length_cons, List.length_nil]; omega) rfl ?_ | refine W.app 1 (.t rfl) rfl (.arr 4 (.t rfl) rfl (by first | (simp [AV.okc, shV]; done) | (intro e he; rw [List.mem_singleton.1 he]; rfl))) Tryd.underlying29 ni29 ty49 rfl rfl (by simp only [List.length_map, List.length_cons, List.length_nil]; omega) rfl ?_ | refine W.app 1 (.t rfl) rfl (.arr 5 (.t rfl) rfl (by first | (simp [AV.okc, shV]; done) | (intro e he; rw [List.mem_singleton.1 he]; rfl))) Tryd.underlying29 ni29 ty49 rfl rfl (by simp only [List.length_map, List.length_cons, List.length_nil]; omega) rfl ?_ | refine W.app 2 (.t rfl) rfl (.arr 0 (.t rfl) rfl (by first | (simp [AV.okc, shV]; done) | (intro e he; rw [List.mem_singleton.1 he]; rfl))) Tryd.underlying29 ni29 ty49 rfl rfl (by simp only [List.length_map, List.length_cons, List.length_nil]; omega) rfl ?_ | refine W.app 2 (.t rfl) rfl (.arr 1 (.t rfl) rfl (by first | (simp [AV.okc, shV]; done) | (intro e he; rw [List.mem_singleton.1 he]; rfl))) Tryd.underlying29 ni29 ty49 rfl rfl (by simp only [List.length_map, List.length_cons, List.length_nil]; omega) rfl ?_ | refine W.app 2 (.t rfl) rfl (.arr 2 (.t rfl) rfl (by first | (simp [AV.okc, shV]; done) | (intro e he; rw [List.mem_singleton.1 he]; rfl))) Tryd.underlying29 ni29 ty49 rfl rfl (by simp only [List.length_map, List.length_cons, List.length_nil]; omega) rfl ?_ | refine W.app 2 (.t rfl) rfl (.arr 3 (.t rfl) rfl (by first | (simp [AV.okc, shV]; done) | (intro e he; rw [List.mem_singleton.1 he]; rfl))) Tryd.underlying29 ni29 ty49 rfl rfl (by simp only [List.length_map, List.length_cons, List.length_nil]; omega) rfl ?_ | refine W.app 2 (.t rfl) rfl (.arr 4 (.t rfl) rfl (by first | (simp [AV.okc, shV]; done) | (intro e he; rw [List.mem_singleton.1 he]; rfl))) Tryd.underlying29 ni29 ty49 rfl rfl (by simp only [List.length_map, List.length_cons, List.length_nil]; omega) rfl ?_ | refine W.app 2 (.t rfl) rfl (.arr 5 (.t rfl) rfl (by first | (simp [AV.okc, shV]; done) | (intro e he; rw [List.mem_singleton.1 he]; rfl))) Tryd.underlying29 ni29 ty49 rfl rfl (by simp only [List.length_map, List.length_cons, List.length_nil]; omega) rfl ?_ | refine W.app 3 (.t rfl) rfl (.arr 0 (.t rfl) rfl (by first | (simp [AV.okc, shV]; done) | (intro e he; rw [List.mem_singleton.1 he]; rfl))) Tryd.underlying29 ni29 ty49 rfl rfl (by simp only [List.length_map, List.length_cons, List.length_nil]; omega) rfl ?_ | refine W.app 3 (.t rfl) rfl (.arr 1 (.t rfl) rfl (by first | (simp [AV.okc, shV]; done) | (intro e he; rw [List.mem_singleton.1 he]; rfl))) Tryd.underlying29 ni29 ty49 rfl rfl (by simp only [List.length_map, List.length_cons, List.length_nil]; omega) rfl ?_ | refine W.app 3 (.t rfl) rfl (.arr 2 (.t rfl) rfl (by first | (simp [AV.okc, shV]; done) | (intro e he; rw [List.mem_singleton.1 he]; rfl))) Tryd.underlying29 ni29 ty49 rfl rfl (by simp only [List.length_map, List.length_cons, List.length_nil]; omega) rfl ?_ | refine W.app 3 (.t rfl) rfl (.arr 3 (.t rfl) rfl (by first | (simp [AV.okc, shV]; done) | (intro e he; rw [List.mem_singleton.1 he]; rfl))) Tryd.underlying29 ni29 ty49 rfl rfl (by simp only [List.length_map, List.length_cons, List.length_nil]; omega) rfl ?_ | refine W.app 3 (.t rfl) rfl (.arr 4 (.t rfl) rfl (by first | (simp [AV.okc, shV]; done) | (intro e he; rw [List.mem_singleton.1 he]; rfl))) Tryd.underlying29 ni29 ty49 rfl rfl (by simp only [List.length_map, List.length_cons, List.length_nil]; omega) rfl ?_ | refine W.app 3 (.t rfl) rfl (.arr 5 (.t rfl) rfl (by first | (simp [AV.okc, shV]; done) | (intro e he; rw [List.mem_singleton.1 he]; rfl))) Tryd.underlying29 ni29 ty49 rfl rfl (by simp only [List.length_map, List.length_cons, List.length_nil]; omega) rfl ?_ | refine W.app 4 (.t rfl) rfl (.arr 0 (.t rfl) rfl (by first | (simp [AV.okc, shV]; done) | (intro e he; rw [List.mem_singleton.1 he]; rfl))) Tryd.underlying29 ni29 ty49 rfl rfl (by simp only [List.length_map, List.length_cons, List.length_nil]; omega) rfl ?_ | refine W.app 4 (.t rfl) rfl (.arr 1 (.t rfl) rfl (by first | (simp [AV.okc, shV]; done) | (intro e he; rw [List.mem_singleton.1 he]; rfl))) Tryd.underlying29 ni29 ty49 rfl rfl (by simp only [List.length_map, List.length_cons, List.length_nil]; omega) rfl ?_ | refine W.app 4 (.t rfl) rfl (.arr 2 (.t rfl) rfl (by first | (simp [AV.okc, shV]; done) | (intro e he; rw [List.mem_singleton.1 he]; rfl))) Tryd.underlying29 ni29 ty49 rfl rfl (by simp only [List.length_map, List.length_cons, List.length_nil]; omega) rfl ?_ | refine W.app 4 (.t rfl) rfl (.arr 3 (.t rfl) rfl (by first | (simp [AV.okc, shV]; done) | (intro e he; rw [List.mem_singleton.1 he]; rfl))) Tryd.underlying29 ni29 ty49 rfl rfl (by simp only [List.length_map, List.length_cons, List.length_nil]; omega) rfl ?_ | refine W.app 4 (.t rfl) rfl (.arr 4 (.t rfl) rfl (by first | (simp [AV.okc, shV]; done) | (intro e he; rw [List.mem_singleton.1 he]; rfl))) Tryd.underlying29 ni29 ty49 rfl rfl (by simp only [List.length_map, List.length_cons, List.length_nil]; omega) rfl ?_ | refine W.app 4 (.t rfl) rfl (.arr 5 (.t rfl) rfl (by first | (simp [AV.okc, shV]; done) | (intro e he; rw [List.mem_singleton.1 he]; rfl))) Tryd.underlying29 ni29 ty49 rfl rfl (by simp only [List.length_map, List.length_cons, List.length_nil]; omega) rfl ?_ | refine W.app 5 (.t rfl) rfl (.arr 0 (.t rfl) rfl (by first | (simp [AV.okc, shV]; done) | (intro e he; rw [List.mem_singleton.1 he]; rfl))) Tryd.underlying29 ni29 ty49 rfl rfl (by simp only [List.length_map, List.length_cons, List.length_nil]; omega) rfl ?_ | refine W.app 5 (.t rfl) rfl (.arr 1 (.t rfl) rfl (by first | (simp [AV.okc, shV]; done) | (intro e he; rw [List.mem_singleton.1 he]; rfl))) Tryd.underlying29 ni29 ty49 rfl rfl (by simp only [List.length_map, List.length_cons, List.length_nil]; omega) rfl ?_ | refine W.app 5 (.t rfl) rfl (.arr 2 (.t rfl) rfl (by first | (simp [AV.okc, shV]; done) | (intro e he; rw [List.mem_singleton.1 he]; rfl))) Tryd.underlying29 ni29 ty49 rfl rfl (by simp only [List.length_map, List.length_cons, List.length_nil]; omega) rfl ?_ | refine W.app 5 (.t rfl) rfl (.arr 3 (.t rfl) rfl (by first | (simp [AV.okc, shV]; done) | (intro e he; rw [List.mem_singleton.1 he]; rfl))) Tryd.underlying29 ni29 ty49 rfl rfl (by simp only [List.length_map, List.length_cons, List.length_nil]; omega) rfl ?_ | refine W.app 5 (.t rfl) rfl (.arr 4 (.t rfl) rfl (by first | (simp [AV.okc, shV]; done) | (intro e he; rw [List.mem_singleton.1 he]; rfl))) Tryd.underlying29 ni29 ty49 rfl rfl (by simp only [List.length_map, List.length_cons, List.length_nil]; omega) rfl ?_ | refine W.app 5 (.t rfl) rfl (.arr 5 (.t rfl) rfl (by first | (simp [AV.okc, shV]; done) | (intro e he; rw [List.mem_singleton.1 he]; rfl))) Tryd.underlying29 ni29 ty49 rfl rfl (by simp only [List.length_map, List.length_cons, List.length_nil]; omega) rfl ?_
          intro v75
          refine W.q (Ev.assign (.t rfl)) rfl ?_
          refine W.nil ?_
          refine W.blk_normal ?_
          refine W.then ?_
          refine W.region ?_
          first | refine W.q (Ev.add (.t rfl) .k (fun _ => by omega)) rfl ?_ | refine W.q (Ev.addw (.t rfl) .k) rfl ?_
          refine W.q (Ev.move (.t rfl)) rfl ?_
          refine W.nil ?_
          refine W.then ?_
          first
          | (refine W.reach (D := [_, _]) (i + 1, v6) ⟨rfl, rfl, rfl, rfl, rfl, trivial⟩ (by rw [hnt, ← hgr]; exact ((List.perm_middle (l₁ := [_, _, _])).trans <| List.Perm.cons _ <| (List.perm_middle (l₁ := [_])).trans <| List.Perm.cons _ <| List.Perm.cons _ <| List.Perm.cons _ <| .refl _)) ⟨by show i + 1 ≤ _; omega, by show _ - (i + 1) < _; omega⟩)
          | (refine W.reach (D := [_, _]) (i + 1, v75) ⟨rfl, rfl, rfl, rfl, rfl, trivial⟩ (by rw [hnt, hpn, List.map_append]; exact ((List.perm_middle (l₁ := [_, _, _])).trans <| List.Perm.cons _ <| (List.perm_middle (l₁ := [_])).trans <| List.Perm.cons _ <| List.Perm.cons _ <| List.Perm.cons _ <| .refl _)) ⟨by show i + 1 ≤ _; omega, by show _ - (i + 1) < _; omega⟩)
          | (refine W.reach (D := [_, _]) (i + 1, v6) ⟨rfl, rfl, rfl, rfl, rfl, trivial⟩ (by rw [hnt, hpn]; exact ((List.perm_middle (l₁ := [_, _, _])).trans <| List.Perm.cons _ <| (List.perm_middle (l₁ := [_])).trans <| List.Perm.cons _ <| List.Perm.cons _ <| List.Perm.cons _ <| .refl _)) ⟨by show i + 1 ≤ _; omega, by show _ - (i + 1) < _; omega⟩)
        · have hne : r.1 = [] := by simpa using hc_t71
          rw [if_pos hne] at hpn
          refine W.skip ?_
          refine W.blk_normal ?_
          refine W.then ?_
          refine W.region ?_
          first | refine W.q (Ev.add (.t rfl) .k (fun _ => by omega)) rfl ?_ | refine W.q (Ev.addw (.t rfl) .k) rfl ?_
          refine W.q (Ev.move (.t rfl)) rfl ?_
          refine W.nil ?_
          refine W.then ?_
          first
          | (refine W.reach (D := [_, _]) (i + 1, v6) ⟨rfl, rfl, rfl, rfl, rfl, trivial⟩ (by rw [hnt, ← hgr]; exact ((List.perm_middle (l₁ := [_, _, _])).trans <| List.Perm.cons _ <| (List.perm_middle (l₁ := [_])).trans <| List.Perm.cons _ <| List.Perm.cons _ <| List.Perm.cons _ <| .refl _)) ⟨by show i + 1 ≤ _; omega, by show _ - (i + 1) < _; omega⟩)
          | (refine W.reach (D := [_, _]) (i + 1, v75) ⟨rfl, rfl, rfl, rfl, rfl, trivial⟩ (by rw [hnt, hpn, List.map_append]; exact ((List.perm_middle (l₁ := [_, _, _])).trans <| List.Perm.cons _ <| (List.perm_middle (l₁ := [_])).trans <| List.Perm.cons _ <| List.Perm.cons _ <| List.Perm.cons _ <| .refl _)) ⟨by show i + 1 ≤ _; omega, by show _ - (i + 1) < _; omega⟩)
          | (refine W.reach (D := [_, _]) (i + 1, v6) ⟨rfl, rfl, rfl, rfl, rfl, trivial⟩ (by rw [hnt, hpn]; exact ((List.perm_middle (l₁ := [_, _, _])).trans <| List.Perm.cons _ <| (List.perm_middle (l₁ := [_])).trans <| List.Perm.cons _ <| List.Perm.cons _ <| List.Perm.cons _ <| .refl _)) ⟨by show i + 1 ≤ _; omega, by show _ - (i + 1) < _; omega⟩)
  · have he : l.take i = l := List.take_of_length_le (by omega)
    rw [he]
    refine W.seq ?_
    refine W.region ?_
    refine W.q (Ev.lti (.t rfl) (.t rfl)) rfl ?_
    refine W.nil ?_
    refine W.then ?_
    refine W.seq ?_
    refine W.is (t := 16) (g := true) (av' := .lit (.bool false)) rfl (congrArg (fun b => AV.lit (.bool b)) (by exact decide_eq_false (by omega))) ?_
    refine W.condF (.t rfl) ?_
    refine W.exit ?_
    refine W.then_exit ?_
    refine W.then_exit ?_
    refine W.blk_hit ?_
    refine W.then ?_
    refine W.seq ?_
    refine W.region ?_
    refine W.q (Ev.move (.t rfl)) rfl ?_
    refine W.q (Ev.assign (.t rfl)) rfl ?_
    refine W.q (Ev.assign .k) rfl ?_
    refine W.nil ?_
    refine W.then ?_
    refine W.ret ?_
    refine W.freezeA (M1 := [_]) (M2 := [_]) (D := []) (v := v6) (L' := [(4, true, .sl 2 ((Mrk.norm ms l).map rnav))]) (.refl _) ⟨⟨_, rfl, .one .hit⟩, trivial⟩ (FrzMs.refl _) ?_
    refine W.retn (M' := []) (D := [_]) (rs := [.tmp 4, .tmp 5]) (avs := [_, _]) Tryd.results36 ⟨rfl, rfl, trivial⟩ rfl (.refl _) ?_
    exact ⟨rfl, rfl⟩

end WMNorm

end Go.Proofs.YtlglnmafddnmmaaDoor
end

section
set_option linter.unusedVariables false
set_option linter.unusedSimpArgs false
set_option maxRecDepth 100000
namespace Go.Proofs.YtlglnmafddnmmaaDoor
open Go.Vl

namespace WMNorms

theorem c_Norm (ms : List (List UInt8)) (hg : Mrk.good ms) (l : List Rn) (hl : l.length ≤ 60) (hin : ∀ r ∈ l, ∀ m ∈ r.2, m ∈ ms) (hr2 : ∀ r ∈ l, r.2.length ≤ 1000) (htx : (Mrk.tx l).length ≤ 1000000) (M0 : List ME) (hF : FnC Tryd.prog 58 [.str Mrk.oddT] M0 (fun r M => r = .sl 1 (Mrk.odd.map AV.str) ∧ M = M0)) : FnC Tryd.prog 19 [.sl 1 (ms.map AV.str), .sl 2 (l.map rnav)] M0 (fun r M => r = .tup [.sl 2 ((Mrk.norm ms l).map rnav), .int 0] ∧ M = M0) :=  by
  refine FnC.mk Tryd.func19 (by kernel_rfl) rfl Tryd.ntmps19 rfl (fun w0 F => ?_)
  have hlen := hg.len
  refine W.seq ?_
  refine W.region ?_
  refine W.q (Ev.assign .k) rfl ?_
  refine W.q (Ev.assign .k) rfl ?_
  refine W.nil ?_
  refine W.then ?_
  refine W.seq ?_
  refine W.seq ?_
  refine W.region ?_
  refine W.q (Ev.move (.t rfl)) rfl ?_
  refine W.q (Ev.move (.t rfl)) rfl ?_
  refine W.call (WMCheck.c_fault ms hg l hl M0 hF) ⟨(.t rfl), (.t rfl), trivial⟩ ((List.Perm.of_eq (List.append_nil M0).symm)) rfl ?_
  rintro _ M' ⟨rfl, hM'⟩
  rw [hM', List.append_nil]
  refine W.q (Ev.assign (.t rfl)) rfl ?_
  refine W.nil ?_
  refine W.then ?_
  refine W.seq ?_
  refine W.region ?_
  refine W.q (Ev.move (.t rfl)) rfl ?_
  refine W.q (Ev.nei (.t rfl) .k) rfl ?_
  refine W.nil ?_
  refine W.then ?_
  refine W.is (t := 11) (g := true) (av' := .lit (.bool false)) rfl (congrArg (fun b => AV.lit (.bool b)) (by rfl)) ?_
  refine W.condF (.t rfl) ?_
  refine W.skip ?_
  refine W.then ?_
  refine W.seq ?_
  refine W.region ?_
  refine W.q (Ev.move (.t rfl)) rfl ?_
  refine W.q (Ev.move (.t rfl)) rfl ?_
  refine W.callp (WMNorm.c_norm ms (by omega) l (by omega) hin hr2 htx) ⟨(.t rfl), (.t rfl), trivial⟩ rfl ?_
  refine W.q (Ev.extract (.t rfl) rfl) rfl ?_
  refine W.q (Ev.extract (.t rfl) rfl) rfl ?_
  refine W.q (Ev.assign (.t rfl)) rfl ?_
  refine W.q (Ev.assign (.t rfl)) rfl ?_
  refine W.nil ?_
  refine W.then ?_
  refine W.ret ?_
  refine W.retn (M' := M0) (D := []) (rs := [.tmp 4, .tmp 5]) (avs := [_, _]) Tryd.results19 ⟨rfl, rfl, trivial⟩ rfl (List.Perm.of_eq (List.append_nil M0).symm) ?_
  exact ⟨rfl, rfl⟩

end WMNorms

end Go.Proofs.YtlglnmafddnmmaaDoor
end

section
set_option linter.unusedVariables false
set_option linter.unusedSimpArgs false
set_option maxRecDepth 100000
namespace Go.Proofs.YtlglnmafddnmmaaDoor
open Go.Vl

namespace WMNests

theorem c_Nest (ms : List (List UInt8)) (hg : Mrk.good ms) (l : List Rn) (hl : l.length ≤ 60) (hin : ∀ r ∈ l, ∀ m ∈ r.2, m ∈ ms) (hr2 : ∀ r ∈ l, r.2.length ≤ 1000) (htx : (Mrk.tx l).length ≤ 1000000) (M0 : List ME) (hF : FnC Tryd.prog 58 [.str Mrk.oddT] M0 (fun r M => r = .sl 1 (Mrk.odd.map AV.str) ∧ M = M0)) : FnC Tryd.prog 11 [.sl 1 (ms.map AV.str), .sl 2 (l.map rnav)] M0 (fun r M => r = .tup [.sl 4 ((Mrk.nst 0 (Mrk.norm ms l)).map Nd.av), .int 0] ∧ M = M0) :=  by
  refine FnC.mk Tryd.func11 (by kernel_rfl) rfl Tryd.ntmps11 rfl (fun w0 F => ?_)
  have hlen := hg.len
  have hnl := Mrk.norm_len ms l
  have hml2 := Mrk.norm_ml ms l
  refine W.seq ?_
  refine W.region ?_
  refine W.q (Ev.assign .k) rfl ?_
  refine W.q (Ev.assign .k) rfl ?_
  refine W.nil ?_
  refine W.then ?_
  refine W.seq ?_
  refine W.region ?_
  refine W.q (Ev.move (.t rfl)) rfl ?_
  refine W.q (Ev.move (.t rfl)) rfl ?_
  refine W.call (WMNorms.c_Norm ms hg l hl hin hr2 htx M0 hF) ⟨(.t rfl), (.t rfl), trivial⟩ ((List.Perm.of_eq (List.append_nil M0).symm)) rfl ?_
  rintro _ M' ⟨rfl, hM'⟩
  rw [hM', List.append_nil]
  refine W.q (Ev.move (.t rfl)) rfl ?_
  refine W.q (Ev.extract (.t rfl) rfl) rfl ?_
  refine W.q (Ev.extract (.t rfl) rfl) rfl ?_
  refine W.q (Ev.assign (.t rfl)) rfl ?_
  refine W.q (Ev.assign (.t rfl)) rfl ?_
  refine W.nil ?_
  refine W.then ?_
  refine W.seq ?_
  refine W.seq ?_
  refine W.region ?_
  refine W.q (Ev.move (.t rfl)) rfl ?_
  refine W.q (Ev.nei (.t rfl) .k) rfl ?_
  refine W.nil ?_
  refine W.then ?_
  refine W.is (t := 15) (g := true) (av' := .lit (.bool false)) rfl (congrArg (fun b => AV.lit (.bool b)) (by rfl)) ?_
  refine W.condF (.t rfl) ?_
  refine W.skip ?_
  refine W.then ?_
  refine W.seq ?_
  refine W.region ?_
  refine W.q (Ev.move (.t rfl)) rfl ?_
  refine W.callp (WMNest.c_nest 0 (Mrk.norm ms l) (by omega) (by omega) (fun r hr => ⟨Nat.zero_le _, by have := hml2 r hr; omega⟩)) ⟨(.t rfl), .k, trivial⟩ rfl ?_
  refine W.q (Ev.assign (.t rfl)) rfl ?_
  refine W.q (Ev.assign .k) rfl ?_
  refine W.nil ?_
  refine W.then ?_
  refine W.ret ?_
  refine W.retn (M' := M0) (D := []) (rs := [.tmp 4, .tmp 5]) (avs := [_, _]) Tryd.results11 ⟨rfl, rfl, trivial⟩ rfl (List.Perm.of_eq (List.append_nil M0).symm) ?_
  exact ⟨rfl, rfl⟩

end WMNests

end Go.Proofs.YtlglnmafddnmmaaDoor
end

section
set_option linter.unusedVariables false
set_option linter.unusedSimpArgs false
set_option maxRecDepth 100000
namespace Go.Proofs.YtlglnmafddnmmaaDoor
open Go.Vl

namespace WMSure
theorem ty9 : Ty Tryd.prog 9 1 16 (.string ⟨#[]⟩) := Ty.of (by kernel_rfl)
theorem ty23 : Ty Tryd.prog 23 1 24 (.slice none 0 0) := Ty.of (by kernel_rfl)
theorem ty49 : Ty Tryd.prog 49 2 40 (.agg #[.string ⟨#[]⟩, .slice none 0 0]) := Ty.of (by kernel_rfl)
theorem ty69 : Ty Tryd.prog 69 4 80 (.agg #[.string ⟨#[]⟩, .slice none 0 0, .string ⟨#[]⟩, .slice none 0 0]) := Ty.of (by kernel_rfl)
theorem ag9 : IsAgg Tryd.prog 9 false := ⟨_, Tryd.underlying9, rfl⟩
theorem fa69_0 : FieldAt Tryd.prog 69 0 0 1 false := ⟨_, _, Tryd.underlying69, rfl, rfl, ty9.size, ag9, by decide⟩
theorem st49 : StructAt Tryd.prog 49 [(0, 1), (1, 1)] := ⟨_, Tryd.underlying49, rfl, ty9.size, rfl, ty23.size, trivial⟩
theorem c_marksSure (M0 : List ME) (hF : FnC Tryd.prog 58 [.str Mrk.oddT] M0 (fun r M => r = .sl 1 (Mrk.odd.map AV.str) ∧ M = M0)) : FnC Tryd.prog 13 [] M0 (fun r M => r = .bool true ∧ M = M0) :=  by
  refine FnC.mk Tryd.func13 (by kernel_rfl) rfl Tryd.ntmps13 rfl (fun w0 F => ?_)
  have hone : Mrk.nst 0 (Mrk.norm [[98]] [([120], [[98]])]) = [Nd.mk [98] [] [] [Nd.mk [] [] [120] []]] := by kernel_rfl
  have hgd : Mrk.good [[98]] := Mrk.good_of (by decide) (by kernel_rfl) (by kernel_rfl) (by decide)
  refine W.seq ?_
  refine W.region ?_
  refine W.q (Ev.assign .k) rfl ?_
  refine W.nil ?_
  refine W.then ?_
  refine W.seq ?_
  refine W.region ?_
  refine W.bs (es := [_]) Tryd.underlying23 ty9 ⟨rfl, .k, rfl, rfl, trivial⟩ rfl (by decide) rfl rfl ?_
  refine W.bs (es := [_]) Tryd.underlying23 ty9 ⟨rfl, .k, rfl, rfl, trivial⟩ rfl (by decide) rfl rfl ?_
  refine W.q (Ev.build ty49 st49 rfl (fun hg => ⟨_, _, _, rfl, .k, rfl, rfl, rfl, _, _, _, rfl, (.t rfl), rfl, rfl, rfl, rfl⟩)) rfl ?_
  refine W.bs (es := [_]) Tryd.underlying29 ty49 ⟨rfl, (.t rfl), rfl, rfl, trivial⟩ rfl (by decide) rfl rfl ?_
  refine W.call (WMNests.c_Nest [[98]] hgd [([120], [[98]])] (by decide) (by decide) (by decide) (by decide) M0 hF) ⟨(.t rfl), (.t rfl), trivial⟩ ((List.Perm.of_eq (List.append_nil M0).symm)) rfl ?_
  rintro _ M' ⟨rfl, hM'⟩
  rw [hM', List.append_nil, hone]
  refine W.q (Ev.move (.t rfl)) rfl ?_
  refine W.q (Ev.extract (.t rfl) rfl) rfl ?_
  refine W.q (Ev.extract (.t rfl) rfl) rfl ?_
  refine W.q (Ev.assign (.t rfl)) rfl ?_
  refine W.q (Ev.assign (.t rfl)) rfl ?_
  refine W.nil ?_
  refine W.then ?_
  refine W.seq ?_
  refine W.region ?_
  refine W.q (Ev.move (.t rfl)) rfl ?_
  refine W.q (Ev.eqi (.t rfl) .k) rfl ?_
  refine W.q (Ev.move (.t rfl)) rfl ?_
  refine W.gyes rfl rfl ?_
  refine W.q (Ev.move (.t rfl)) rfl ?_
  refine W.gyes rfl rfl ?_
  first | refine W.q (Ev.lensl (.t rfl) Tryd.underlying25) rfl ?_ | refine W.q (Ev.lenar (i := 0) (.t rfl) rfl Tryd.underlying25) rfl ?_ | refine W.q (Ev.lenar (i := 1) (.t rfl) rfl Tryd.underlying25) rfl ?_ | refine W.q (Ev.lenar (i := 2) (.t rfl) rfl Tryd.underlying25) rfl ?_ | refine W.q (Ev.lenar (i := 3) (.t rfl) rfl Tryd.underlying25) rfl ?_
  refine W.gyes rfl rfl ?_
  refine W.q (Ev.eqi (.t rfl) .k) rfl ?_
  refine W.q (Ev.and (.t rfl) ⟨_, _, rfl, rfl, by first | (simp; done) | (intro hg_ hp_; simp [hp_]; done) | (simp <;> omega; done) | (simp_all; done) | grind⟩) rfl ?_
  refine W.q (Ev.move (.t rfl)) rfl ?_
  refine W.gyes rfl rfl ?_
  refine W.q (Ev.move (.t rfl)) rfl ?_
  refine W.gyes rfl rfl ?_
  refine W.q (Ev.at (E := 69) (e := Nd.avx (Nd.mk [98] [] [] [Nd.mk [] [] [120] []])) (.t rfl) .k Tryd.underlying25 ty69 (fun _ => ⟨by decide, rfl⟩) rfl rfl) rfl ?_
  refine W.gyes rfl rfl ?_
  first | refine W.q (Ev.fae (.t rfl) fa69_0 rfl) rfl ?_ | refine W.q (Ev.fab (.t rfl) fa69_0) rfl ?_ | refine W.q (Ev.faa (.t rfl) fa69_0) rfl ?_
  refine W.gyes rfl rfl ?_
  first | refine W.q (Ev.lde1 (.t rfl) ag9) rfl ?_ | refine W.q (Ev.ldb1 0 (.t rfl) rfl ag9 rfl) rfl ?_ | refine W.q (Ev.ldb1 1 (.t rfl) rfl ag9 rfl) rfl ?_ | refine W.q (Ev.ldb1 2 (.t rfl) rfl ag9 rfl) rfl ?_ | refine W.q (Ev.ldb1 3 (.t rfl) rfl ag9 rfl) rfl ?_
  refine W.gyes rfl rfl ?_
  refine W.q (Ev.eqs (.t rfl) .k) rfl ?_
  refine W.q (Ev.and (.t rfl) ⟨_, _, rfl, rfl, by first | (simp; done) | (intro hg_ hp_; simp [hp_]; done) | (simp <;> omega; done) | (simp_all; done) | grind⟩) rfl ?_
  refine W.q (Ev.assign (.t rfl)) rfl ?_
  refine W.nil ?_
  refine W.then ?_
  refine W.ret ?_
  refine W.retn (M' := M0) (D := []) (rs := [.tmp 0]) (avs := [_]) Tryd.results13 ⟨rfl, trivial⟩ rfl (List.Perm.of_eq (List.append_nil M0).symm) ?_
  exact ⟨rfl, rfl⟩

end WMSure

end Go.Proofs.YtlglnmafddnmmaaDoor
end

section
set_option linter.unusedVariables false
set_option linter.unusedSimpArgs false
set_option maxRecDepth 100000
namespace Go.Proofs.YtlglnmafddnmmaaDoor
open Go.Vl

namespace WMBy
theorem ty9 : Ty Tryd.prog 9 1 16 (.string ⟨#[]⟩) := Ty.of (by kernel_rfl)
theorem ty25 : Ty Tryd.prog 25 1 24 (.slice none 0 0) := Ty.of (by kernel_rfl)
theorem ty69 : Ty Tryd.prog 69 4 80 (.agg #[.string ⟨#[]⟩, .slice none 0 0, .string ⟨#[]⟩, .slice none 0 0]) := Ty.of (by kernel_rfl)
theorem ag9 : IsAgg Tryd.prog 9 false := ⟨_, Tryd.underlying9, rfl⟩
theorem ag25 : IsAgg Tryd.prog 25 false := ⟨_, Tryd.underlying25, rfl⟩
theorem fa69_0 : FieldAt Tryd.prog 69 0 0 1 false := ⟨_, _, Tryd.underlying69, rfl, rfl, ty9.size, ag9, by decide⟩
theorem fa69_3 : FieldAt Tryd.prog 69 3 3 1 false := ⟨_, _, Tryd.underlying69, rfl, rfl, ty25.size, ag25, by decide⟩
theorem c_nestedBy_step (n : Nat) (hn : n ≤ 16777216) (ih : ∀ (ms : List (List UInt8)) (l : List Nd), Nd.szs l < n → ms.Nodup → ms.length ≤ 100 → Mrk.nbL ms [] l = true → FnP Tryd.prog 14 [.sl 4 (l.map Nd.av), .sl 1 (ms.map AV.str)] (.bool true)) (ms : List (List UInt8)) (l : List Nd) (hl : Nd.szs l = n) (hnd : ms.Nodup) (hms : ms.length ≤ 100) (hnb : Mrk.nbL ms [] l = true) : FnP Tryd.prog 14 [.sl 4 (l.map Nd.av), .sl 1 (ms.map AV.str)] (.bool true) :=  by
  refine FnC.mk Tryd.func14 (by kernel_rfl) rfl Tryd.ntmps14 rfl (fun w0 F => ?_)
  have hll : (l.map Nd.av).length = l.length := List.length_map ..
  have hsl := Nd.szs_len l
  have hml : (ms.map AV.str).length = ms.length := List.length_map ..
  refine W.seq ?_
  refine W.region ?_
  refine W.q (Ev.assign .k) rfl ?_
  refine W.nil ?_
  refine W.then ?_
  refine W.seq ?_
  refine W.seq ?_
  refine W.region ?_
  refine W.q (Ev.assign .k) rfl ?_
  refine W.nil ?_
  refine W.then ?_
  refine W.block ?_
  refine W.loop (D := []) (ι := Nat) (fun i => [(5, true, .int (i : Int)), (0, true, .sl 4 (l.map Nd.av)), (1, true, .sl 1 (ms.map AV.str))]) (fun _ => []) (fun i => i ≤ l.length ∧ Mrk.nbL ms (Mrk.pv l i) (l.drop i) = true) (fun i => l.length - i) 0 ⟨rfl, rfl, rfl, trivial⟩ (.refl _) ⟨Nat.zero_le _, hnb⟩ ?_
  rintro i ⟨hi, hi2⟩
  dsimp only at hi hi2 ⊢
  rcases (show i < l.length ∨ i = l.length from by omega) with hlt | hend
  · obtain ⟨hb1, hb5⟩ := Mrk.nbL_at hlt hi2
    have hge0 : 0 < i → (l.map Nd.av)[i - 1]? = some (Nd.avx (l.getD (i - 1) Nd.dflt)) := fun h => Nd.at_av l (i - 1) (by omega)
    have hpv : Mrk.pv l i = if i = 0 then [] else (l.getD (i - 1) Nd.dflt).name := rfl
    generalize l.getD (i - 1) Nd.dflt = e0 at hge0 hpv
    have hge : 0 < i → 0 ≤ (i : Int) - 1 ∧ (l.map Nd.av)[((i : Int) - 1).toNat]? = some (Nd.avx e0) := fun h => ⟨by omega, by rw [show ((i : Int) - 1).toNat = i - 1 from by omega]; exact hge0 h⟩
    have hga := Nd.at_av l i hlt
    have hsz := Nd.at_sz l i hlt
    generalize hd : l.getD i Nd.dflt = d at hga hsz
    have hse := Nd.sz_eq d
    have hsp := Nd.szs_len d.parts
    have hat : (d.attrs.map dav).length = d.attrs.length := List.length_map ..
    rw [hd] at hb1
    refine W.seq ?_
    refine W.seq ?_
    refine W.region ?_
    refine W.q (Ev.move (.t rfl)) rfl ?_
    refine W.q (Ev.move (.t rfl)) rfl ?_
    first | refine W.q (Ev.lensl (.t rfl) Tryd.underlying25) rfl ?_ | refine W.q (Ev.lenar (i := 0) (.t rfl) rfl Tryd.underlying25) rfl ?_ | refine W.q (Ev.lenar (i := 1) (.t rfl) rfl Tryd.underlying25) rfl ?_ | refine W.q (Ev.lenar (i := 2) (.t rfl) rfl Tryd.underlying25) rfl ?_ | refine W.q (Ev.lenar (i := 3) (.t rfl) rfl Tryd.underlying25) rfl ?_
    refine W.q (Ev.lti (.t rfl) (.t rfl)) rfl ?_
    refine W.nil ?_
    refine W.then ?_
    refine W.is (t := 11) (g := true) (av' := .lit (.bool true)) rfl (congrArg (fun b => AV.lit (.bool b)) (by exact decide_eq_true (by omega))) ?_
    refine W.condT (.t rfl) ?_
    refine W.skip ?_
    refine W.then ?_
    refine W.seq ?_
    refine W.block ?_
    refine W.seq ?_
    refine W.seq ?_
    refine W.region ?_
    refine W.q (Ev.move (.t rfl)) rfl ?_
    refine W.q (Ev.move (.t rfl)) rfl ?_
    refine W.q (Ev.at (E := 69) (.t rfl) (.t rfl) Tryd.underlying25 ty69 (fun _ => ⟨by omega, hga⟩) rfl rfl) rfl ?_
    first | refine W.q (Ev.fae (.t rfl) fa69_0 rfl) rfl ?_ | refine W.q (Ev.fab (.t rfl) fa69_0) rfl ?_ | refine W.q (Ev.faa (.t rfl) fa69_0) rfl ?_
    first | refine W.q (Ev.lde1 (.t rfl) ag9) rfl ?_ | refine W.q (Ev.ldb1 0 (.t rfl) rfl ag9 rfl) rfl ?_ | refine W.q (Ev.ldb1 1 (.t rfl) rfl ag9 rfl) rfl ?_ | refine W.q (Ev.ldb1 2 (.t rfl) rfl ag9 rfl) rfl ?_ | refine W.q (Ev.ldb1 3 (.t rfl) rfl ag9 rfl) rfl ?_
    refine W.q (Ev.eqs (.t rfl) .k) rfl ?_
    refine W.nil ?_
    refine W.then ?_
    refine W.cond (.t rfl) (fun hc_t19 => ?_) (fun hc_t19 => ?_)
    · skip
      refine W.exit ?_
      refine W.then_exit ?_
      refine W.blk_hit ?_
      refine W.then ?_
      refine W.region ?_
      refine W.q (Ev.move (.t rfl)) rfl ?_
      first | refine W.q (Ev.add (.t rfl) .k (fun _ => by omega)) rfl ?_ | refine W.q (Ev.addw (.t rfl) .k) rfl ?_
      refine W.q (Ev.assign (.t rfl)) rfl ?_
      refine W.nil ?_
      refine W.then ?_
      refine W.reach (D := []) (i + 1) ⟨rfl, rfl, rfl, trivial⟩ (.refl _) ⟨⟨by show i + 1 ≤ _; omega, hb5⟩, by show _ - (i + 1) < _; omega⟩
    · have hnm : d.name ≠ [] := by simpa using hc_t19
      rw [Mrk.nb1_eq, show (d.name == []) = false from hc_t19, Bool.false_or] at hb1
      simp only [Bool.and_eq_true, Bool.not_eq_true'] at hb1
      obtain ⟨⟨⟨hb1, hb2⟩, hb3⟩, hb4⟩ := hb1
      have hix : ms.idxOf d.name < ms.length := List.idxOf_lt_length_of_mem (by simpa using hb1)
      refine W.skip ?_
      refine W.then ?_
      refine W.seq ?_
      refine W.region ?_
      refine W.q (Ev.assign .k) rfl ?_
      refine W.nil ?_
      refine W.then ?_
      refine W.seq ?_
      refine W.seq ?_
      refine W.region ?_
      refine W.q (Ev.assign .k) rfl ?_
      refine W.nil ?_
      refine W.then ?_
      refine W.block ?_
      refine W.loop (D := []) (ι := Nat) (fun k => [(7, true, .int (k : Int)), (6, true, .int (if (ms.take k).contains d.name then (ms.idxOf d.name : Int) else -1)), (5, true, .int (i : Int)), (0, true, .sl 4 (l.map Nd.av)), (1, true, .sl 1 (ms.map AV.str))]) (fun _ => []) (fun k => k ≤ ms.length) (fun k => ms.length - k) 0 ⟨rfl, rfl, rfl, rfl, rfl, trivial⟩ (.refl _) (Nat.zero_le _) ?_
      intro k hk
      dsimp only at hk ⊢
      rcases (show k < ms.length ∨ k = ms.length from by omega) with hltk | hendk
      · have hgm := getD_mapG AV.str [] ms k hltk
        have hst := Mrk.at_step hnd hltk d.name
        generalize ms.getD k [] = m at hgm hst
        refine W.seq ?_
        refine W.seq ?_
        refine W.region ?_
        refine W.q (Ev.move (.t rfl)) rfl ?_
        refine W.q (Ev.move (.t rfl)) rfl ?_
        first | refine W.q (Ev.lensl (.t rfl) Tryd.underlying23) rfl ?_ | refine W.q (Ev.lenar (i := 0) (.t rfl) rfl Tryd.underlying23) rfl ?_ | refine W.q (Ev.lenar (i := 1) (.t rfl) rfl Tryd.underlying23) rfl ?_ | refine W.q (Ev.lenar (i := 2) (.t rfl) rfl Tryd.underlying23) rfl ?_ | refine W.q (Ev.lenar (i := 3) (.t rfl) rfl Tryd.underlying23) rfl ?_
        refine W.q (Ev.lti (.t rfl) (.t rfl)) rfl ?_
        refine W.nil ?_
        refine W.then ?_
        refine W.is (t := 23) (g := true) (av' := .lit (.bool true)) rfl (congrArg (fun b => AV.lit (.bool b)) (by exact decide_eq_true (by omega))) ?_
        refine W.condT (.t rfl) ?_
        refine W.skip ?_
        refine W.then ?_
        refine W.seq ?_
        refine W.block ?_
        refine W.seq ?_
        refine W.drawn (by kernel_rfl) (by kernel_rfl) ?_
        refine DP.q (Ev.move (.t rfl)) rfl ?_
        refine DP.q (Ev.move (.t rfl)) rfl ?_
        refine DP.q (Ev.at (E := 9) (.t rfl) (.t rfl) Tryd.underlying23 ty9 (fun _ => ⟨by omega, hgm⟩) rfl rfl) rfl ?_
        first | refine DP.q (Ev.lde1 (.t rfl) ag9) rfl ?_ | refine DP.q (Ev.ldb1 0 (.t rfl) rfl ag9 rfl) rfl ?_ | refine DP.q (Ev.ldb1 1 (.t rfl) rfl ag9 rfl) rfl ?_ | refine DP.q (Ev.ldb1 2 (.t rfl) rfl ag9 rfl) rfl ?_ | refine DP.q (Ev.ldb1 3 (.t rfl) rfl ag9 rfl) rfl ?_
        refine DP.q (Ev.move (.t rfl)) rfl ?_
        refine DP.q (Ev.move (.t rfl)) rfl ?_
        refine DP.q (Ev.at (E := 69) (.t rfl) (.t rfl) Tryd.underlying25 ty69 (fun _ => ⟨by omega, hga⟩) rfl rfl) rfl ?_
        first | refine DP.q (Ev.fae (.t rfl) fa69_0 rfl) rfl ?_ | refine DP.q (Ev.fab (.t rfl) fa69_0) rfl ?_ | refine DP.q (Ev.faa (.t rfl) fa69_0) rfl ?_
        first | refine DP.q (Ev.lde1 (.t rfl) ag9) rfl ?_ | refine DP.q (Ev.ldb1 0 (.t rfl) rfl ag9 rfl) rfl ?_ | refine DP.q (Ev.ldb1 1 (.t rfl) rfl ag9 rfl) rfl ?_ | refine DP.q (Ev.ldb1 2 (.t rfl) rfl ag9 rfl) rfl ?_ | refine DP.q (Ev.ldb1 3 (.t rfl) rfl ag9 rfl) rfl ?_
        refine DP.q (Ev.eqs (.t rfl) (.t rfl)) rfl ?_
        refine DP.nil ?_
        refine W.then ?_
        refine W.cond (.t rfl) (fun hc_t35 => ?_) (fun hc_t35 => ?_)
        · have hm1 : m = d.name := beq_iff_eq.1 hc_t35
          rw [if_pos hm1] at hst
          refine W.region ?_
          refine W.q (Ev.move (.t rfl)) rfl ?_
          refine W.q (Ev.assign (.t rfl)) rfl ?_
          refine W.nil ?_
          refine W.blk_normal ?_
          refine W.then ?_
          refine W.region ?_
          refine W.q (Ev.move (.t rfl)) rfl ?_
          first | refine W.q (Ev.add (.t rfl) .k (fun _ => by omega)) rfl ?_ | refine W.q (Ev.addw (.t rfl) .k) rfl ?_
          refine W.q (Ev.assign (.t rfl)) rfl ?_
          refine W.nil ?_
          refine W.then ?_
          refine W.is (t := 6) (g := true) (av' := .int (if (ms.take (k + 1)).contains d.name then (ms.idxOf d.name : Int) else -1)) rfl (congrArg AV.int hst.symm) ?_
          refine W.reach (D := []) (k + 1) ⟨rfl, rfl, rfl, rfl, rfl, trivial⟩ (.refl _) ⟨by show k + 1 ≤ _; omega, by show _ - (k + 1) < _; omega⟩
        · have hm1 : m ≠ d.name := beq_eq_false_iff_ne.1 hc_t35
          rw [if_neg hm1] at hst
          refine W.skip ?_
          refine W.blk_normal ?_
          refine W.then ?_
          refine W.region ?_
          refine W.q (Ev.move (.t rfl)) rfl ?_
          first | refine W.q (Ev.add (.t rfl) .k (fun _ => by omega)) rfl ?_ | refine W.q (Ev.addw (.t rfl) .k) rfl ?_
          refine W.q (Ev.assign (.t rfl)) rfl ?_
          refine W.nil ?_
          refine W.then ?_
          refine W.is (t := 6) (g := true) (av' := .int (if (ms.take (k + 1)).contains d.name then (ms.idxOf d.name : Int) else -1)) rfl (congrArg AV.int hst.symm) ?_
          refine W.reach (D := []) (k + 1) ⟨rfl, rfl, rfl, rfl, rfl, trivial⟩ (.refl _) ⟨by show k + 1 ≤ _; omega, by show _ - (k + 1) < _; omega⟩
      · have hke : ms.take k = ms := List.take_of_length_le (by omega)
        rw [hke, if_pos hb1]
        refine W.seq ?_
        refine W.seq ?_
        refine W.region ?_
        refine W.q (Ev.move (.t rfl)) rfl ?_
        refine W.q (Ev.move (.t rfl)) rfl ?_
        first | refine W.q (Ev.lensl (.t rfl) Tryd.underlying23) rfl ?_ | refine W.q (Ev.lenar (i := 0) (.t rfl) rfl Tryd.underlying23) rfl ?_ | refine W.q (Ev.lenar (i := 1) (.t rfl) rfl Tryd.underlying23) rfl ?_ | refine W.q (Ev.lenar (i := 2) (.t rfl) rfl Tryd.underlying23) rfl ?_ | refine W.q (Ev.lenar (i := 3) (.t rfl) rfl Tryd.underlying23) rfl ?_
        refine W.q (Ev.lti (.t rfl) (.t rfl)) rfl ?_
        refine W.nil ?_
        refine W.then ?_
        refine W.is (t := 23) (g := true) (av' := .lit (.bool false)) rfl (congrArg (fun b => AV.lit (.bool b)) (by exact decide_eq_false (by omega))) ?_
        refine W.condF (.t rfl) ?_
        refine W.exit ?_
        refine W.then_exit ?_
        refine W.then_exit ?_
        refine W.blk_hit ?_
        refine W.then ?_
        refine W.seq ?_
        refine W.drawnE (ι := Unit) (fun _ _ => _) 42 () (by kernel_rfl) (by kernel_rfl) rfl ?_
        refine DE.q (fun e c hk => (Ev.move (.t rfl))) rfl (fun _ _ => rfl) (by first | exact .inr (fun _ _ => rfl) | exact .inl (by kernel_rfl)) ?_
        refine DE.q (fun e c hk => (Ev.lti (.t rfl) .k)) rfl (fun _ _ => rfl) (by first | exact .inr (fun _ _ => rfl) | exact .inl (by kernel_rfl)) ?_
        refine DE.q (fun e c hk => (Ev.move (.t rfl))) rfl (fun _ _ => rfl) (by first | exact .inr (fun _ _ => rfl) | exact .inl (by kernel_rfl)) ?_
        refine DE.qg rfl (fun _ => rfl) (fun e c hk => (Ev.move (.t rfl))) rfl (fun _ _ => rfl) (by first | exact .inr (fun _ _ => rfl) | exact .inl (by kernel_rfl)) ?_
        refine DE.qg rfl (fun _ => rfl) (fun e c hk => (Ev.gti (.c rfl) .k)) rfl (fun _ _ => rfl) (by first | exact .inr (fun _ _ => rfl) | exact .inl (by kernel_rfl)) ?_
        refine DE.qg rfl (fun _ => rfl) (fun e c hk => (Ev.move (.c rfl))) rfl (fun _ _ => rfl) (by first | exact .inr (fun _ _ => rfl) | exact .inl (by kernel_rfl)) ?_
        refine DE.qg rfl (fun _ => rfl) (fun e c hk => (Ev.move (.t rfl))) rfl (fun _ _ => rfl) (by first | exact .inr (fun _ _ => rfl) | exact .inl (by kernel_rfl)) ?_
        refine DE.qg rfl (fun _ => rfl) (fun e c hk => (Ev.move (.t rfl))) rfl (fun _ _ => rfl) (by first | exact .inr (fun _ _ => rfl) | exact .inl (by kernel_rfl)) ?_
        first | refine DE.qg rfl (fun _ => rfl) (fun e c hk => (Ev.sub (.c rfl) .k (fun _ => by omega))) rfl (fun _ _ => rfl) (by first | exact .inr (fun _ _ => rfl) | exact .inl (by kernel_rfl)) ?_ | refine DE.qg rfl (fun _ => rfl) (fun e c hk => (Ev.subw (.c rfl) .k)) rfl (fun _ _ => rfl) (by first | exact .inr (fun _ _ => rfl) | exact .inl (by kernel_rfl)) ?_
        refine DE.qg rfl (fun _ => rfl) (fun e c hk => Ev.at (E := 69) (e := Nd.avx e0) (.c rfl) (.c rfl) Tryd.underlying25 ty69 (fun hg => hge (by simp at hg; omega)) rfl rfl) rfl (fun _ _ => rfl) (by first | exact .inr (fun _ _ => rfl) | exact .inl (by kernel_rfl)) ?_
        first | refine DE.qg rfl (fun _ => rfl) (fun e c hk => (Ev.fae (.c rfl) fa69_0 rfl)) rfl (fun _ _ => rfl) (by first | exact .inr (fun _ _ => rfl) | exact .inl (by kernel_rfl)) ?_ | refine DE.qg rfl (fun _ => rfl) (fun e c hk => (Ev.fab (.c rfl) fa69_0)) rfl (fun _ _ => rfl) (by first | exact .inr (fun _ _ => rfl) | exact .inl (by kernel_rfl)) ?_ | refine DE.qg rfl (fun _ => rfl) (fun e c hk => (Ev.faa (.c rfl) fa69_0)) rfl (fun _ _ => rfl) (by first | exact .inr (fun _ _ => rfl) | exact .inl (by kernel_rfl)) ?_
        first | refine DE.qg rfl (fun _ => rfl) (fun e c hk => (Ev.lde1 (.c rfl) ag9)) rfl (fun _ _ => rfl) (by first | exact .inr (fun _ _ => rfl) | exact .inl (by kernel_rfl)) ?_ | refine DE.qg rfl (fun _ => rfl) (fun e c hk => (Ev.ldb1 0 (.c rfl) rfl ag9 rfl)) rfl (fun _ _ => rfl) (by first | exact .inr (fun _ _ => rfl) | exact .inl (by kernel_rfl)) ?_ | refine DE.qg rfl (fun _ => rfl) (fun e c hk => (Ev.ldb1 1 (.c rfl) rfl ag9 rfl)) rfl (fun _ _ => rfl) (by first | exact .inr (fun _ _ => rfl) | exact .inl (by kernel_rfl)) ?_ | refine DE.qg rfl (fun _ => rfl) (fun e c hk => (Ev.ldb1 2 (.c rfl) rfl ag9 rfl)) rfl (fun _ _ => rfl) (by first | exact .inr (fun _ _ => rfl) | exact .inl (by kernel_rfl)) ?_ | refine DE.qg rfl (fun _ => rfl) (fun e c hk => (Ev.ldb1 3 (.c rfl) rfl ag9 rfl)) rfl (fun _ _ => rfl) (by first | exact .inr (fun _ _ => rfl) | exact .inl (by kernel_rfl)) ?_
        refine DE.qg rfl (fun _ => rfl) (fun e c hk => (Ev.move (.t rfl))) rfl (fun _ _ => rfl) (by first | exact .inr (fun _ _ => rfl) | exact .inl (by kernel_rfl)) ?_
        refine DE.qg rfl (fun _ => rfl) (fun e c hk => (Ev.move (.t rfl))) rfl (fun _ _ => rfl) (by first | exact .inr (fun _ _ => rfl) | exact .inl (by kernel_rfl)) ?_
        refine DE.qg rfl (fun _ => rfl) (fun e c hk => Ev.at (E := 69)  (.c rfl) (.c rfl) Tryd.underlying25 ty69 (fun hg => ⟨by omega, hga⟩) rfl rfl) rfl (fun _ _ => rfl) (by first | exact .inr (fun _ _ => rfl) | exact .inl (by kernel_rfl)) ?_
        first | refine DE.qg rfl (fun _ => rfl) (fun e c hk => (Ev.fae (.c rfl) fa69_0 rfl)) rfl (fun _ _ => rfl) (by first | exact .inr (fun _ _ => rfl) | exact .inl (by kernel_rfl)) ?_ | refine DE.qg rfl (fun _ => rfl) (fun e c hk => (Ev.fab (.c rfl) fa69_0)) rfl (fun _ _ => rfl) (by first | exact .inr (fun _ _ => rfl) | exact .inl (by kernel_rfl)) ?_ | refine DE.qg rfl (fun _ => rfl) (fun e c hk => (Ev.faa (.c rfl) fa69_0)) rfl (fun _ _ => rfl) (by first | exact .inr (fun _ _ => rfl) | exact .inl (by kernel_rfl)) ?_
        first | refine DE.qg rfl (fun _ => rfl) (fun e c hk => (Ev.lde1 (.c rfl) ag9)) rfl (fun _ _ => rfl) (by first | exact .inr (fun _ _ => rfl) | exact .inl (by kernel_rfl)) ?_ | refine DE.qg rfl (fun _ => rfl) (fun e c hk => (Ev.ldb1 0 (.c rfl) rfl ag9 rfl)) rfl (fun _ _ => rfl) (by first | exact .inr (fun _ _ => rfl) | exact .inl (by kernel_rfl)) ?_ | refine DE.qg rfl (fun _ => rfl) (fun e c hk => (Ev.ldb1 1 (.c rfl) rfl ag9 rfl)) rfl (fun _ _ => rfl) (by first | exact .inr (fun _ _ => rfl) | exact .inl (by kernel_rfl)) ?_ | refine DE.qg rfl (fun _ => rfl) (fun e c hk => (Ev.ldb1 2 (.c rfl) rfl ag9 rfl)) rfl (fun _ _ => rfl) (by first | exact .inr (fun _ _ => rfl) | exact .inl (by kernel_rfl)) ?_ | refine DE.qg rfl (fun _ => rfl) (fun e c hk => (Ev.ldb1 3 (.c rfl) rfl ag9 rfl)) rfl (fun _ _ => rfl) (by first | exact .inr (fun _ _ => rfl) | exact .inl (by kernel_rfl)) ?_
        refine DE.qg rfl (fun _ => rfl) (fun e c hk => (Ev.eqs (.c rfl) (.c rfl))) rfl (fun _ _ => rfl) (by first | exact .inr (fun _ _ => rfl) | exact .inl (by kernel_rfl)) ?_
        refine DE.qg rfl (fun _ => rfl) (fun e c hk => (Ev.and (.c rfl) ⟨_, _, rfl, rfl, by first | (simp; done) | (intro hg_ hp_; simp [hp_]; done) | (simp <;> omega; done) | (simp_all; done) | grind⟩)) rfl (fun _ _ => rfl) (by first | exact .inr (fun _ _ => rfl) | exact .inl (by kernel_rfl)) ?_
        refine DE.q (fun e c hk => (Ev.or (.t rfl) ⟨_, _, rfl, rfl, by first | (simp; done) | (intro hg_ hp_; simp [hp_]; done) | (simp <;> omega; done) | (simp_all; done) | grind⟩)) rfl (fun _ _ => rfl) (by first | exact .inr (fun _ _ => rfl) | exact .inl (by kernel_rfl)) ?_
        refine DE.q (fun e c hk => (Ev.move (.t rfl))) rfl (fun _ _ => rfl) (by first | exact .inr (fun _ _ => rfl) | exact .inl (by kernel_rfl)) ?_
        refine DE.qg rfl (fun _ => rfl) (fun e c hk => (Ev.move (.t rfl))) rfl (fun _ _ => rfl) (by first | exact .inr (fun _ _ => rfl) | exact .inl (by kernel_rfl)) ?_
        refine DE.qg rfl (fun _ => rfl) (fun e c hk => (Ev.move (.t rfl))) rfl (fun _ _ => rfl) (by first | exact .inr (fun _ _ => rfl) | exact .inl (by kernel_rfl)) ?_
        refine DE.qg rfl (fun _ => rfl) (fun e c hk => Ev.at (E := 69)  (.c rfl) (.c rfl) Tryd.underlying25 ty69 (fun hg => ⟨by omega, hga⟩) rfl rfl) rfl (fun _ _ => rfl) (by first | exact .inr (fun _ _ => rfl) | exact .inl (by kernel_rfl)) ?_
        first | refine DE.qg rfl (fun _ => rfl) (fun e c hk => (Ev.fae (.c rfl) fa69_3 rfl)) rfl (fun _ _ => rfl) (by first | exact .inr (fun _ _ => rfl) | exact .inl (by kernel_rfl)) ?_ | refine DE.qg rfl (fun _ => rfl) (fun e c hk => (Ev.fab (.c rfl) fa69_3)) rfl (fun _ _ => rfl) (by first | exact .inr (fun _ _ => rfl) | exact .inl (by kernel_rfl)) ?_ | refine DE.qg rfl (fun _ => rfl) (fun e c hk => (Ev.faa (.c rfl) fa69_3)) rfl (fun _ _ => rfl) (by first | exact .inr (fun _ _ => rfl) | exact .inl (by kernel_rfl)) ?_
        first | refine DE.qg rfl (fun _ => rfl) (fun e c hk => (Ev.lde1 (.c rfl) ag25)) rfl (fun _ _ => rfl) (by first | exact .inr (fun _ _ => rfl) | exact .inl (by kernel_rfl)) ?_ | refine DE.qg rfl (fun _ => rfl) (fun e c hk => (Ev.ldb1 0 (.c rfl) rfl ag25 rfl)) rfl (fun _ _ => rfl) (by first | exact .inr (fun _ _ => rfl) | exact .inl (by kernel_rfl)) ?_ | refine DE.qg rfl (fun _ => rfl) (fun e c hk => (Ev.ldb1 1 (.c rfl) rfl ag25 rfl)) rfl (fun _ _ => rfl) (by first | exact .inr (fun _ _ => rfl) | exact .inl (by kernel_rfl)) ?_ | refine DE.qg rfl (fun _ => rfl) (fun e c hk => (Ev.ldb1 2 (.c rfl) rfl ag25 rfl)) rfl (fun _ _ => rfl) (by first | exact .inr (fun _ _ => rfl) | exact .inl (by kernel_rfl)) ?_ | refine DE.qg rfl (fun _ => rfl) (fun e c hk => (Ev.ldb1 3 (.c rfl) rfl ag25 rfl)) rfl (fun _ _ => rfl) (by first | exact .inr (fun _ _ => rfl) | exact .inl (by kernel_rfl)) ?_
        first | refine DE.qg rfl (fun _ => rfl) (fun e c hk => (Ev.lensl (.c rfl) Tryd.underlying25)) rfl (fun _ _ => rfl) (by first | exact .inr (fun _ _ => rfl) | exact .inl (by kernel_rfl)) ?_ | refine DE.qg rfl (fun _ => rfl) (fun e c hk => (Ev.lenar (i := 0) (.c rfl) rfl Tryd.underlying25)) rfl (fun _ _ => rfl) (by first | exact .inr (fun _ _ => rfl) | exact .inl (by kernel_rfl)) ?_ | refine DE.qg rfl (fun _ => rfl) (fun e c hk => (Ev.lenar (i := 1) (.c rfl) rfl Tryd.underlying25)) rfl (fun _ _ => rfl) (by first | exact .inr (fun _ _ => rfl) | exact .inl (by kernel_rfl)) ?_ | refine DE.qg rfl (fun _ => rfl) (fun e c hk => (Ev.lenar (i := 2) (.c rfl) rfl Tryd.underlying25)) rfl (fun _ _ => rfl) (by first | exact .inr (fun _ _ => rfl) | exact .inl (by kernel_rfl)) ?_ | refine DE.qg rfl (fun _ => rfl) (fun e c hk => (Ev.lenar (i := 3) (.c rfl) rfl Tryd.underlying25)) rfl (fun _ _ => rfl) (by first | exact .inr (fun _ _ => rfl) | exact .inl (by kernel_rfl)) ?_
        refine DE.qg rfl (fun _ => rfl) (fun e c hk => (Ev.eqi (.c rfl) .k)) rfl (fun _ _ => rfl) (by first | exact .inr (fun _ _ => rfl) | exact .inl (by kernel_rfl)) ?_
        refine DE.q (fun e c hk => (Ev.or (.t rfl) ⟨_, _, rfl, rfl, by first | (simp; done) | (intro hg_ hp_; simp [hp_]; done) | (simp <;> omega; done) | (simp_all; done) | grind⟩)) rfl (fun _ _ => rfl) (by first | exact .inr (fun _ _ => rfl) | exact .inl (by kernel_rfl)) ?_
        refine DE.q (fun e c hk => (Ev.move (.t rfl))) rfl (fun _ _ => rfl) (by first | exact .inr (fun _ _ => rfl) | exact .inl (by kernel_rfl)) ?_
        refine DE.qg rfl (fun _ => rfl) (fun e c hk => (Ev.move (.t rfl))) rfl (fun _ _ => rfl) (by first | exact .inr (fun _ _ => rfl) | exact .inl (by kernel_rfl)) ?_
        refine DE.qg rfl (fun _ => rfl) (fun e c hk => (Ev.move (.t rfl))) rfl (fun _ _ => rfl) (by first | exact .inr (fun _ _ => rfl) | exact .inl (by kernel_rfl)) ?_
        refine DE.qg rfl (fun _ => rfl) (fun e c hk => Ev.at (E := 69)  (.c rfl) (.c rfl) Tryd.underlying25 ty69 (fun hg => ⟨by omega, hga⟩) rfl rfl) rfl (fun _ _ => rfl) (by first | exact .inr (fun _ _ => rfl) | exact .inl (by kernel_rfl)) ?_
        first | refine DE.qg rfl (fun _ => rfl) (fun e c hk => (Ev.fae (.c rfl) fa69_3 rfl)) rfl (fun _ _ => rfl) (by first | exact .inr (fun _ _ => rfl) | exact .inl (by kernel_rfl)) ?_ | refine DE.qg rfl (fun _ => rfl) (fun e c hk => (Ev.fab (.c rfl) fa69_3)) rfl (fun _ _ => rfl) (by first | exact .inr (fun _ _ => rfl) | exact .inl (by kernel_rfl)) ?_ | refine DE.qg rfl (fun _ => rfl) (fun e c hk => (Ev.faa (.c rfl) fa69_3)) rfl (fun _ _ => rfl) (by first | exact .inr (fun _ _ => rfl) | exact .inl (by kernel_rfl)) ?_
        first | refine DE.qg rfl (fun _ => rfl) (fun e c hk => (Ev.lde1 (.c rfl) ag25)) rfl (fun _ _ => rfl) (by first | exact .inr (fun _ _ => rfl) | exact .inl (by kernel_rfl)) ?_ | refine DE.qg rfl (fun _ => rfl) (fun e c hk => (Ev.ldb1 0 (.c rfl) rfl ag25 rfl)) rfl (fun _ _ => rfl) (by first | exact .inr (fun _ _ => rfl) | exact .inl (by kernel_rfl)) ?_ | refine DE.qg rfl (fun _ => rfl) (fun e c hk => (Ev.ldb1 1 (.c rfl) rfl ag25 rfl)) rfl (fun _ _ => rfl) (by first | exact .inr (fun _ _ => rfl) | exact .inl (by kernel_rfl)) ?_ | refine DE.qg rfl (fun _ => rfl) (fun e c hk => (Ev.ldb1 2 (.c rfl) rfl ag25 rfl)) rfl (fun _ _ => rfl) (by first | exact .inr (fun _ _ => rfl) | exact .inl (by kernel_rfl)) ?_ | refine DE.qg rfl (fun _ => rfl) (fun e c hk => (Ev.ldb1 3 (.c rfl) rfl ag25 rfl)) rfl (fun _ _ => rfl) (by first | exact .inr (fun _ _ => rfl) | exact .inl (by kernel_rfl)) ?_
        refine DE.qg rfl (fun _ => rfl) (fun e c hk => (Ev.move (.t rfl))) rfl (fun _ _ => rfl) (by first | exact .inr (fun _ _ => rfl) | exact .inl (by kernel_rfl)) ?_
        refine DE.qg rfl (fun _ => rfl) (fun e c hk => (Ev.move (.t rfl))) rfl (fun _ _ => rfl) (by first | exact .inr (fun _ _ => rfl) | exact .inl (by kernel_rfl)) ?_
        first | refine DE.qg rfl (fun _ => rfl) (fun e c hk => (Ev.add (.c rfl) .k (fun _ => by omega))) rfl (fun _ _ => rfl) (by first | exact .inr (fun _ _ => rfl) | exact .inl (by kernel_rfl)) ?_ | refine DE.qg rfl (fun _ => rfl) (fun e c hk => (Ev.addw (.c rfl) .k)) rfl (fun _ _ => rfl) (by first | exact .inr (fun _ _ => rfl) | exact .inl (by kernel_rfl)) ?_
        refine DE.qg rfl (fun _ => rfl) (fun e c hk => Ev.dropsl (n := ms.idxOf d.name + 1) (.c rfl) Tryd.underlying23 ty9 (.c rfl) (by omega) (fun _ => by omega)) rfl (fun _ _ => rfl) (by first | exact .inr (fun _ _ => rfl) | exact .inl (by kernel_rfl)) ?_
        refine DE.callg rfl (fun _ => rfl) (fun c hg => ih (ms.drop (ms.idxOf d.name + 1)) d.parts (by omega) (hnd.sublist (List.drop_sublist _ _)) (by rw [List.length_drop]; omega) hb4) (fun c hg => ⟨(.i rfl (fun _ => hg)), (.i rfl (fun _ => hg)), trivial⟩) rfl (fun _ _ => rfl) (by first | exact .inr (fun _ _ => rfl) | exact .inl (by kernel_rfl)) ?_
        refine DE.qg rfl (fun _ => rfl) (fun e c hk => (Ev.not (.c rfl))) rfl (fun _ _ => rfl) (by first | exact .inr (fun _ _ => rfl) | exact .inl (by kernel_rfl)) ?_
        refine DE.q (fun e c hk => (Ev.or (.t rfl) ⟨_, _, rfl, rfl, by first | (simp; done) | (intro hg_ hp_; simp [hp_]; done) | (simp <;> omega; done) | (simp_all; done) | grind⟩)) rfl (fun _ _ => rfl) (by first | exact .inr (fun _ _ => rfl) | exact .inl (by kernel_rfl)) ?_
        refine DE.nil (fun c_ e_ he_ => ?_)
        dsimp only
        refine W.then ?_
        refine W.is (t := 78) (g := true) (av' := .lit (.bool false)) rfl (congrArg (fun b => AV.lit (.bool b)) (by exact Mrk.nb_no hpv hb2 hb3 (List.length_map ..))) ?_
        refine W.condF (.t rfl) ?_
        refine W.skip ?_
        refine W.blk_normal ?_
        refine W.then ?_
        refine W.region ?_
        refine W.q (Ev.move (.t rfl)) rfl ?_
        first | refine W.q (Ev.add (.t rfl) .k (fun _ => by omega)) rfl ?_ | refine W.q (Ev.addw (.t rfl) .k) rfl ?_
        refine W.q (Ev.assign (.t rfl)) rfl ?_
        refine W.nil ?_
        refine W.then ?_
        refine W.reach (D := []) (i + 1) ⟨rfl, rfl, rfl, trivial⟩ (.refl _) ⟨⟨by show i + 1 ≤ _; omega, hb5⟩, by show _ - (i + 1) < _; omega⟩
  · skip
    refine W.seq ?_
    refine W.seq ?_
    refine W.region ?_
    refine W.q (Ev.move (.t rfl)) rfl ?_
    refine W.q (Ev.move (.t rfl)) rfl ?_
    first | refine W.q (Ev.lensl (.t rfl) Tryd.underlying25) rfl ?_ | refine W.q (Ev.lenar (i := 0) (.t rfl) rfl Tryd.underlying25) rfl ?_ | refine W.q (Ev.lenar (i := 1) (.t rfl) rfl Tryd.underlying25) rfl ?_ | refine W.q (Ev.lenar (i := 2) (.t rfl) rfl Tryd.underlying25) rfl ?_ | refine W.q (Ev.lenar (i := 3) (.t rfl) rfl Tryd.underlying25) rfl ?_
    refine W.q (Ev.lti (.t rfl) (.t rfl)) rfl ?_
    refine W.nil ?_
    refine W.then ?_
    refine W.is (t := 11) (g := true) (av' := .lit (.bool false)) rfl (congrArg (fun b => AV.lit (.bool b)) (by exact decide_eq_false (by omega))) ?_
    refine W.condF (.t rfl) ?_
    refine W.exit ?_
    refine W.then_exit ?_
    refine W.then_exit ?_
    refine W.blk_hit ?_
    refine W.then ?_
    refine W.seq ?_
    refine W.region ?_
    refine W.q (Ev.assign .k) rfl ?_
    refine W.nil ?_
    refine W.then ?_
    refine W.ret ?_
    refine W.retn (M' := []) (rs := [.tmp 4]) (avs := [_]) Tryd.results14 ⟨rfl, trivial⟩ rfl (.refl _) ?_
    exact ⟨rfl, rfl⟩

theorem c_nestedBy (ms : List (List UInt8)) (l : List Nd) (hl : Nd.szs l ≤ 16777216) (hnd : ms.Nodup) (hms : ms.length ≤ 100) (hnb : Mrk.nbL ms [] l = true) : FnP Tryd.prog 14 [.sl 4 (l.map Nd.av), .sl 1 (ms.map AV.str)] (.bool true) := by
  suffices H : ∀ n, n ≤ 16777216 → ∀ (ms : List (List UInt8)) (l : List Nd), Nd.szs l = n → ms.Nodup → ms.length ≤ 100 → Mrk.nbL ms [] l = true → FnP Tryd.prog 14 [.sl 4 (l.map Nd.av), .sl 1 (ms.map AV.str)] (.bool true) from H _ hl ms l rfl hnd hms hnb
  intro n
  induction n using Nat.strongRecOn with
  | _ n ih => exact fun hn ms l hl hnd hms hnb => c_nestedBy_step n hn (fun ms l h1 h2 h3 h4 => ih _ h1 (by omega) ms l rfl h2 h3 h4) ms l hl hnd hms hnb

end WMBy

end Go.Proofs.YtlglnmafddnmmaaDoor
end

section
set_option linter.unusedVariables false
set_option linter.unusedSimpArgs false
set_option maxRecDepth 100000
namespace Go.Proofs.YtlglnmafddnmmaaDoor
open Go.Vl

namespace WApart
theorem ty9 : Ty Tryd.prog 9 1 16 (.string ⟨#[]⟩) := Ty.of (by kernel_rfl)
theorem ty25 : Ty Tryd.prog 25 1 24 (.slice none 0 0) := Ty.of (by kernel_rfl)
theorem ty67 : Ty Tryd.prog 67 1 24 (.slice none 0 0) := Ty.of (by kernel_rfl)
theorem ty69 : Ty Tryd.prog 69 4 80 (.agg #[.string ⟨#[]⟩, .slice none 0 0, .string ⟨#[]⟩, .slice none 0 0]) := Ty.of (by kernel_rfl)
theorem ag9 : IsAgg Tryd.prog 9 false := ⟨_, Tryd.underlying9, rfl⟩
theorem ag25 : IsAgg Tryd.prog 25 false := ⟨_, Tryd.underlying25, rfl⟩
theorem ag67 : IsAgg Tryd.prog 67 false := ⟨_, Tryd.underlying67, rfl⟩
theorem fa69_0 : FieldAt Tryd.prog 69 0 0 1 false := ⟨_, _, Tryd.underlying69, rfl, rfl, ty9.size, ag9, by decide⟩
theorem fa69_1 : FieldAt Tryd.prog 69 1 1 1 false := ⟨_, _, Tryd.underlying69, rfl, rfl, ty67.size, ag67, by decide⟩
theorem fa69_2 : FieldAt Tryd.prog 69 2 2 1 false := ⟨_, _, Tryd.underlying69, rfl, rfl, ty9.size, ag9, by decide⟩
theorem fa69_3 : FieldAt Tryd.prog 69 3 3 1 false := ⟨_, _, Tryd.underlying69, rfl, rfl, ty25.size, ag25, by decide⟩
theorem c_apart_step (n : Nat) (hn : n ≤ 16777216) (ih : ∀ l, Nd.szs l < n → FnP Tryd.prog 15 [.sl 4 (l.map Nd.av)] (.bool (Nd.apts false l))) (l : List Nd) (hl : Nd.szs l = n) : FnP Tryd.prog 15 [.sl 4 (l.map Nd.av)] (.bool (Nd.apts false l)) :=  by
  refine FnC.mk Tryd.func15 (by kernel_rfl) rfl Tryd.ntmps15 rfl (fun w0 F => ?_)
  have hll : (l.map Nd.av).length = l.length := List.length_map ..
  have hsl := Nd.szs_len l
  refine W.seq ?_
  refine W.region ?_
  refine W.q (Ev.assign .k) rfl ?_
  refine W.nil ?_
  refine W.then ?_
  refine W.seq ?_
  refine W.seq ?_
  refine W.region ?_
  refine W.q (Ev.assign .k) rfl ?_
  refine W.nil ?_
  refine W.then ?_
  refine W.block ?_
  refine W.loop (D := []) (ι := Nat) (fun i => [(3, true, .int (i : Int)), (0, true, .sl 4 (l.map Nd.av))]) (fun _ => []) (fun i => i ≤ l.length ∧ Nd.apts false (l.take i) = true) (fun i => l.length - i) 0 ⟨rfl, rfl, trivial⟩ (.refl _) ⟨Nat.zero_le _, rfl⟩ ?_
  rintro i ⟨hi, hi2⟩
  dsimp only at hi hi2 ⊢
  rcases (show i < l.length ∨ i = l.length from by omega) with hlt | hend
  · have hge0 : 0 < i → (l.map Nd.av)[i - 1]? = some (Nd.avx (l.getD (i - 1) Nd.dflt)) := fun h => Nd.at_av l (i - 1) (by omega)
    have hlast := Nd.lastT_take l i hi
    generalize l.getD (i - 1) Nd.dflt = e at hge0 hlast
    have hge : 0 < i → 0 ≤ (i : Int) - 1 ∧ (l.map Nd.av)[((i : Int) - 1).toNat]? = some (Nd.avx e) := fun h => ⟨by omega, by rw [show ((i : Int) - 1).toNat = i - 1 from by omega]; exact hge0 h⟩
    have hga := Nd.at_av l i hlt
    have hsz := Nd.at_sz l i hlt
    generalize hd : l.getD i Nd.dflt = d at hga hsz
    have hse := Nd.sz_eq d
    have hsp := Nd.szs_len d.parts
    have hat : (d.attrs.map dav).length = d.attrs.length := List.length_map ..
    have hsp : Nd.apts false l = (Nd.apts false (l.take i) && Nd.apts (Nd.lastT false (l.take i)) (d :: l.drop (i + 1))) := by rw [← hd, ← drop_getDG Nd.dflt l i hlt, ← Nd.apts_append, List.take_append_drop]
    rw [hlast] at hsp
    obtain ⟨hsq, hsr, hsq2⟩ := Nd.apt1_prog d ((d.parts.map Nd.av).length) ((d.attrs.map dav).length) (decide ((0 : Int) < (i : Int)) && (e.name == [])) (List.length_map ..) (List.length_map ..)
    skip
    refine W.seq ?_
    refine W.seq ?_
    refine W.region ?_
    refine W.q (Ev.move (.t rfl)) rfl ?_
    refine W.q (Ev.move (.t rfl)) rfl ?_
    first | refine W.q (Ev.lensl (.t rfl) Tryd.underlying25) rfl ?_ | refine W.q (Ev.lenar (i := 0) (.t rfl) rfl Tryd.underlying25) rfl ?_ | refine W.q (Ev.lenar (i := 1) (.t rfl) rfl Tryd.underlying25) rfl ?_ | refine W.q (Ev.lenar (i := 2) (.t rfl) rfl Tryd.underlying25) rfl ?_ | refine W.q (Ev.lenar (i := 3) (.t rfl) rfl Tryd.underlying25) rfl ?_
    refine W.q (Ev.lti (.t rfl) (.t rfl)) rfl ?_
    refine W.nil ?_
    refine W.then ?_
    refine W.is (t := 8) (g := true) (av' := .lit (.bool true)) rfl (congrArg (fun b => AV.lit (.bool b)) (by exact decide_eq_true (by omega))) ?_
    refine W.condT (.t rfl) ?_
    refine W.skip ?_
    refine W.then ?_
    refine W.seq ?_
    refine W.block ?_
    refine W.seq ?_
    refine W.region ?_
    refine W.q (Ev.move (.t rfl)) rfl ?_
    refine W.q (Ev.move (.t rfl)) rfl ?_
    refine W.q (Ev.at (E := 69) (.t rfl) (.t rfl) Tryd.underlying25 ty69 (fun _ => ⟨by omega, hga⟩) rfl rfl) rfl ?_
    first | refine W.q (Ev.fae (.t rfl) fa69_0 rfl) rfl ?_ | refine W.q (Ev.fab (.t rfl) fa69_0) rfl ?_ | refine W.q (Ev.faa (.t rfl) fa69_0) rfl ?_
    first | refine W.q (Ev.lde1 (.t rfl) ag9) rfl ?_ | refine W.q (Ev.ldb1 0 (.t rfl) rfl ag9 rfl) rfl ?_ | refine W.q (Ev.ldb1 1 (.t rfl) rfl ag9 rfl) rfl ?_ | refine W.q (Ev.ldb1 2 (.t rfl) rfl ag9 rfl) rfl ?_ | refine W.q (Ev.ldb1 3 (.t rfl) rfl ag9 rfl) rfl ?_
    refine W.q (Ev.eqs (.t rfl) .k) rfl ?_
    refine W.q (Ev.assign (.t rfl)) rfl ?_
    refine W.nil ?_
    refine W.then ?_
    refine W.seq ?_
    refine W.seq ?_
    refine W.region ?_
    refine W.q (Ev.move (.t rfl)) rfl ?_
    refine W.q (Ev.move (.t rfl)) rfl ?_
    refine W.qgT rfl rfl (Ev.move (.t rfl)) rfl ?_
    refine W.qgT rfl rfl (Ev.move (.t rfl)) rfl ?_
    refine W.qgT rfl rfl (Ev.at (E := 69) (.c rfl) (.c rfl) Tryd.underlying25 ty69 (fun hg => ⟨by omega, hga⟩) rfl rfl) rfl ?_
    first | refine W.qgT rfl rfl (Ev.fae (.c rfl) fa69_2 rfl) rfl ?_ | refine W.qgT rfl rfl (Ev.fab (.c rfl) fa69_2) rfl ?_ | refine W.qgT rfl rfl (Ev.faa (.c rfl) fa69_2) rfl ?_
    first | refine W.qgT rfl rfl (Ev.lde1 (.c rfl) ag9) rfl ?_ | refine W.qgT rfl rfl (Ev.ldb1 0 (.c rfl) rfl ag9 rfl) rfl ?_ | refine W.qgT rfl rfl (Ev.ldb1 1 (.c rfl) rfl ag9 rfl) rfl ?_ | refine W.qgT rfl rfl (Ev.ldb1 2 (.c rfl) rfl ag9 rfl) rfl ?_ | refine W.qgT rfl rfl (Ev.ldb1 3 (.c rfl) rfl ag9 rfl) rfl ?_
    refine W.qgT rfl rfl (Ev.eqs (.c rfl) .k) rfl ?_
    refine W.qgT rfl rfl (Ev.move (.c rfl)) rfl ?_
    refine W.qgF' rfl rfl (Ev.move (.t rfl)) rfl ?_
    refine W.qgF' rfl rfl (Ev.move (.t rfl)) rfl ?_
    refine W.qgF' rfl rfl (Ev.at (E := 69) (.c rfl) (.c rfl) Tryd.underlying25 ty69 (fun hg => ⟨by omega, hga⟩) rfl rfl) rfl ?_
    first | refine W.qgF' rfl rfl (Ev.fae (.c rfl) fa69_3 rfl) rfl ?_ | refine W.qgF' rfl rfl (Ev.fab (.c rfl) fa69_3) rfl ?_ | refine W.qgF' rfl rfl (Ev.faa (.c rfl) fa69_3) rfl ?_
    first | refine W.qgF' rfl rfl (Ev.lde1 (.c rfl) ag25) rfl ?_ | refine W.qgF' rfl rfl (Ev.ldb1 0 (.c rfl) rfl ag25 rfl) rfl ?_ | refine W.qgF' rfl rfl (Ev.ldb1 1 (.c rfl) rfl ag25 rfl) rfl ?_ | refine W.qgF' rfl rfl (Ev.ldb1 2 (.c rfl) rfl ag25 rfl) rfl ?_ | refine W.qgF' rfl rfl (Ev.ldb1 3 (.c rfl) rfl ag25 rfl) rfl ?_
    first | refine W.qgF' rfl rfl (Ev.lensl (.c rfl) Tryd.underlying25) rfl ?_ | refine W.qgF' rfl rfl (Ev.lenar (i := 0) (.c rfl) rfl Tryd.underlying25) rfl ?_ | refine W.qgF' rfl rfl (Ev.lenar (i := 1) (.c rfl) rfl Tryd.underlying25) rfl ?_ | refine W.qgF' rfl rfl (Ev.lenar (i := 2) (.c rfl) rfl Tryd.underlying25) rfl ?_ | refine W.qgF' rfl rfl (Ev.lenar (i := 3) (.c rfl) rfl Tryd.underlying25) rfl ?_
    refine W.qgF' rfl rfl (Ev.gti (.c rfl) .k) rfl ?_
    refine W.qgT rfl rfl (Ev.or (.c rfl) ⟨_, _, rfl, rfl, by first | (simp; done) | (intro hg_ hp_; simp [hp_]; done) | (simp <;> omega; done) | (simp_all; done) | grind⟩) rfl ?_
    refine W.qgT rfl rfl (Ev.move (.c rfl)) rfl ?_
    refine W.qgF' rfl rfl (Ev.move (.t rfl)) rfl ?_
    refine W.qgF' rfl rfl (Ev.move (.t rfl)) rfl ?_
    refine W.qgF' rfl rfl (Ev.at (E := 69) (.c rfl) (.c rfl) Tryd.underlying25 ty69 (fun hg => ⟨by omega, hga⟩) rfl rfl) rfl ?_
    first | refine W.qgF' rfl rfl (Ev.fae (.c rfl) fa69_1 rfl) rfl ?_ | refine W.qgF' rfl rfl (Ev.fab (.c rfl) fa69_1) rfl ?_ | refine W.qgF' rfl rfl (Ev.faa (.c rfl) fa69_1) rfl ?_
    first | refine W.qgF' rfl rfl (Ev.lde1 (.c rfl) ag67) rfl ?_ | refine W.qgF' rfl rfl (Ev.ldb1 0 (.c rfl) rfl ag67 rfl) rfl ?_ | refine W.qgF' rfl rfl (Ev.ldb1 1 (.c rfl) rfl ag67 rfl) rfl ?_ | refine W.qgF' rfl rfl (Ev.ldb1 2 (.c rfl) rfl ag67 rfl) rfl ?_ | refine W.qgF' rfl rfl (Ev.ldb1 3 (.c rfl) rfl ag67 rfl) rfl ?_
    first | refine W.qgF' rfl rfl (Ev.lensl (.c rfl) Tryd.underlying67) rfl ?_ | refine W.qgF' rfl rfl (Ev.lenar (i := 0) (.c rfl) rfl Tryd.underlying67) rfl ?_ | refine W.qgF' rfl rfl (Ev.lenar (i := 1) (.c rfl) rfl Tryd.underlying67) rfl ?_ | refine W.qgF' rfl rfl (Ev.lenar (i := 2) (.c rfl) rfl Tryd.underlying67) rfl ?_ | refine W.qgF' rfl rfl (Ev.lenar (i := 3) (.c rfl) rfl Tryd.underlying67) rfl ?_
    refine W.qgF' rfl rfl (Ev.gti (.c rfl) .k) rfl ?_
    refine W.qgT rfl rfl (Ev.or (.c rfl) ⟨_, _, rfl, rfl, by first | (simp; done) | (intro hg_ hp_; simp [hp_]; done) | (simp <;> omega; done) | (simp_all; done) | grind⟩) rfl ?_
    refine W.qgT rfl rfl (Ev.move (.c rfl)) rfl ?_
    refine W.qgF' rfl rfl (Ev.move (.t rfl)) rfl ?_
    refine W.qgF' rfl rfl (Ev.gti (.c rfl) .k) rfl ?_
    refine W.qgF' rfl rfl (Ev.move (.c rfl)) rfl ?_
    refine W.qgT' rfl rfl (Ev.move (.t rfl)) rfl ?_
    refine W.qgT' rfl rfl (Ev.move (.t rfl)) rfl ?_
    first | refine W.qgT' rfl rfl (Ev.sub (.c rfl) .k (fun _ => by omega)) rfl ?_ | refine W.qgT' rfl rfl (Ev.subw (.c rfl) .k) rfl ?_
    refine W.qgT' rfl rfl (Ev.at (E := 69) (e := Nd.avx e) (.c rfl) (.c rfl) Tryd.underlying25 ty69 (fun hg => hge (by simp at hg; omega)) rfl rfl) rfl ?_
    first | refine W.qgT' rfl rfl (Ev.fae (.c rfl) fa69_0 rfl) rfl ?_ | refine W.qgT' rfl rfl (Ev.fab (.c rfl) fa69_0) rfl ?_ | refine W.qgT' rfl rfl (Ev.faa (.c rfl) fa69_0) rfl ?_
    first | refine W.qgT' rfl rfl (Ev.lde1 (.c rfl) ag9) rfl ?_ | refine W.qgT' rfl rfl (Ev.ldb1 0 (.c rfl) rfl ag9 rfl) rfl ?_ | refine W.qgT' rfl rfl (Ev.ldb1 1 (.c rfl) rfl ag9 rfl) rfl ?_ | refine W.qgT' rfl rfl (Ev.ldb1 2 (.c rfl) rfl ag9 rfl) rfl ?_ | refine W.qgT' rfl rfl (Ev.ldb1 3 (.c rfl) rfl ag9 rfl) rfl ?_
    refine W.qgT' rfl rfl (Ev.eqs (.c rfl) .k) rfl ?_
    refine W.qgF' rfl rfl (Ev.and (.c rfl) ⟨_, _, rfl, rfl, by first | (simp; done) | (intro hg_ hp_; simp [hp_]; done) | (simp <;> omega; done) | (simp_all; done) | grind⟩) rfl ?_
    refine W.qgT rfl rfl (Ev.or (.c rfl) ⟨_, _, rfl, rfl, by first | (simp; done) | (intro hg_ hp_; simp [hp_]; done) | (simp <;> omega; done) | (simp_all; done) | grind⟩) rfl ?_
    refine W.q (Ev.and (.t rfl) ⟨_, _, rfl, rfl, by first | (simp; done) | (intro hg_ hp_; simp [hp_]; done) | (simp <;> omega; done) | (simp_all; done) | grind⟩) rfl ?_
    refine W.nil ?_
    refine W.then ?_
    refine W.cond (.t rfl) (fun hc_t56 => ?_) (fun hc_t56 => ?_)
    · have hr : Nd.apts false l = false := by rw [hsp, Nd.apts_cons, hsq hc_t56, Bool.false_and, Bool.and_false]
      refine W.seq ?_
      refine W.region ?_
      refine W.q (Ev.assign .k) rfl ?_
      refine W.nil ?_
      refine W.then ?_
      refine W.ret ?_
      refine W.then_ret ?_
      refine W.blk_ret ?_
      refine W.then_ret ?_
      refine W.then_ret ?_
      refine W.blk_ret ?_
      refine W.then_ret ?_
      refine W.retn (M' := []) (rs := [.tmp 2]) (avs := [_]) Tryd.results15 ⟨rfl, trivial⟩ rfl (.refl _) ?_
      exact ⟨congrArg AV.bool hr.symm, rfl⟩
    · have h56 := hsr hc_t56
      refine W.skip ?_
      refine W.then ?_
      refine W.seq ?_
      refine W.region ?_
      refine W.q (Ev.move (.t rfl)) rfl ?_
      refine W.q (Ev.not (.t rfl)) rfl ?_
      refine W.q (Ev.move (.t rfl)) rfl ?_
      refine W.qgT rfl rfl (Ev.move (.t rfl)) rfl ?_
      refine W.qgT rfl rfl (Ev.move (.t rfl)) rfl ?_
      refine W.qgT rfl rfl (Ev.at (E := 69) (.c rfl) (.c rfl) Tryd.underlying25 ty69 (fun hg => ⟨by omega, hga⟩) rfl rfl) rfl ?_
      first | refine W.qgT rfl rfl (Ev.fae (.c rfl) fa69_2 rfl) rfl ?_ | refine W.qgT rfl rfl (Ev.fab (.c rfl) fa69_2) rfl ?_ | refine W.qgT rfl rfl (Ev.faa (.c rfl) fa69_2) rfl ?_
      first | refine W.qgT rfl rfl (Ev.lde1 (.c rfl) ag9) rfl ?_ | refine W.qgT rfl rfl (Ev.ldb1 0 (.c rfl) rfl ag9 rfl) rfl ?_ | refine W.qgT rfl rfl (Ev.ldb1 1 (.c rfl) rfl ag9 rfl) rfl ?_ | refine W.qgT rfl rfl (Ev.ldb1 2 (.c rfl) rfl ag9 rfl) rfl ?_ | refine W.qgT rfl rfl (Ev.ldb1 3 (.c rfl) rfl ag9 rfl) rfl ?_
      refine W.qgT rfl rfl (Ev.nes (.c rfl) .k) rfl ?_
      refine W.qgT rfl rfl (Ev.move (.c rfl)) rfl ?_
      refine W.qgF' rfl rfl (Ev.move (.t rfl)) rfl ?_
      refine W.qgF' rfl rfl (Ev.move (.t rfl)) rfl ?_
      refine W.qgF' rfl rfl (Ev.at (E := 69) (.c rfl) (.c rfl) Tryd.underlying25 ty69 (fun hg => ⟨by omega, hga⟩) rfl rfl) rfl ?_
      first | refine W.qgF' rfl rfl (Ev.fae (.c rfl) fa69_3 rfl) rfl ?_ | refine W.qgF' rfl rfl (Ev.fab (.c rfl) fa69_3) rfl ?_ | refine W.qgF' rfl rfl (Ev.faa (.c rfl) fa69_3) rfl ?_
      first | refine W.qgF' rfl rfl (Ev.lde1 (.c rfl) ag25) rfl ?_ | refine W.qgF' rfl rfl (Ev.ldb1 0 (.c rfl) rfl ag25 rfl) rfl ?_ | refine W.qgF' rfl rfl (Ev.ldb1 1 (.c rfl) rfl ag25 rfl) rfl ?_ | refine W.qgF' rfl rfl (Ev.ldb1 2 (.c rfl) rfl ag25 rfl) rfl ?_ | refine W.qgF' rfl rfl (Ev.ldb1 3 (.c rfl) rfl ag25 rfl) rfl ?_
      refine W.callgF' (Min := []) (caps := []) (avs := [_]) rfl rfl (fun hg => ih d.parts (by omega)) (fun hg => .f) (fun hg => ⟨(.i rfl (fun _ => hg)), trivial⟩) rfl (.refl _) rfl ?_
      refine W.qgF' rfl rfl (Ev.not (.c rfl)) rfl ?_
      refine W.qgT rfl rfl (Ev.or (.c rfl) ⟨_, _, rfl, rfl, by first | (simp; done) | (intro hg_ hp_; simp [hp_]; done) | (simp <;> omega; done) | (simp_all; done) | grind⟩) rfl ?_
      refine W.q (Ev.and (.t rfl) ⟨_, _, rfl, rfl, by first | (simp; done) | (intro hg_ hp_; simp [hp_]; done) | (simp <;> omega; done) | (simp_all; done) | grind⟩) rfl ?_
      refine W.nil ?_
      refine W.then ?_
      refine W.cond (.t rfl) (fun hc_t75 => ?_) (fun hc_t75 => ?_)
      · have hr : Nd.apts false l = false := by rw [hsp, Nd.apts_cons, hsq2 hc_t75, Bool.false_and, Bool.and_false]
        refine W.seq ?_
        refine W.region ?_
        refine W.q (Ev.assign .k) rfl ?_
        refine W.nil ?_
        refine W.then ?_
        refine W.ret ?_
        refine W.blk_ret ?_
        refine W.then_ret ?_
        refine W.then_ret ?_
        refine W.blk_ret ?_
        refine W.then_ret ?_
        refine W.retn (M' := []) (rs := [.tmp 2]) (avs := [_]) Tryd.results15 ⟨rfl, trivial⟩ rfl (.refl _) ?_
        exact ⟨congrArg AV.bool hr.symm, rfl⟩
      · have hr : Nd.apts false (l.take (i + 1)) = true := by rw [take_getDG Nd.dflt l i hlt, hd, Nd.apts_append, hi2, Bool.true_and, Nd.apts_one, hlast, h56 hc_t75]
        refine W.skip ?_
        refine W.blk_normal ?_
        refine W.then ?_
        refine W.region ?_
        refine W.q (Ev.move (.t rfl)) rfl ?_
        first | refine W.q (Ev.add (.t rfl) .k (fun _ => by omega)) rfl ?_ | refine W.q (Ev.addw (.t rfl) .k) rfl ?_
        refine W.q (Ev.assign (.t rfl)) rfl ?_
        refine W.nil ?_
        refine W.then ?_
        refine W.reach (D := []) (i + 1) ⟨rfl, rfl, trivial⟩ (.refl _) ⟨⟨by omega, hr⟩, by omega⟩
  · have hr : Nd.apts false l = true := by rw [List.take_of_length_le (by omega)] at hi2; exact hi2
    refine W.seq ?_
    refine W.seq ?_
    refine W.region ?_
    refine W.q (Ev.move (.t rfl)) rfl ?_
    refine W.q (Ev.move (.t rfl)) rfl ?_
    first | refine W.q (Ev.lensl (.t rfl) Tryd.underlying25) rfl ?_ | refine W.q (Ev.lenar (i := 0) (.t rfl) rfl Tryd.underlying25) rfl ?_ | refine W.q (Ev.lenar (i := 1) (.t rfl) rfl Tryd.underlying25) rfl ?_ | refine W.q (Ev.lenar (i := 2) (.t rfl) rfl Tryd.underlying25) rfl ?_ | refine W.q (Ev.lenar (i := 3) (.t rfl) rfl Tryd.underlying25) rfl ?_
    refine W.q (Ev.lti (.t rfl) (.t rfl)) rfl ?_
    refine W.nil ?_
    refine W.then ?_
    refine W.is (t := 8) (g := true) (av' := .lit (.bool false)) rfl (congrArg (fun b => AV.lit (.bool b)) (by exact decide_eq_false (by omega))) ?_
    refine W.condF (.t rfl) ?_
    refine W.exit ?_
    refine W.then_exit ?_
    refine W.then_exit ?_
    refine W.blk_hit ?_
    refine W.then ?_
    refine W.seq ?_
    refine W.region ?_
    refine W.q (Ev.assign .k) rfl ?_
    refine W.nil ?_
    refine W.then ?_
    refine W.ret ?_
    refine W.retn (M' := []) (rs := [.tmp 2]) (avs := [_]) Tryd.results15 ⟨rfl, trivial⟩ rfl (.refl _) ?_
    exact ⟨congrArg AV.bool hr.symm, rfl⟩

theorem c_apart (l : List Nd) (hl : Nd.szs l ≤ 16777216) : FnP Tryd.prog 15 [.sl 4 (l.map Nd.av)] (.bool (Nd.apts false l)) := by
  suffices H : ∀ n, n ≤ 16777216 → ∀ l, Nd.szs l = n → FnP Tryd.prog 15 [.sl 4 (l.map Nd.av)] (.bool (Nd.apts false l)) from H _ hl l rfl
  intro n
  induction n using Nat.strongRecOn with
  | _ n ih => exact fun hn l hl => c_apart_step n hn (fun l' h' => ih _ h' (by omega) l' rfl) l hl

end WApart

end Go.Proofs.YtlglnmafddnmmaaDoor
end

section
set_option linter.unusedVariables false
set_option linter.unusedSimpArgs false
namespace Go.Vl
/-- a change -/
structure Ch where
  kind : Int
  path : List Int
  node : Nd
abbrev cav (c : Ch) : AV := .agg [.int c.kind, .sl 1 (c.path.map AV.int), .str c.node.name, .sl 2 (c.node.attrs.map dav), .str c.node.text, .sl 4 (c.node.parts.map Nd.av)]
abbrev Ch.dfl : Ch := ⟨0, [], Nd.dflt⟩
namespace Nd
abbrev withP (d : Nd) (q : List Nd) : Nd := mk d.name d.attrs d.text q
/-- x instead of what is at a path -/
def setP : List Nd → List Int → Nd → List Nd
  | l, [], _ => l
  | l, i :: p, x => l.set i.toNat (if p = [] then x else withP (l.getD i.toNat dflt) (setP (l.getD i.toNat dflt).parts p x))
/-- x behind all that is at a path -/
def putP : List Nd → List Int → Nd → List Nd
  | l, [], _ => l
  | l, i :: p, x => if p = [] then l ++ [x] else l.set i.toNat (withP (l.getD i.toNat dflt) (putP (l.getD i.toNat dflt).parts p x))
/-- a path behind all of a tree's: where putP puts -/
def endP : List Nd → List Int → Prop
  | _, [] => False
  | l, k :: p => ∃ i : Nat, k = (i : Int) ∧ ((p = [] ∧ i = l.length) ∨ (p ≠ [] ∧ i < l.length ∧ (l.getD i dflt).name ≠ [] ∧ endP (l.getD i dflt).parts p))
end Nd
section app0
open Go Go.Sem
variable {x : Cx} {L : List En} {M : List ME} {ty : TypeId} {pos : String} {aft : Array Edge}
/-- append onto nil: a row of its own that nothing writes -/
theorem Sv.app0 {d : Tmp} {T T' E k bytes : Nat} {z : Value} {o1 o2 : Operand} {xs : List AV} (h1 : Ov true L o1 (.lit (.slice none 0 0))) (h2 : SrcOv x L M o2 k xs) (hT : x.P.underlying T = some (.slice E)) (hT' : NotInt x.P T') (hE : Ty x.P E k bytes z) (hzk : z.cells.size = k)
    (hb1 : Nat.ble 1 bytes = true) (hb : xs.length * bytes ≤ 140737488355328) : Sv x L M ⟨some d, .call ⟨.builtin .append, #[o1, o2], #[T, T']⟩, ty, pos, aft, none⟩ (.sl k xs) := by
  intro a w hs K Q hK
  have hsrc := h2.src hs
  have e1 : a.eval o1 = .slice none 0 0 := h1.lit rfl hs
  have hb1' := Nat.le_of_ble_eq_true hb1
  have h63 : xs.length ≤ maxLen := by
    have : xs.length ≤ xs.length * bytes := Nat.le_mul_of_pos_right _ hb1'
    simp only [maxLen]; omega
  unfold Oper.wp
  by_cases hx : xs = []
  · subst hx
    obtain ⟨hlen, news, hn1, _, _, hn4⟩ := hsrc
    have hf := hn4 w rfl
    obtain ⟨ii, hi1, hi2, hi3, hi4⟩ := hE
    have hlen' : (Builtin.lenOf (a.eval o2)).run x.P w = .ok 0 w := hlen
    have hf' : (Builtin.firstCells k 0 (a.eval o2)).run x.P w = .ok news w := hf
    have hr : (execOp a.eval ⟨some d, .call ⟨.builtin .append, #[o1, o2], #[T, T']⟩, ty, pos, aft, none⟩).run x.P w = .ok (.value (.slice none 0 0)) w := by
      rcases hT' with ⟨e', hd'⟩ | hd' <;>
        simp [execOp, resolve, invoke, builtin, e1, Builtin.append_, run_underlying hT, run_underlying hd', sizeOf, typeInfo, hi1, hi2, hlen', hf']
    rw [hr]
    exact hK _ _ (fun b c T fr hb hc => ⟨hb, hc⟩) hs.mem hs.fr (Rep.slI (es := []) (Nat.le_refl _) (by simp [maxLen]) (.inl rfl))
  · have hpos : 0 < xs.length := List.length_pos_iff.2 hx
    have hold : Src0 x.P w (bl M ++ x.F) k (.slice none 0 0) [] := src0_cells rfl (.inl rfl)
    obtain ⟨cells, hsz, hrE, hrun⟩ := run_append_new (ty := ty) hT hT' hE hzk hold hsrc.to0 rfl (by omega) (by simpa using hb) hb1'
    simp only [Nat.zero_add, List.nil_append] at hrun hrE hsz
    obtain ⟨hg1, hg2⟩ := cap_cut w xs.length 0 E h63
    have hd1 : St x L M a w.drew := hs.same rfl rfl rfl rfl
    obtain ⟨hs', hk, hnew⟩ := hd1.allocI (.cells cells E)
    have hk0 : Keep w (bl M ++ x.F) (w.drew.alloc (.cells cells E)) (bl M ++ x.F) := hk
    have hr : (execOp a.eval ⟨some d, .call ⟨.builtin .append, #[o1, o2], #[T, T']⟩, ty, pos, aft, none⟩).run x.P w = .ok (.value (.slice (some ⟨w.heap.size, 0, none⟩) xs.length (grownCap w xs.length 0 E))) (w.drew.alloc (.cells cells E)) := by
      simp only [execOp, resolve, invoke, builtin, Sem.run_bind, Sem.run_pure, Result.andThen_ok, List.map_toArray, List.map_cons, List.map_nil, e1, hrun]
    rw [hr]
    refine hK _ _ hk0 hs'.mem hs'.fr ?_
    exact Rep.slI hg1 hg2 (.inr ⟨w.heap.size, 0, cells, E, (0, 0), rfl, hnew, alloc_new w.drew _, RepE.keep hk0 _ _ _ (by simpa using hrE)⟩)
theorem DP.app0 {ops : Array Oper} {R : Act → World → Prop} {rest : List Oper} {done : List En} {d : Tmp} {T T' E k bytes : Nat} {z : Value} {o1 o2 : Operand} {xs : List AV} (h1 : Ov true (sel (Oper.looksAt ops ⟨some d, .call ⟨.builtin .append, #[o1, o2], #[T, T']⟩, ty, pos, aft, none⟩) (done ++ L)) o1 (.lit (.slice none 0 0)))
    (h2 : SrcOv x (sel (Oper.looksAt ops ⟨some d, .call ⟨.builtin .append, #[o1, o2], #[T, T']⟩, ty, pos, aft, none⟩) (done ++ L)) M o2 k xs) (hT : x.P.underlying T = some (.slice E)) (hT' : NotInt x.P T') (hE : Ty x.P E k bytes z) (hzk : z.cells.size = k)
    (hb1 : Nat.ble 1 bytes = true) (hb : xs.length * bytes ≤ 140737488355328) (hd : Nat.blt d x.n = true) (next : DP x M ops L R rest ((d, true, .sl k xs) :: done)) :
    DP x M ops L R (⟨some d, .call ⟨.builtin .append, #[o1, o2], #[T, T']⟩, ty, pos, aft, none⟩ :: rest) done := ⟨d, true, _, rfl, hd, .inl ⟨rfl, rfl⟩, fun _ => Sv.app0 h1 h2 hT hT' hE hzk hb1 hb, next⟩
theorem DE.app0 {ι : Type} {Mf : (Nat → Bool) → ι → List ME} {i0 i : Nat} {ops : Array Oper} {R : Act → World → Prop} {rest : List Oper} {done : ι → List En} {d : Tmp} {T T' E k bytes : Nat} {z : Value} {o1 o2 : Operand} {xs : List AV}
    (h1 : ∀ c, Ov true (sel (Oper.looksAt ops ⟨some d, .call ⟨.builtin .append, #[o1, o2], #[T, T']⟩, ty, pos, aft, none⟩) (done c ++ L)) o1 (.lit (.slice none 0 0)))
    (h2 : ∀ e c, SrcOv x (sel (Oper.looksAt ops ⟨some d, .call ⟨.builtin .append, #[o1, o2], #[T, T']⟩, ty, pos, aft, none⟩) (done c ++ L)) (Mf e c) o2 k xs) (hT : x.P.underlying T = some (.slice E)) (hT' : NotInt x.P T') (hE : Ty x.P E k bytes z) (hzk : z.cells.size = k)
    (hb1 : Nat.ble 1 bytes = true) (hb : xs.length * bytes ≤ 140737488355328) (hdn : Nat.blt d x.n = true)
    (hMf : ∀ e c, Mf (addE e i) c = Mf e c) (next : DE x ops L Mf i0 R (i + 1) rest (fun c => (d, true, .sl k xs) :: done c)) :
    DE x ops L Mf i0 R i (⟨some d, .call ⟨.builtin .append, #[o1, o2], #[T, T']⟩, ty, pos, aft, none⟩ :: rest) done :=
  DE.pure rfl hdn (fun _ => .inl ⟨rfl, rfl⟩) (fun e c _ _ => Sv.app0 (h1 c) (h2 e c) hT hT' hE hzk hb1 hb) hMf (.inr fun _ _ => rfl) next
end app0
end Go.Vl
end
