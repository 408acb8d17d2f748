/-
  Merged: WScheme LawS WLib WSafe.
-/
import Derived.Test.YtohncieijjhnjaaDoorG6

section
set_option linter.unusedVariables false
set_option linter.unusedSimpArgs false
set_option maxRecDepth 100000
namespace Go.Proofs.YtohncieijjhnjaaDoor
open Go.Vl

namespace WScheme

theorem c_letter (c : UInt8) : FnP Tryd.prog 19 [AV.u8 c] (.bool (Url.letter c)) :=  by
  refine FnC.mk Tryd.func19 (by kernel_rfl) rfl Tryd.ntmps19 rfl (fun w0 F => ?_)
  refine W.seq ?_
  refine W.region ?_
  refine W.q (Ev.assign .k) rfl ?_
  refine W.nil ?_
  refine W.then ?_
  refine W.seq ?_
  refine W.region ?_
  refine W.q (Ev.move (.t rfl)) rfl ?_
  refine W.q (Ev.gei (.t rfl) .k) rfl ?_
  refine W.q (Ev.move (.t rfl)) rfl ?_
  refine W.qgT rfl rfl (Ev.move (.t rfl)) rfl ?_
  refine W.qgT rfl rfl (Ev.lei (.c rfl) .k) rfl ?_
  refine W.q (Ev.and (.t rfl) ⟨_, _, rfl, rfl, by first | (simp; done) | (intro hg_ hp_; simp [hp_]; done) | (simp <;> omega; done) | (simp_all; done) | grind⟩) rfl ?_
  refine W.q (Ev.move (.t rfl)) rfl ?_
  refine W.qgF rfl rfl (Ev.move (.t rfl)) rfl ?_
  refine W.qgF rfl rfl (Ev.gei (.c rfl) .k) rfl ?_
  refine W.qgF rfl rfl (Ev.move (.c rfl)) rfl ?_
  refine W.qgT' rfl rfl (Ev.move (.t rfl)) rfl ?_
  refine W.qgT' rfl rfl (Ev.lei (.c rfl) .k) rfl ?_
  refine W.qgF rfl rfl (Ev.and (.c rfl) ⟨_, _, rfl, rfl, by first | (simp; done) | (intro hg_ hp_; simp [hp_]; done) | (simp <;> omega; done) | (simp_all; done) | grind⟩) rfl ?_
  refine W.q (Ev.or (.t rfl) ⟨_, _, rfl, rfl, by first | (simp; done) | (intro hg_ hp_; simp [hp_]; done) | (simp <;> omega; done) | (simp_all; done) | grind⟩) rfl ?_
  refine W.q (Ev.assign (.t rfl)) rfl ?_
  refine W.nil ?_
  refine W.then ?_
  refine W.ret ?_
  refine W.retn (M' := []) (rs := [.tmp 2]) (avs := [_]) Tryd.results19 ⟨rfl, trivial⟩ rfl (.refl _) ?_
  exact ⟨congrArg AV.bool (Url.letter_prog c), rfl⟩

theorem c_Scheme (s : List UInt8) (hs : s.length ≤ 4194304) : FnP Tryd.prog 9 [.str s] (.tup [.str (Url.scheme s).1, .bool (Url.scheme s).2]) :=  by
  refine FnC.mk Tryd.func9 (by kernel_rfl) rfl Tryd.ntmps9 rfl (fun w0 F => ?_)
  obtain ⟨u, hu⟩ : ∃ u, Url.strip s = u := ⟨_, rfl⟩
  have hul := Url.strip_len s
  have cS := WStrip.c_Strip s (by omega)
  rw [hu] at hul cS
  have hsc : Url.scheme s = Url.schF [] u := by unfold Url.scheme; rw [hu]
  refine W.seq ?_
  refine W.region ?_
  refine W.q (Ev.assign .k) rfl ?_
  refine W.q (Ev.assign .k) rfl ?_
  refine W.nil ?_
  refine W.then ?_
  refine W.seq ?_
  refine W.region ?_
  refine W.q (Ev.move (.t rfl)) rfl ?_
  refine W.callp (cS) ⟨(.t rfl), trivial⟩ rfl ?_
  refine W.q (Ev.assign (.t rfl)) rfl ?_
  refine W.nil ?_
  refine W.then ?_
  refine W.seq ?_
  refine W.seq ?_
  refine W.region ?_
  refine W.q (Ev.move (.t rfl)) rfl ?_
  refine W.q (Ev.lens (.t rfl) Tryd.underlying9) rfl ?_
  refine W.q (Ev.move .k) rfl ?_
  refine W.nil ?_
  refine W.then ?_
  refine W.block ?_
  refine W.loop (D := []) (ι := Nat) (fun i => [(10, true, .int (i : Int)), (9, true, .int (u.length : Int)), (0, true, .str u)]) (fun _ => []) (fun i => i ≤ u.length ∧ Url.schF [] u = Url.schF (u.take i) (u.drop i)) (fun i => u.length - i) 0 ⟨rfl, rfl, rfl, trivial⟩ (.refl _) ⟨Nat.zero_le _, by simp⟩ ?_
  rintro i ⟨hi, hi2⟩
  dsimp only at hi hi2 ⊢
  rcases (show i < u.length ∨ i = u.length from by omega) with hlt | hend
  · have hat := Url.schF_at u i hlt
    obtain ⟨c, hc⟩ : ∃ c, u.getD i 0 = c := ⟨_, rfl⟩
    rw [hc] at hat
    refine W.seq ?_
    refine W.region ?_
    refine W.q (Ev.lti (.t rfl) (.t rfl)) rfl ?_
    refine W.nil ?_
    refine W.then ?_
    refine W.seq ?_
    refine W.is (t := 11) (g := true) (av' := .lit (.bool true)) rfl (congrArg (fun b => AV.lit (.bool b)) (by exact decide_eq_true (by omega))) ?_
    refine W.condT (.t rfl) ?_
    refine W.skip ?_
    refine W.then ?_
    refine W.seq ?_
    refine W.block ?_
    refine W.seq ?_
    refine W.region ?_
    refine W.q (Ev.move (.t rfl)) rfl ?_
    refine W.q (Ev.assign (.t rfl)) rfl ?_
    refine W.nil ?_
    refine W.then ?_
    refine W.seq ?_
    refine W.region ?_
    refine W.q (Ev.move (.t rfl)) rfl ?_
    refine W.q (Ev.move (.t rfl)) rfl ?_
    refine W.q (Ev.ats' (.t rfl) (.t rfl) Tryd.underlying9 (fun hg => by omega)) rfl ?_
    refine W.is (t := 15) (g := true) (av' := AV.u8 c) rfl (by rw [show ((i : Int)).toNat = i from rfl, hc]) ?_
    refine W.q (Ev.assign (.t rfl)) rfl ?_
    refine W.nil ?_
    refine W.then ?_
    refine W.block ?_
    refine W.seq ?_
    refine W.seq ?_
    refine W.region ?_
    refine W.q (Ev.move (.t rfl)) rfl ?_
    refine W.callp (c_letter c) ⟨(.t rfl), trivial⟩ rfl ?_
    refine W.q (Ev.assign (.t rfl)) rfl ?_
    refine W.nil ?_
    refine W.then ?_
    refine W.cond (.t rfl) (fun hc_t16 => ?_) (fun hc_t16 => ?_)
    · have hcl : Url.letter c = true := hc_t16
      refine W.skip ?_
      refine W.then ?_
      refine W.is (t := 16) (g := true) (av' := .lit (.bool true)) rfl (congrArg (fun b => AV.lit (.bool b)) (by exact hcl)) ?_
      refine W.condT (.t rfl) ?_
      refine W.skip ?_
      refine W.blk_normal ?_
      refine W.blk_normal ?_
      refine W.then ?_
      refine W.region ?_
      first | refine W.q (Ev.add (.t rfl) .k (fun _ => by omega)) rfl ?_ | refine W.q (Ev.addw (.t rfl) .k) rfl ?_
      refine W.q (Ev.move (.t rfl)) rfl ?_
      refine W.nil ?_
      refine W.then ?_
      refine W.reach (D := []) (i + 1) ⟨rfl, rfl, rfl, trivial⟩ (.refl _) ⟨⟨by show i + 1 ≤ _; omega, by rw [hi2, hat, if_pos (by rw [hcl]; rfl)]⟩, by show _ - (i + 1) < _; omega⟩
    · have hcl : Url.letter c = false := hc_t16
      refine W.region ?_
      refine W.q (Ev.move (.t rfl)) rfl ?_
      refine W.q (Ev.gti (.t rfl) .k) rfl ?_
      refine W.q (Ev.move (.t rfl)) rfl ?_
      refine W.qgT rfl rfl (Ev.move (.t rfl)) rfl ?_
      refine W.qgT rfl rfl (Ev.gei (.c rfl) .k) rfl ?_
      refine W.qgT rfl rfl (Ev.move (.c rfl)) rfl ?_
      refine W.qgT' rfl rfl (Ev.move (.t rfl)) rfl ?_
      refine W.qgT' rfl rfl (Ev.lei (.c rfl) .k) rfl ?_
      refine W.qgT rfl rfl (Ev.and (.c rfl) ⟨_, _, rfl, rfl, by first | (simp; done) | (intro hg_ hp_; simp [hp_]; done) | (simp <;> omega; done) | (simp_all; done) | grind⟩) rfl ?_
      refine W.qgT rfl rfl (Ev.move (.c rfl)) rfl ?_
      refine W.qgF' rfl rfl (Ev.move (.t rfl)) rfl ?_
      refine W.qgF' rfl rfl (Ev.eqi (.c rfl) .k) rfl ?_
      refine W.qgT rfl rfl (Ev.or (.c rfl) ⟨_, _, rfl, rfl, by first | (simp; done) | (intro hg_ hp_; simp [hp_]; done) | (simp <;> omega; done) | (simp_all; done) | grind⟩) rfl ?_
      refine W.qgT rfl rfl (Ev.move (.c rfl)) rfl ?_
      refine W.qgF' rfl rfl (Ev.move (.t rfl)) rfl ?_
      refine W.qgF' rfl rfl (Ev.eqi (.c rfl) .k) rfl ?_
      refine W.qgT rfl rfl (Ev.or (.c rfl) ⟨_, _, rfl, rfl, by first | (simp; done) | (intro hg_ hp_; simp [hp_]; done) | (simp <;> omega; done) | (simp_all; done) | grind⟩) rfl ?_
      refine W.qgT rfl rfl (Ev.move (.c rfl)) rfl ?_
      refine W.qgF' rfl rfl (Ev.move (.t rfl)) rfl ?_
      refine W.qgF' rfl rfl (Ev.eqi (.c rfl) .k) rfl ?_
      refine W.qgT rfl rfl (Ev.or (.c rfl) ⟨_, _, rfl, rfl, by first | (simp; done) | (intro hg_ hp_; simp [hp_]; done) | (simp <;> omega; done) | (simp_all; done) | grind⟩) rfl ?_
      refine W.q (Ev.and (.t rfl) ⟨_, _, rfl, rfl, by first | (simp; done) | (intro hg_ hp_; simp [hp_]; done) | (simp <;> omega; done) | (simp_all; done) | grind⟩) rfl ?_
      refine W.is (t := 40) (g := true) (av' := .bool (decide (0 < i) && Url.more c)) rfl (congrArg AV.bool (Url.more_prog i c)) ?_
      refine W.q (Ev.assign (.t rfl)) rfl ?_
      refine W.nil ?_
      refine W.then ?_
      refine W.cond (.t rfl) (fun hc_t16 => ?_) (fun hc_t16 => ?_)
      · have hcm : (decide (0 < i) && Url.more c) = true := hc_t16
        refine W.skip ?_
        refine W.blk_normal ?_
        refine W.blk_normal ?_
        refine W.then ?_
        refine W.region ?_
        first | refine W.q (Ev.add (.t rfl) .k (fun _ => by omega)) rfl ?_ | refine W.q (Ev.addw (.t rfl) .k) rfl ?_
        refine W.q (Ev.move (.t rfl)) rfl ?_
        refine W.nil ?_
        refine W.then ?_
        refine W.reach (D := []) (i + 1) ⟨rfl, rfl, rfl, trivial⟩ (.refl _) ⟨⟨by show i + 1 ≤ _; omega, by rw [hi2, hat, if_pos (by rw [hcm]; simp)]⟩, by show _ - (i + 1) < _; omega⟩
      · have hcm : (decide (0 < i) && Url.more c) = false := hc_t16
        rw [if_neg (by rw [hcl, hcm]; simp)] at hat
        refine W.seq ?_
        refine W.region ?_
        refine W.q (Ev.move (.t rfl)) rfl ?_
        refine W.q (Ev.eqi (.t rfl) .k) rfl ?_
        refine W.q (Ev.move (.t rfl)) rfl ?_
        refine W.qgT rfl rfl (Ev.move (.t rfl)) rfl ?_
        refine W.qgT rfl rfl (Ev.gti (.c rfl) .k) rfl ?_
        refine W.q (Ev.and (.t rfl) ⟨_, _, rfl, rfl, by first | (simp; done) | (intro hg_ hp_; simp [hp_]; done) | (simp <;> omega; done) | (simp_all; done) | grind⟩) rfl ?_
        refine W.is (t := 47) (g := true) (av' := .bool (c == 58 && decide (0 < i))) rfl (congrArg AV.bool (Url.colon_prog i c)) ?_
        refine W.q (Ev.assign (.t rfl)) rfl ?_
        refine W.nil ?_
        refine W.then ?_
        refine W.cond (.t rfl) (fun hc_t41 => ?_) (fun hc_t41 => ?_)
        · have hr : Url.schF [] u = (Sty.small (u.take i), true) := by rw [hi2, hat, if_pos hc_t41]
          refine W.seq ?_
          refine W.region ?_
          refine W.q (Ev.move (.t rfl)) rfl ?_
          refine W.q (Ev.move (.t rfl)) rfl ?_
          refine W.q (Ev.subTake (n := i) (.t rfl) Tryd.underlying9 (.t rfl) (fun _ => by omega)) rfl ?_
          refine W.callp (WSmall.c_Small (u.take i) (by rw [List.length_take]; omega)) ⟨(.t rfl), trivial⟩ rfl ?_
          refine W.q (Ev.assign (.t rfl)) rfl ?_
          refine W.q (Ev.assign .k) rfl ?_
          refine W.nil ?_
          refine W.then ?_
          refine W.ret ?_
          refine W.blk_ret ?_
          refine W.blk_ret ?_
          refine W.then_ret ?_
          refine W.then_ret ?_
          refine W.blk_ret ?_
          refine W.then_ret ?_
          refine W.retn (M' := []) (rs := [.tmp 2, .tmp 3]) (avs := [_, _]) Tryd.results9 ⟨rfl, rfl, trivial⟩ rfl (.refl _) ?_
          exact ⟨by rw [hsc, hr]; rfl, rfl⟩
        · have hr : Url.schF [] u = ([], false) := by rw [hi2, hat, if_neg (by rw [hc_t41]; simp)]
          refine W.seq ?_
          refine W.region ?_
          refine W.q (Ev.assign .k) rfl ?_
          refine W.q (Ev.assign .k) rfl ?_
          refine W.nil ?_
          refine W.then ?_
          refine W.ret ?_
          refine W.blk_ret ?_
          refine W.blk_ret ?_
          refine W.then_ret ?_
          refine W.then_ret ?_
          refine W.blk_ret ?_
          refine W.then_ret ?_
          refine W.retn (M' := []) (rs := [.tmp 2, .tmp 3]) (avs := [_, _]) Tryd.results9 ⟨rfl, rfl, trivial⟩ rfl (.refl _) ?_
          exact ⟨by rw [hsc, hr]; rfl, rfl⟩
  · have hr : Url.schF [] u = ([], false) := by rw [hi2, List.drop_of_length_le (by omega)]; rfl
    refine W.seq ?_
    refine W.region ?_
    refine W.q (Ev.lti (.t rfl) (.t rfl)) rfl ?_
    refine W.nil ?_
    refine W.then ?_
    refine W.seq ?_
    refine W.is (t := 11) (g := true) (av' := .lit (.bool false)) rfl (congrArg (fun b => AV.lit (.bool b)) (by exact decide_eq_false (by omega))) ?_
    refine W.condF (.t rfl) ?_
    refine W.exit ?_
    refine W.then_exit ?_
    refine W.then_exit ?_
    refine W.blk_hit ?_
    refine W.then ?_
    refine W.seq ?_
    refine W.region ?_
    refine W.q (Ev.assign .k) rfl ?_
    refine W.q (Ev.assign .k) rfl ?_
    refine W.nil ?_
    refine W.then ?_
    refine W.ret ?_
    refine W.retn (M' := []) (rs := [.tmp 2, .tmp 3]) (avs := [_, _]) Tryd.results9 ⟨rfl, rfl, trivial⟩ rfl (.refl _) ?_
    exact ⟨by rw [hsc, hr]; rfl, rfl⟩

end WScheme

end Go.Proofs.YtohncieijjhnjaaDoor
end

section
set_option linter.unusedVariables false
set_option linter.unusedSimpArgs false
namespace Go.Vl
open Go.RowKit (Below)
mutual
/-- the cells of a datum without pointers -/
def dcells : DataW Unit → List Value
  | .lit (.int k z) => [.int k z]
  | .agg ps => dcellsL ps
  | _ => []
def dcellsL : List (DataW Unit) → List Value
  | [] => []
  | d :: l => dcells d ++ dcellsL l
end
end Go.Vl
end

section
set_option linter.unusedVariables false
set_option linter.unusedSimpArgs false
set_option maxRecDepth 100000
namespace Go.Proofs.YtohncieijjhnjaaDoor
open Go.Vl

namespace WLib
theorem ty9 : Ty Tryd.prog 9 1 16 (.string ⟨#[]⟩) := Ty.of (by kernel_rfl)
theorem ag9 : IsAgg Tryd.prog 9 false := ⟨_, Tryd.underlying9, rfl⟩
theorem c_Index (ns : List (List UInt8)) (v : List UInt8) (hn : ns.length ≤ 1099511627776) : FnC Tryd.prog 52 [.sl 1 (ns.map AV.str), .str v] [] (fun r M => M = [] ∧ ∃ k : Int, r = .int k ∧ decide (0 ≤ k) = ns.any fun s => v == s) :=  by
  refine FnC.mk Tryd.func52 (by kernel_rfl) rfl Tryd.ntmps52 rfl (fun w0 F => ?_)
  have hnl : (ns.map AV.str).length = ns.length := List.length_map ..
  refine W.seq ?_
  refine W.region ?_
  refine W.q (Ev.assign .k) rfl ?_
  refine W.nil ?_
  refine W.then ?_
  refine W.seq ?_
  refine W.seq ?_
  refine W.region ?_
  refine W.q (Ev.move (.t rfl)) rfl ?_
  first | refine W.q (Ev.lensl (.t rfl) Tryd.underlying27) rfl ?_ | refine W.q (Ev.lenar (i := 0) (.t rfl) rfl Tryd.underlying27) rfl ?_ | refine W.q (Ev.lenar (i := 1) (.t rfl) rfl Tryd.underlying27) rfl ?_ | refine W.q (Ev.lenar (i := 2) (.t rfl) rfl Tryd.underlying27) rfl ?_ | refine W.q (Ev.lenar (i := 3) (.t rfl) rfl Tryd.underlying27) rfl ?_
  refine W.q (Ev.move .k) rfl ?_
  refine W.nil ?_
  refine W.then ?_
  refine W.block ?_
  refine W.loop (D := []) (ι := Nat) (fun i => [(8, true, .int (i : Int)), (7, true, .int ((ns.map AV.str).length : Int)), (0, true, .sl 1 (ns.map AV.str)), (1, true, .str v)]) (fun _ => []) (fun i => i ≤ ns.length ∧ ∀ d ∈ ns.take i, (v == d) = false) (fun i => ns.length - i) 0 ⟨rfl, rfl, rfl, rfl, trivial⟩ (.refl _) ⟨Nat.zero_le _, by simp⟩ ?_
  rintro i ⟨hi1, hi2⟩
  dsimp only at hi1 hi2 ⊢
  rcases (show i < ns.length ∨ i = ns.length from by omega) with hlt | hend
  · have hga := getD_mapG AV.str [] ns i hlt
    refine W.seq ?_
    refine W.region ?_
    refine W.q (Ev.lti (.t rfl) (.t rfl)) rfl ?_
    refine W.nil ?_
    refine W.then ?_
    refine W.seq ?_
    refine W.is (t := 9) (g := true) (av' := .lit (.bool true)) rfl (congrArg (fun b => AV.lit (.bool b)) (by simp; omega)) ?_
    refine W.condT (.t rfl) ?_
    refine W.skip ?_
    refine W.then ?_
    refine W.seq ?_
    refine W.block ?_
    refine W.seq ?_
    refine W.region ?_
    refine W.q (Ev.move (.t rfl)) rfl ?_
    refine W.q (Ev.assign (.t rfl)) rfl ?_
    refine W.nil ?_
    refine W.then ?_
    refine W.seq ?_
    refine W.region ?_
    refine W.q (Ev.move (.t rfl)) rfl ?_
    refine W.q (Ev.move (.t rfl)) rfl ?_
    refine W.q (Ev.move (.t rfl)) rfl ?_
    refine W.q (Ev.at (E := 9) (.t rfl) (.t rfl) Tryd.underlying27 ty9 (fun _ => ⟨by omega, hga⟩) rfl rfl) rfl ?_
    first | refine W.q (Ev.lde1 (.t rfl) ag9) rfl ?_ | refine W.q (Ev.ldb1 0 (.t rfl) rfl ag9 rfl) rfl ?_ | refine W.q (Ev.ldb1 1 (.t rfl) rfl ag9 rfl) rfl ?_ | refine W.q (Ev.ldb1 2 (.t rfl) rfl ag9 rfl) rfl ?_ | refine W.q (Ev.ldb1 3 (.t rfl) rfl ag9 rfl) rfl ?_
    refine W.q (Ev.eqs (.t rfl) (.t rfl)) rfl ?_
    refine W.nil ?_
    refine W.then ?_
    refine W.cond (.t rfl) (fun hc_t16 => ?_) (fun hc_t16 => ?_)
    · have hq : (ns.any fun s => v == s) = true := by rw [List.any_eq_true]; exact ⟨_, getD_memG [] ns i hlt, hc_t16⟩
      refine W.seq ?_
      refine W.region ?_
      refine W.q (Ev.move (.t rfl)) rfl ?_
      refine W.q (Ev.assign (.t rfl)) rfl ?_
      refine W.nil ?_
      refine W.then ?_
      refine W.ret ?_
      refine W.blk_ret ?_
      refine W.then_ret ?_
      refine W.then_ret ?_
      refine W.blk_ret ?_
      refine W.then_ret ?_
      refine W.retn (M' := []) (rs := [.tmp 4]) (avs := [_]) Tryd.results52 ⟨rfl, trivial⟩ rfl (.refl _) ?_
      refine ⟨rfl, _, rfl, ?_⟩
      rw [hq]
      first | rfl | (simp; done) | (simp; omega)
    · have hq : (v == ns.getD i []) = false := hc_t16
      refine W.skip ?_
      refine W.blk_normal ?_
      refine W.then ?_
      refine W.region ?_
      first | refine W.q (Ev.add (.t rfl) .k (fun _ => by omega)) rfl ?_ | refine W.q (Ev.addw (.t rfl) .k) rfl ?_
      refine W.q (Ev.move (.t rfl)) rfl ?_
      refine W.nil ?_
      refine W.then ?_
      refine W.reach (D := []) (i + 1) ⟨rfl, rfl, rfl, rfl, trivial⟩ (.refl _) ⟨⟨by omega, ?_⟩, by omega⟩
      rw [take_getDG [] ns i hlt]
      intro d hd
      cases List.mem_append.1 hd with
      | inl h => exact hi2 d h
      | inr h => rw [List.mem_singleton.1 h]; exact hq
  · rw [List.take_of_length_le (by omega)] at hi2
    have hq := any_take_false (fun d => v == d) ns hi2
    refine W.seq ?_
    refine W.region ?_
    refine W.q (Ev.lti (.t rfl) (.t rfl)) rfl ?_
    refine W.nil ?_
    refine W.then ?_
    refine W.seq ?_
    refine W.is (t := 9) (g := true) (av' := .lit (.bool false)) rfl (congrArg (fun b => AV.lit (.bool b)) (by simp; omega)) ?_
    refine W.condF (.t rfl) ?_
    refine W.exit ?_
    refine W.then_exit ?_
    refine W.then_exit ?_
    refine W.blk_hit ?_
    refine W.then ?_
    refine W.seq ?_
    refine W.region ?_
    refine W.q (Ev.assign .k) rfl ?_
    refine W.nil ?_
    refine W.then ?_
    refine W.ret ?_
    refine W.retn (M' := []) (rs := [.tmp 4]) (avs := [_]) Tryd.results52 ⟨rfl, trivial⟩ rfl (.refl _) ?_
    refine ⟨rfl, _, rfl, ?_⟩
    rw [hq]
    first | rfl | (simp; done) | (simp; omega)

theorem c_Contains (ns : List (List UInt8)) (v : List UInt8) (hn : ns.length ≤ 1099511627776) : FnP Tryd.prog 38 [.sl 1 (ns.map AV.str), .str v] (.bool (ns.any fun s => v == s)) :=  by
  refine FnC.mk Tryd.func38 (by kernel_rfl) rfl Tryd.ntmps38 rfl (fun w0 F => ?_)
  refine W.seq ?_
  refine W.region ?_
  refine W.q (Ev.assign .k) rfl ?_
  refine W.nil ?_
  refine W.then ?_
  refine W.seq ?_
  refine W.region ?_
  refine W.q (Ev.move (.t rfl)) rfl ?_
  refine W.q (Ev.move (.t rfl)) rfl ?_
  refine W.call (c_Index ns v hn) ⟨(.t rfl), (.t rfl), trivial⟩ (.refl _) rfl ?_
  rintro _ _ ⟨rfl, k, rfl, hk⟩
  refine W.q (Ev.gei (.t rfl) .k) rfl ?_
  refine W.q (Ev.assign (.t rfl)) rfl ?_
  refine W.nil ?_
  refine W.then ?_
  refine W.ret ?_
  refine W.retn (M' := []) (rs := [.tmp 4]) (avs := [_]) Tryd.results38 ⟨rfl, trivial⟩ rfl (.refl _) ?_
  exact ⟨congrArg AV.bool hk, rfl⟩

end WLib

end Go.Proofs.YtohncieijjhnjaaDoor
end

section
set_option linter.unusedVariables false
set_option linter.unusedSimpArgs false
set_option maxRecDepth 100000
namespace Go.Proofs.YtohncieijjhnjaaDoor
open Go.Vl

namespace WSafe
theorem ty9 : Ty Tryd.prog 9 1 16 (.string ⟨#[]⟩) := Ty.of (by kernel_rfl)
theorem ag9 : IsAgg Tryd.prog 9 false := ⟨_, Tryd.underlying9, rfl⟩
theorem c_Of (s : List UInt8) (hs : s.length ≤ 4194304) (l : List (List UInt8)) (hl : l.length ≤ 1000) : FnP Tryd.prog 22 [.str s, .sl 1 (l.map AV.str)] (.bool (Url.of s l)) :=  by
  refine FnC.mk Tryd.func22 (by kernel_rfl) rfl Tryd.ntmps22 rfl (fun w0 F => ?_)
  refine W.seq ?_
  refine W.region ?_
  refine W.q (Ev.assign .k) rfl ?_
  refine W.nil ?_
  refine W.then ?_
  refine W.seq ?_
  refine W.region ?_
  refine W.q (Ev.move (.t rfl)) rfl ?_
  refine W.callp (WScheme.c_Scheme s hs) ⟨(.t rfl), trivial⟩ rfl ?_
  refine W.q (Ev.move (.t rfl)) rfl ?_
  refine W.q (Ev.extract (.t rfl) rfl) rfl ?_
  refine W.q (Ev.extract (.t rfl) rfl) rfl ?_
  refine W.q (Ev.assign (.t rfl)) rfl ?_
  refine W.q (Ev.assign (.t rfl)) rfl ?_
  refine W.nil ?_
  refine W.then ?_
  refine W.seq ?_
  refine W.region ?_
  refine W.q (Ev.move (.t rfl)) rfl ?_
  refine W.q (Ev.not (.t rfl)) rfl ?_
  refine W.q (Ev.move (.t rfl)) rfl ?_
  refine W.qgF rfl rfl (Ev.move (.t rfl)) rfl ?_
  refine W.qgF rfl rfl (Ev.move (.t rfl)) rfl ?_
  refine W.callgF (Min := []) (caps := []) (avs := [_, _]) rfl rfl (fun hg => WLib.c_Contains l (Url.scheme s).1 (by omega)) (fun hg => .f) (fun hg => ⟨(.i rfl (fun _ => hg)), (.i rfl (fun _ => hg)), trivial⟩) rfl (.refl _) rfl ?_
  refine W.q (Ev.or (.t rfl) ⟨_, _, rfl, rfl, by first | (simp; done) | (intro hg_ hp_; simp [hp_]; done) | (simp <;> omega; done) | (simp_all; done) | grind⟩) rfl ?_
  refine W.q (Ev.assign (.t rfl)) rfl ?_
  refine W.nil ?_
  refine W.then ?_
  refine W.ret ?_
  refine W.retn (M' := []) (rs := [.tmp 4]) (avs := [_]) Tryd.results22 ⟨rfl, trivial⟩ rfl (.refl _) ?_
  exact ⟨rfl, rfl⟩

theorem c_Schemes (l : List (List UInt8)) (hl : l.length ≤ 40) (hx : ∀ x ∈ l, x.length ≤ 1000 ∧ Url.scheme (x ++ [58]) = (x, true)) : FnP Tryd.prog 21 [.sl 1 (l.map AV.str)] (.int 0) :=  by
  refine FnC.mk Tryd.func21 (by kernel_rfl) rfl Tryd.ntmps21 rfl (fun w0 F => ?_)
  have hll : (l.map AV.str).length = l.length := List.length_map ..
  refine W.seq ?_
  refine W.region ?_
  refine W.q (Ev.assign .k) rfl ?_
  refine W.nil ?_
  refine W.then ?_
  refine W.seq ?_
  refine W.seq ?_
  refine W.region ?_
  refine W.q (Ev.move (.t rfl)) rfl ?_
  first | refine W.q (Ev.lensl (.t rfl) Tryd.underlying27) rfl ?_ | refine W.q (Ev.lenar (i := 0) (.t rfl) rfl Tryd.underlying27) rfl ?_ | refine W.q (Ev.lenar (i := 1) (.t rfl) rfl Tryd.underlying27) rfl ?_ | refine W.q (Ev.lenar (i := 2) (.t rfl) rfl Tryd.underlying27) rfl ?_ | refine W.q (Ev.lenar (i := 3) (.t rfl) rfl Tryd.underlying27) rfl ?_
  refine W.q (Ev.gti (.t rfl) .k) rfl ?_
  refine W.nil ?_
  refine W.then ?_
  refine W.is (t := 9) (g := true) (av' := .lit (.bool false)) rfl (congrArg (fun b => AV.lit (.bool b)) (by exact decide_eq_false (by omega))) ?_
  refine W.condF (.t rfl) ?_
  refine W.skip ?_
  refine W.then ?_
  refine W.seq ?_
  refine W.seq ?_
  refine W.region ?_
  refine W.q (Ev.move (.t rfl)) rfl ?_
  first | refine W.q (Ev.lensl (.t rfl) Tryd.underlying27) rfl ?_ | refine W.q (Ev.lenar (i := 0) (.t rfl) rfl Tryd.underlying27) rfl ?_ | refine W.q (Ev.lenar (i := 1) (.t rfl) rfl Tryd.underlying27) rfl ?_ | refine W.q (Ev.lenar (i := 2) (.t rfl) rfl Tryd.underlying27) rfl ?_ | refine W.q (Ev.lenar (i := 3) (.t rfl) rfl Tryd.underlying27) rfl ?_
  refine W.q (Ev.move .k) rfl ?_
  refine W.nil ?_
  refine W.then ?_
  refine W.block ?_
  refine W.loop (D := []) (ι := Nat) (fun i => [(12, true, .int (i : Int)), (11, true, .int ((l.map AV.str).length : Int)), (10, true, .sl 1 (l.map AV.str))]) (fun _ => []) (fun i => i ≤ l.length) (fun i => l.length - i) 0 ⟨rfl, rfl, rfl, trivial⟩ (.refl _) (Nat.zero_le _) ?_
  intro i hi
  dsimp only at hi ⊢
  rcases (show i < l.length ∨ i = l.length from by omega) with hlt | hend
  · have hga := getD_mapG AV.str [] l i hlt
    have hxi := hx _ (getD_memG [] l i hlt)
    generalize l.getD i [] = x at hga hxi
    obtain ⟨hx1, hx2⟩ := hxi
    have cS := WScheme.c_Scheme (x ++ [58]) (by rw [List.length_append, List.length_singleton]; omega)
    rw [hx2] at cS
    refine W.seq ?_
    refine W.region ?_
    refine W.q (Ev.lti (.t rfl) (.t rfl)) rfl ?_
    refine W.nil ?_
    refine W.then ?_
    refine W.seq ?_
    refine W.is (t := 13) (g := true) (av' := .lit (.bool true)) rfl (congrArg (fun b => AV.lit (.bool b)) (by exact decide_eq_true (by omega))) ?_
    refine W.condT (.t rfl) ?_
    refine W.skip ?_
    refine W.then ?_
    refine W.seq ?_
    refine W.block ?_
    refine W.seq ?_
    refine W.region ?_
    refine W.q (Ev.at (E := 9) (.t rfl) (.t rfl) Tryd.underlying27 ty9 (fun _ => ⟨by omega, hga⟩) rfl rfl) rfl ?_
    first | refine W.q (Ev.lde1 (.t rfl) ag9) rfl ?_ | refine W.q (Ev.ldb1 0 (.t rfl) rfl ag9 rfl) rfl ?_ | refine W.q (Ev.ldb1 1 (.t rfl) rfl ag9 rfl) rfl ?_ | refine W.q (Ev.ldb1 2 (.t rfl) rfl ag9 rfl) rfl ?_ | refine W.q (Ev.ldb1 3 (.t rfl) rfl ag9 rfl) rfl ?_
    refine W.q (Ev.assign (.t rfl)) rfl ?_
    refine W.nil ?_
    refine W.then ?_
    refine W.seq ?_
    refine W.region ?_
    refine W.q (Ev.move (.t rfl)) rfl ?_
    refine W.q (Ev.cat (.t rfl) .k (fun _ => by first | omega | (simp only [List.length_append]; omega) | (simp [-List.length_flatMap]; omega) | (simp; omega))) rfl ?_
    refine W.callp (cS) ⟨(.t rfl), trivial⟩ rfl ?_
    refine W.q (Ev.move (.t rfl)) rfl ?_
    refine W.q (Ev.extract (.t rfl) rfl) rfl ?_
    refine W.q (Ev.extract (.t rfl) rfl) rfl ?_
    refine W.q (Ev.assign (.t rfl)) rfl ?_
    refine W.q (Ev.assign (.t rfl)) rfl ?_
    refine W.nil ?_
    refine W.then ?_
    refine W.seq ?_
    refine W.region ?_
    refine W.q (Ev.move (.t rfl)) rfl ?_
    refine W.q (Ev.not (.t rfl)) rfl ?_
    refine W.q (Ev.move (.t rfl)) rfl ?_
    refine W.qgF rfl rfl (Ev.move (.t rfl)) rfl ?_
    refine W.qgF rfl rfl (Ev.move (.t rfl)) rfl ?_
    refine W.qgF rfl rfl (Ev.nes (.c rfl) (.c rfl)) rfl ?_
    refine W.q (Ev.or (.t rfl) ⟨_, _, rfl, rfl, by first | (simp; done) | (intro hg_ hp_; simp [hp_]; done) | (simp <;> omega; done) | (simp_all; done) | grind⟩) rfl ?_
    refine W.nil ?_
    refine W.then ?_
    refine W.is (t := 28) (g := true) (av' := .lit (.bool false)) rfl (congrArg (fun b => AV.lit (.bool b)) (by simp)) ?_
    refine W.condF (.t rfl) ?_
    refine W.skip ?_
    refine W.blk_normal ?_
    refine W.then ?_
    refine W.region ?_
    first | refine W.q (Ev.add (.t rfl) .k (fun _ => by omega)) rfl ?_ | refine W.q (Ev.addw (.t rfl) .k) rfl ?_
    refine W.q (Ev.move (.t rfl)) rfl ?_
    refine W.nil ?_
    refine W.then ?_
    refine W.reach (D := []) (i + 1) ⟨rfl, rfl, rfl, trivial⟩ (.refl _) ⟨by show i + 1 ≤ _; omega, by show _ - (i + 1) < _; omega⟩
  · skip
    refine W.seq ?_
    refine W.region ?_
    refine W.q (Ev.lti (.t rfl) (.t rfl)) rfl ?_
    refine W.nil ?_
    refine W.then ?_
    refine W.seq ?_
    refine W.is (t := 13) (g := true) (av' := .lit (.bool false)) rfl (congrArg (fun b => AV.lit (.bool b)) (by exact decide_eq_false (by omega))) ?_
    refine W.condF (.t rfl) ?_
    refine W.exit ?_
    refine W.then_exit ?_
    refine W.then_exit ?_
    refine W.blk_hit ?_
    refine W.then ?_
    refine W.seq ?_
    refine W.region ?_
    refine W.q (Ev.assign .k) rfl ?_
    refine W.nil ?_
    refine W.then ?_
    refine W.ret ?_
    refine W.retn (M' := []) (rs := [.tmp 2]) (avs := [_]) Tryd.results21 ⟨rfl, trivial⟩ rfl (.refl _) ?_
    exact ⟨rfl, rfl⟩

theorem c_Safe (s : List UInt8) (hs : s.length ≤ 4194304) (l : List (List UInt8)) (hl : l.length ≤ 40) (hx : ∀ x ∈ l, x.length ≤ 1000 ∧ Url.scheme (x ++ [58]) = (x, true)) : FnP Tryd.prog 11 [.str s, .sl 1 (l.map AV.str)] (.tup [.bool (Url.of s l), .int 0]) :=  by
  refine FnC.mk Tryd.func11 (by kernel_rfl) rfl Tryd.ntmps11 rfl (fun w0 F => ?_)
  refine W.seq ?_
  refine W.region ?_
  refine W.q (Ev.assign .k) rfl ?_
  refine W.q (Ev.assign .k) rfl ?_
  refine W.nil ?_
  refine W.then ?_
  refine W.seq ?_
  refine W.seq ?_
  refine W.region ?_
  refine W.q (Ev.move (.t rfl)) rfl ?_
  refine W.callp (c_Schemes l hl hx) ⟨(.t rfl), trivial⟩ rfl ?_
  refine W.q (Ev.assign (.t rfl)) rfl ?_
  refine W.nil ?_
  refine W.then ?_
  refine W.seq ?_
  refine W.region ?_
  refine W.q (Ev.move (.t rfl)) rfl ?_
  refine W.q (Ev.nei (.t rfl) .k) rfl ?_
  refine W.nil ?_
  refine W.then ?_
  refine W.is (t := 10) (g := true) (av' := .lit (.bool false)) rfl (congrArg (fun b => AV.lit (.bool b)) (by rfl)) ?_
  refine W.condF (.t rfl) ?_
  refine W.skip ?_
  refine W.then ?_
  refine W.seq ?_
  refine W.region ?_
  refine W.q (Ev.move (.t rfl)) rfl ?_
  refine W.q (Ev.move (.t rfl)) rfl ?_
  refine W.callp (c_Of s hs l (by omega)) ⟨(.t rfl), (.t rfl), trivial⟩ rfl ?_
  refine W.q (Ev.assign (.t rfl)) rfl ?_
  refine W.q (Ev.assign .k) rfl ?_
  refine W.nil ?_
  refine W.then ?_
  refine W.ret ?_
  refine W.retn (M' := []) (rs := [.tmp 4, .tmp 5]) (avs := [_, _]) Tryd.results11 ⟨rfl, rfl, trivial⟩ rfl (.refl _) ?_
  exact ⟨rfl, rfl⟩

end WSafe

end Go.Proofs.YtohncieijjhnjaaDoor
end
