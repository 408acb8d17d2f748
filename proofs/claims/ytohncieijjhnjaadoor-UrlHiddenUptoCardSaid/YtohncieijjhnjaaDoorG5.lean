/-
  Merged: WRepB Low.
-/
import Derived.Test.YtohncieijjhnjaaDoorG4

section
set_option linter.unusedVariables false
set_option linter.unusedSimpArgs false
set_option maxRecDepth 100000
namespace Go.Proofs.YtohncieijjhnjaaDoor
open Go.Vl

namespace WRepB
theorem ty5 : Ty Tryd.prog 5 1 1 (.int .u8 0) := Ty.of (by kernel_rfl)
theorem ty9 : Ty Tryd.prog 9 1 16 (.string ⟨#[]⟩) := Ty.of (by kernel_rfl)
theorem ty27 : Ty Tryd.prog 27 1 24 (.slice none 0 0) := Ty.of (by kernel_rfl)
theorem ty46 : Ty Tryd.prog 46 1 24 (.slice none 0 0) := Ty.of (by kernel_rfl)
theorem ty113 : Ty Tryd.prog 113 256 6144 (.agg #[.slice none 0 0, .slice none 0 0, .slice none 0 0, .slice none 0 0, .slice none 0 0, .slice none 0 0, .slice none 0 0, .slice none 0 0, .slice none 0 0, .slice none 0 0, .slice none 0 0, .slice none 0 0, .slice none 0 0, .slice none 0 0, .slice none 0 0, .slice none 0 0, .slice none 0 0, .slice none 0 0, .slice none 0 0, .slice none 0 0, .slice none 0 0, .slice none 0 0, .slice none 0 0, .slice none 0 0, .slice none 0 0, .slice none 0 0, .slice none 0 0, .slice none 0 0, .slice none 0 0, .slice none 0 0, .slice none 0 0, .slice none 0 0, .slice none 0 0, .slice none 0 0, .slice none 0 0, .slice none 0 0, .slice none 0 0, .slice none 0 0, .slice none 0 0, .slice none 0 0, .slice none 0 0, .slice none 0 0, .slice none 0 0, .slice none 0 0, .slice none 0 0, .slice none 0 0, .slice none 0 0, .slice none 0 0, .slice none 0 0, .slice none 0 0, .slice none 0 0, .slice none 0 0, .slice none 0 0, .slice none 0 0, .slice none 0 0, .slice none 0 0, .slice none 0 0, .slice none 0 0, .slice none 0 0, .slice none 0 0, .slice none 0 0, .slice none 0 0, .slice none 0 0, .slice none 0 0, .slice none 0 0, .slice none 0 0, .slice none 0 0, .slice none 0 0, .slice none 0 0, .slice none 0 0, .slice none 0 0, .slice none 0 0, .slice none 0 0, .slice none 0 0, .slice none 0 0, .slice none 0 0, .slice none 0 0, .slice none 0 0, .slice none 0 0, .slice none 0 0, .slice none 0 0, .slice none 0 0, .slice none 0 0, .slice none 0 0, .slice none 0 0, .slice none 0 0, .slice none 0 0, .slice none 0 0, .slice none 0 0, .slice none 0 0, .slice none 0 0, .slice none 0 0, .slice none 0 0, .slice none 0 0, .slice none 0 0, .slice none 0 0, .slice none 0 0, .slice none 0 0, .slice none 0 0, .slice none 0 0, .slice none 0 0, .slice none 0 0, .slice none 0 0, .slice none 0 0, .slice none 0 0, .slice none 0 0, .slice none 0 0, .slice none 0 0, .slice none 0 0, .slice none 0 0, .slice none 0 0, .slice none 0 0, .slice none 0 0, .slice none 0 0, .slice none 0 0, .slice none 0 0, .slice none 0 0, .slice none 0 0, .slice none 0 0, .slice none 0 0, .slice none 0 0, .slice none 0 0, .slice none 0 0, .slice none 0 0, .slice none 0 0, .slice none 0 0, .slice none 0 0, .slice none 0 0, .slice none 0 0, .slice none 0 0, .slice none 0 0, .slice none 0 0, .slice none 0 0, .slice none 0 0, .slice none 0 0, .slice none 0 0, .slice none 0 0, .slice none 0 0, .slice none 0 0, .slice none 0 0, .slice none 0 0, .slice none 0 0, .slice none 0 0, .slice none 0 0, .slice none 0 0, .slice none 0 0, .slice none 0 0, .slice none 0 0, .slice none 0 0, .slice none 0 0, .slice none 0 0, .slice none 0 0, .slice none 0 0, .slice none 0 0, .slice none 0 0, .slice none 0 0, .slice none 0 0, .slice none 0 0, .slice none 0 0, .slice none 0 0, .slice none 0 0, .slice none 0 0, .slice none 0 0, .slice none 0 0, .slice none 0 0, .slice none 0 0, .slice none 0 0, .slice none 0 0, .slice none 0 0, .slice none 0 0, .slice none 0 0, .slice none 0 0, .slice none 0 0, .slice none 0 0, .slice none 0 0, .slice none 0 0, .slice none 0 0, .slice none 0 0, .slice none 0 0, .slice none 0 0, .slice none 0 0, .slice none 0 0, .slice none 0 0, .slice none 0 0, .slice none 0 0, .slice none 0 0, .slice none 0 0, .slice none 0 0, .slice none 0 0, .slice none 0 0, .slice none 0 0, .slice none 0 0, .slice none 0 0, .slice none 0 0, .slice none 0 0, .slice none 0 0, .slice none 0 0, .slice none 0 0, .slice none 0 0, .slice none 0 0, .slice none 0 0, .slice none 0 0, .slice none 0 0, .slice none 0 0, .slice none 0 0, .slice none 0 0, .slice none 0 0, .slice none 0 0, .slice none 0 0, .slice none 0 0, .slice none 0 0, .slice none 0 0, .slice none 0 0, .slice none 0 0, .slice none 0 0, .slice none 0 0, .slice none 0 0, .slice none 0 0, .slice none 0 0, .slice none 0 0, .slice none 0 0, .slice none 0 0, .slice none 0 0, .slice none 0 0, .slice none 0 0, .slice none 0 0, .slice none 0 0, .slice none 0 0, .slice none 0 0, .slice none 0 0, .slice none 0 0, .slice none 0 0, .slice none 0 0, .slice none 0 0, .slice none 0 0, .slice none 0 0, .slice none 0 0, .slice none 0 0, .slice none 0 0, .slice none 0 0, .slice none 0 0, .slice none 0 0, .slice none 0 0, .slice none 0 0, .slice none 0 0, .slice none 0 0, .slice none 0 0, .slice none 0 0, .slice none 0 0, .slice none 0 0, .slice none 0 0, .slice none 0 0, .slice none 0 0, .slice none 0 0, .slice none 0 0, .slice none 0 0]) := Ty.of (by kernel_rfl)
theorem ag9 : IsAgg Tryd.prog 9 false := ⟨_, Tryd.underlying9, rfl⟩
theorem ag27 : IsAgg Tryd.prog 27 false := ⟨_, Tryd.underlying27, rfl⟩
theorem ag46 : IsAgg Tryd.prog 46 false := ⟨_, Tryd.underlying46, rfl⟩
theorem ag113 : IsAgg Tryd.prog 113 true := ⟨_, Tryd.underlying113, rfl⟩
theorem fa115_0 : FieldAt Tryd.prog 115 0 0 256 true := ⟨_, _, Tryd.underlying115, rfl, rfl, ty113.size, ag113, by decide⟩
theorem fa115_1 : FieldAt Tryd.prog 115 1 256 1 false := ⟨_, _, Tryd.underlying115, rfl, rfl, ty27.size, ag27, by decide⟩
theorem c_Replace (s : List UInt8) (hs : s.length ≤ 1099511627776) (b : Nat) (z : Nat → Nat × Nat) : FnC Tryd.prog 150 [.lit (.pointer (some ⟨b, 0, none⟩)), .str s] [.box b 115 (Url.rowF (Url.Fz 3 z) (.sl 1 (Url.tlr.map AV.str)))] (fun r M => r = .str (Url.rm s) ∧ M = [.box b 115 (Url.rowF (Url.Fz 3 z) (.sl 1 (Url.tlr.map AV.str)))]) :=  by
  refine FnC.mk Tryd.func150 (by kernel_rfl) rfl Tryd.ntmps150 rfl (fun w0 F => ?_)
  have hrl0 := Url.rm_len s
  refine W.seq ?_
  refine W.region ?_
  refine W.q (Ev.assign .k) rfl ?_
  refine W.nil ?_
  refine W.then ?_
  refine W.seq ?_
  refine W.region ?_
  refine W.q (Ev.move (.t rfl)) rfl ?_
  refine W.q (Ev.lens (.t rfl) Tryd.underlying9) rfl ?_
  refine W.q (Ev.assign (.t rfl)) rfl ?_
  refine W.nil ?_
  refine W.then ?_
  refine W.seq ?_
  refine W.region ?_
  refine W.q (Ev.assign .k) rfl ?_
  refine W.nil ?_
  refine W.then ?_
  refine W.seq ?_
  refine W.seq ?_
  refine W.region ?_
  refine W.q (Ev.move (.t rfl)) rfl ?_
  refine W.q (Ev.nilc (.t rfl)) rfl ?_
  first | refine W.q (Ev.fae (.t rfl) fa115_1 rfl) rfl ?_ | refine W.q (Ev.fab (.t rfl) fa115_1) rfl ?_ | refine W.q (Ev.faa (.t rfl) fa115_1) rfl ?_
  refine W.q (Ev.ldb1 0 (c := .sl 1 (Url.tlr.map AV.str)) (.t rfl) rfl ag27 (Url.rowF_last _ _)) rfl ?_
  first | refine W.q (Ev.lensl (.t rfl) Tryd.underlying27) rfl ?_ | refine W.q (Ev.lenar (i := 0) (.t rfl) rfl Tryd.underlying27) rfl ?_ | refine W.q (Ev.lenar (i := 1) (.t rfl) rfl Tryd.underlying27) rfl ?_ | refine W.q (Ev.lenl (.t rfl) Tryd.underlying27) rfl ?_
  first | refine W.q (Ev.mul (.t rfl) .k (fun _ => by omega)) rfl ?_ | refine W.q (Ev.mulw (.t rfl) .k) rfl ?_
  refine W.q (Ev.move (.t rfl)) rfl ?_
  refine W.q (Ev.lens (.t rfl) Tryd.underlying9) rfl ?_
  refine W.q (Ev.lei (.t rfl) (.t rfl)) rfl ?_
  refine W.nil ?_
  refine W.then ?_
  refine W.cond (.t rfl) (fun hc_t26 => ?_) (fun hc_t26 => ?_)
  · refine W.seq ?_
    refine W.region ?_
    refine W.q (Ev.move (.t rfl)) rfl ?_
    refine W.q (Ev.nilc (.t rfl)) rfl ?_
    first | refine W.q (Ev.fae (.t rfl) fa115_1 rfl) rfl ?_ | refine W.q (Ev.fab (.t rfl) fa115_1) rfl ?_ | refine W.q (Ev.faa (.t rfl) fa115_1) rfl ?_
    refine W.q (Ev.ldb1 0 (c := .sl 1 (Url.tlr.map AV.str)) (.t rfl) rfl ag27 (Url.rowF_last _ _)) rfl ?_
    first | refine W.q (Ev.lensl (.t rfl) Tryd.underlying27) rfl ?_ | refine W.q (Ev.lenar (i := 0) (.t rfl) rfl Tryd.underlying27) rfl ?_ | refine W.q (Ev.lenar (i := 1) (.t rfl) rfl Tryd.underlying27) rfl ?_ | refine W.q (Ev.lenl (.t rfl) Tryd.underlying27) rfl ?_
    refine W.q (Ev.move .k) rfl ?_
    refine W.nil ?_
    refine W.then ?_
    refine W.block ?_
    refine W.loop (D := []) (ι := Nat) (fun k => [(32, true, .int (k : Int)), (31, true, .int ((Url.tlr.map AV.str).length : Int)), (30, true, .sl 1 (Url.tlr.map AV.str)), (5, true, .int (if k = 0 then (s.length : Int) else if k = 1 then ((s.length : Int) - (s.count 13 : Int)) else if k = 2 then ((s.length : Int) - (s.count 13 : Int) - (s.count 10 : Int)) else ((s.length : Int) - (s.count 13 : Int) - (s.count 10 : Int) - (s.count 9 : Int)))), (6, true, .bool (if k = 0 then false else if k = 1 then (decide (0 < s.count 13)) else if k = 2 then (decide (0 < s.count 13 + s.count 10)) else (decide (0 < s.count 13 + s.count 10 + s.count 9)))), (0, true, .lit (.pointer (some ⟨b, 0, none⟩))), (1, true, .str s)]) (fun _ => [.box b 115 (Url.rowF (Url.Fz 3 z) (.sl 1 (Url.tlr.map AV.str)))]) (fun k => k ≤ 3) (fun k => 3 - k) 0 ⟨rfl, rfl, rfl, rfl, rfl, rfl, rfl, trivial⟩ (.refl _) (by decide) ?_
    intro k hk
    dsimp only at hk ⊢
    rcases (show k = 0 ∨ k = 1 ∨ k = 2 ∨ k = 3 from by omega) with rfl | rfl | rfl | rfl
    · have hkc : (s.count 13 : Int) ≤ s.length := by have := List.count_le_length (a := (13 : UInt8)) (l := s); omega
      refine W.is (t := 5) (g := true) (av' := .int (s.length : Int)) rfl (rfl) ?_
      refine W.is (t := 6) (g := true) (av' := .bool false) rfl (rfl) ?_
      refine W.seq ?_
      refine W.region ?_
      refine W.q (Ev.lti (.t rfl) (.t rfl)) rfl ?_
      refine W.nil ?_
      refine W.then ?_
      refine W.seq ?_
      refine W.is (t := 33) (g := true) (av' := .lit (.bool true)) rfl (congrArg (fun b => AV.lit (.bool b)) (by decide)) ?_
      refine W.condT (.t rfl) ?_
      refine W.skip ?_
      refine W.then ?_
      refine W.seq ?_
      refine W.block ?_
      refine W.seq ?_
      refine W.region ?_
      refine W.q (Ev.at (E := 9) (e := AV.str [13]) (.t rfl) (.t rfl) Tryd.underlying27 ty9 (fun _ => ⟨by decide, rfl⟩) rfl rfl) rfl ?_
      first | refine W.q (Ev.lde1 (.t rfl) ag9) rfl ?_ | refine W.q (Ev.ldb1 0 (.t rfl) rfl ag9 rfl) rfl ?_ | refine W.q (Ev.ldb1 1 (.t rfl) rfl ag9 rfl) rfl ?_
      refine W.q (Ev.assign (.t rfl)) rfl ?_
      refine W.nil ?_
      refine W.then ?_
      refine W.seq ?_
      refine W.region ?_
      refine W.q (Ev.move (.t rfl)) rfl ?_
      refine W.q (Ev.move (.t rfl)) rfl ?_
      refine W.callp (WRepl.c_Count s 13) ⟨(.t rfl), (.t rfl), trivial⟩ rfl ?_
      refine W.q (Ev.assign (.t rfl)) rfl ?_
      refine W.nil ?_
      refine W.then ?_
      refine W.seq ?_
      refine W.region ?_
      refine W.q (Ev.move (.t rfl)) rfl ?_
      refine W.q (Ev.nei (.t rfl) .k) rfl ?_
      refine W.nil ?_
      refine W.then ?_
      refine W.cond (.t rfl) (fun hc_t40 => ?_) (fun hc_t40 => ?_)
      · have hc0 : s.count 13 ≠ 0 := by intro h; rw [h] at hc_t40; simp at hc_t40
        refine W.seq ?_
        refine W.drawn (by kernel_rfl) (by kernel_rfl) ?_
        refine DP.q (Ev.move (.t rfl)) rfl ?_
        refine DP.q (Ev.move (.t rfl)) rfl ?_
        refine DP.q (Ev.move (.t rfl)) rfl ?_
        refine DP.q (Ev.move (.t rfl)) rfl ?_
        refine DP.q (av := AV.u8 13) (Ev.ats' (l := [13]) (.t rfl) .k Tryd.underlying9 (fun hg => by decide)) rfl ?_
        refine DP.q (Ev.nilc (.t rfl)) rfl ?_
        first | refine DP.q (Ev.fae (.t rfl) fa115_0 rfl) rfl ?_ | refine DP.q (Ev.fab (.t rfl) fa115_0) rfl ?_ | refine DP.q (Ev.faa (.t rfl) fa115_0) rfl ?_
        refine DP.q (Ev.boxat (.t rfl) (.t rfl) Tryd.underlying113 ty46 (fun _ => by decide)) rfl ?_
        refine DP.q (Ev.ldb1 0 (c := Url.slA (z 13)) (.t rfl) rfl ag46 (Url.rowF_get _ _ 13 (by decide))) rfl ?_
        first | refine DP.q (Ev.lensl (.t rfl) Tryd.underlying46) rfl ?_ | refine DP.q (Ev.lenar (i := 0) (.t rfl) rfl Tryd.underlying46) rfl ?_ | refine DP.q (Ev.lenar (i := 1) (.t rfl) rfl Tryd.underlying46) rfl ?_ | refine DP.q (Ev.lenl (.t rfl) Tryd.underlying46) rfl ?_
        first | refine DP.q (Ev.sub (.t rfl) .k (fun _ => by omega)) rfl ?_ | refine DP.q (Ev.subw (.t rfl) .k) rfl ?_
        first | refine DP.q (Ev.mul (.t rfl) (.t rfl) (fun _ => by omega)) rfl ?_ | refine DP.q (Ev.mulw (.t rfl) (.t rfl)) rfl ?_
        first | refine DP.q (Ev.add (.t rfl) (.t rfl) (fun _ => by omega)) rfl ?_ | refine DP.q (Ev.addw (.t rfl) (.t rfl)) rfl ?_
        refine DP.q (Ev.assign (.t rfl)) rfl ?_
        refine DP.nil ?_
        refine W.then ?_
        refine W.region ?_
        refine W.q (Ev.assign .k) rfl ?_
        refine W.nil ?_
        refine W.blk_normal ?_
        refine W.then ?_
        refine W.region ?_
        first | refine W.q (Ev.add (.t rfl) .k (fun _ => by omega)) rfl ?_ | refine W.q (Ev.addw (.t rfl) .k) rfl ?_
        refine W.q (Ev.move (.t rfl)) rfl ?_
        refine W.nil ?_
        refine W.then ?_
        refine W.is (t := 5) (g := true) (av' := .int ((s.length : Int) - (s.count 13 : Int))) rfl (congrArg AV.int (by show (s.length : Int) + _ = _; omega)) ?_
        refine W.is (t := 6) (g := true) (av' := .bool (decide (0 < s.count 13))) rfl (congrArg AV.bool (decide_eq_true (by omega)).symm) ?_
        refine W.reach (D := []) 1 ⟨rfl, rfl, rfl, rfl, rfl, rfl, rfl, trivial⟩ (.refl _) ⟨by decide, by decide⟩
      · have hc0 : s.count 13 = 0 := by simpa using hc_t40
        refine W.skip ?_
        refine W.blk_normal ?_
        refine W.then ?_
        refine W.region ?_
        first | refine W.q (Ev.add (.t rfl) .k (fun _ => by omega)) rfl ?_ | refine W.q (Ev.addw (.t rfl) .k) rfl ?_
        refine W.q (Ev.move (.t rfl)) rfl ?_
        refine W.nil ?_
        refine W.then ?_
        refine W.is (t := 5) (g := true) (av' := .int ((s.length : Int) - (s.count 13 : Int))) rfl (congrArg AV.int (by show (s.length : Int) = _; omega)) ?_
        refine W.is (t := 6) (g := true) (av' := .bool (decide (0 < s.count 13))) rfl (congrArg AV.bool (by show false = _; rw [hc0]; first | rfl | simp)) ?_
        refine W.reach (D := []) 1 ⟨rfl, rfl, rfl, rfl, rfl, rfl, rfl, trivial⟩ (.refl _) ⟨by decide, by decide⟩
    · have hkc : (s.count 10 : Int) ≤ s.length := by have := List.count_le_length (a := (10 : UInt8)) (l := s); omega
      refine W.is (t := 5) (g := true) (av' := .int ((s.length : Int) - (s.count 13 : Int))) rfl (rfl) ?_
      refine W.is (t := 6) (g := true) (av' := .bool (decide (0 < s.count 13))) rfl (rfl) ?_
      refine W.seq ?_
      refine W.region ?_
      refine W.q (Ev.lti (.t rfl) (.t rfl)) rfl ?_
      refine W.nil ?_
      refine W.then ?_
      refine W.seq ?_
      refine W.is (t := 33) (g := true) (av' := .lit (.bool true)) rfl (congrArg (fun b => AV.lit (.bool b)) (by decide)) ?_
      refine W.condT (.t rfl) ?_
      refine W.skip ?_
      refine W.then ?_
      refine W.seq ?_
      refine W.block ?_
      refine W.seq ?_
      refine W.region ?_
      refine W.q (Ev.at (E := 9) (e := AV.str [10]) (.t rfl) (.t rfl) Tryd.underlying27 ty9 (fun _ => ⟨by decide, rfl⟩) rfl rfl) rfl ?_
      first | refine W.q (Ev.lde1 (.t rfl) ag9) rfl ?_ | refine W.q (Ev.ldb1 0 (.t rfl) rfl ag9 rfl) rfl ?_ | refine W.q (Ev.ldb1 1 (.t rfl) rfl ag9 rfl) rfl ?_
      refine W.q (Ev.assign (.t rfl)) rfl ?_
      refine W.nil ?_
      refine W.then ?_
      refine W.seq ?_
      refine W.region ?_
      refine W.q (Ev.move (.t rfl)) rfl ?_
      refine W.q (Ev.move (.t rfl)) rfl ?_
      refine W.callp (WRepl.c_Count s 10) ⟨(.t rfl), (.t rfl), trivial⟩ rfl ?_
      refine W.q (Ev.assign (.t rfl)) rfl ?_
      refine W.nil ?_
      refine W.then ?_
      refine W.seq ?_
      refine W.region ?_
      refine W.q (Ev.move (.t rfl)) rfl ?_
      refine W.q (Ev.nei (.t rfl) .k) rfl ?_
      refine W.nil ?_
      refine W.then ?_
      refine W.cond (.t rfl) (fun hc_t40 => ?_) (fun hc_t40 => ?_)
      · have hc0 : s.count 10 ≠ 0 := by intro h; rw [h] at hc_t40; simp at hc_t40
        refine W.seq ?_
        refine W.drawn (by kernel_rfl) (by kernel_rfl) ?_
        refine DP.q (Ev.move (.t rfl)) rfl ?_
        refine DP.q (Ev.move (.t rfl)) rfl ?_
        refine DP.q (Ev.move (.t rfl)) rfl ?_
        refine DP.q (Ev.move (.t rfl)) rfl ?_
        refine DP.q (av := AV.u8 10) (Ev.ats' (l := [10]) (.t rfl) .k Tryd.underlying9 (fun hg => by decide)) rfl ?_
        refine DP.q (Ev.nilc (.t rfl)) rfl ?_
        first | refine DP.q (Ev.fae (.t rfl) fa115_0 rfl) rfl ?_ | refine DP.q (Ev.fab (.t rfl) fa115_0) rfl ?_ | refine DP.q (Ev.faa (.t rfl) fa115_0) rfl ?_
        refine DP.q (Ev.boxat (.t rfl) (.t rfl) Tryd.underlying113 ty46 (fun _ => by decide)) rfl ?_
        refine DP.q (Ev.ldb1 0 (c := Url.slA (z 10)) (.t rfl) rfl ag46 (Url.rowF_get _ _ 10 (by decide))) rfl ?_
        first | refine DP.q (Ev.lensl (.t rfl) Tryd.underlying46) rfl ?_ | refine DP.q (Ev.lenar (i := 0) (.t rfl) rfl Tryd.underlying46) rfl ?_ | refine DP.q (Ev.lenar (i := 1) (.t rfl) rfl Tryd.underlying46) rfl ?_ | refine DP.q (Ev.lenl (.t rfl) Tryd.underlying46) rfl ?_
        first | refine DP.q (Ev.sub (.t rfl) .k (fun _ => by omega)) rfl ?_ | refine DP.q (Ev.subw (.t rfl) .k) rfl ?_
        first | refine DP.q (Ev.mul (.t rfl) (.t rfl) (fun _ => by omega)) rfl ?_ | refine DP.q (Ev.mulw (.t rfl) (.t rfl)) rfl ?_
        first | refine DP.q (Ev.add (.t rfl) (.t rfl) (fun _ => by omega)) rfl ?_ | refine DP.q (Ev.addw (.t rfl) (.t rfl)) rfl ?_
        refine DP.q (Ev.assign (.t rfl)) rfl ?_
        refine DP.nil ?_
        refine W.then ?_
        refine W.region ?_
        refine W.q (Ev.assign .k) rfl ?_
        refine W.nil ?_
        refine W.blk_normal ?_
        refine W.then ?_
        refine W.region ?_
        first | refine W.q (Ev.add (.t rfl) .k (fun _ => by omega)) rfl ?_ | refine W.q (Ev.addw (.t rfl) .k) rfl ?_
        refine W.q (Ev.move (.t rfl)) rfl ?_
        refine W.nil ?_
        refine W.then ?_
        refine W.is (t := 5) (g := true) (av' := .int ((s.length : Int) - (s.count 13 : Int) - (s.count 10 : Int))) rfl (congrArg AV.int (by show ((s.length : Int) - (s.count 13 : Int)) + _ = _; omega)) ?_
        refine W.is (t := 6) (g := true) (av' := .bool (decide (0 < s.count 13 + s.count 10))) rfl (congrArg AV.bool (decide_eq_true (by omega)).symm) ?_
        refine W.reach (D := []) 2 ⟨rfl, rfl, rfl, rfl, rfl, rfl, rfl, trivial⟩ (.refl _) ⟨by decide, by decide⟩
      · have hc0 : s.count 10 = 0 := by simpa using hc_t40
        refine W.skip ?_
        refine W.blk_normal ?_
        refine W.then ?_
        refine W.region ?_
        first | refine W.q (Ev.add (.t rfl) .k (fun _ => by omega)) rfl ?_ | refine W.q (Ev.addw (.t rfl) .k) rfl ?_
        refine W.q (Ev.move (.t rfl)) rfl ?_
        refine W.nil ?_
        refine W.then ?_
        refine W.is (t := 5) (g := true) (av' := .int ((s.length : Int) - (s.count 13 : Int) - (s.count 10 : Int))) rfl (congrArg AV.int (by show ((s.length : Int) - (s.count 13 : Int)) = _; omega)) ?_
        refine W.is (t := 6) (g := true) (av' := .bool (decide (0 < s.count 13 + s.count 10))) rfl (congrArg AV.bool (by show (decide (0 < s.count 13)) = _; rw [hc0]; first | rfl | simp)) ?_
        refine W.reach (D := []) 2 ⟨rfl, rfl, rfl, rfl, rfl, rfl, rfl, trivial⟩ (.refl _) ⟨by decide, by decide⟩
    · have hkc : (s.count 9 : Int) ≤ s.length := by have := List.count_le_length (a := (9 : UInt8)) (l := s); omega
      refine W.is (t := 5) (g := true) (av' := .int ((s.length : Int) - (s.count 13 : Int) - (s.count 10 : Int))) rfl (rfl) ?_
      refine W.is (t := 6) (g := true) (av' := .bool (decide (0 < s.count 13 + s.count 10))) rfl (rfl) ?_
      refine W.seq ?_
      refine W.region ?_
      refine W.q (Ev.lti (.t rfl) (.t rfl)) rfl ?_
      refine W.nil ?_
      refine W.then ?_
      refine W.seq ?_
      refine W.is (t := 33) (g := true) (av' := .lit (.bool true)) rfl (congrArg (fun b => AV.lit (.bool b)) (by decide)) ?_
      refine W.condT (.t rfl) ?_
      refine W.skip ?_
      refine W.then ?_
      refine W.seq ?_
      refine W.block ?_
      refine W.seq ?_
      refine W.region ?_
      refine W.q (Ev.at (E := 9) (e := AV.str [9]) (.t rfl) (.t rfl) Tryd.underlying27 ty9 (fun _ => ⟨by decide, rfl⟩) rfl rfl) rfl ?_
      first | refine W.q (Ev.lde1 (.t rfl) ag9) rfl ?_ | refine W.q (Ev.ldb1 0 (.t rfl) rfl ag9 rfl) rfl ?_ | refine W.q (Ev.ldb1 1 (.t rfl) rfl ag9 rfl) rfl ?_
      refine W.q (Ev.assign (.t rfl)) rfl ?_
      refine W.nil ?_
      refine W.then ?_
      refine W.seq ?_
      refine W.region ?_
      refine W.q (Ev.move (.t rfl)) rfl ?_
      refine W.q (Ev.move (.t rfl)) rfl ?_
      refine W.callp (WRepl.c_Count s 9) ⟨(.t rfl), (.t rfl), trivial⟩ rfl ?_
      refine W.q (Ev.assign (.t rfl)) rfl ?_
      refine W.nil ?_
      refine W.then ?_
      refine W.seq ?_
      refine W.region ?_
      refine W.q (Ev.move (.t rfl)) rfl ?_
      refine W.q (Ev.nei (.t rfl) .k) rfl ?_
      refine W.nil ?_
      refine W.then ?_
      refine W.cond (.t rfl) (fun hc_t40 => ?_) (fun hc_t40 => ?_)
      · have hc0 : s.count 9 ≠ 0 := by intro h; rw [h] at hc_t40; simp at hc_t40
        refine W.seq ?_
        refine W.drawn (by kernel_rfl) (by kernel_rfl) ?_
        refine DP.q (Ev.move (.t rfl)) rfl ?_
        refine DP.q (Ev.move (.t rfl)) rfl ?_
        refine DP.q (Ev.move (.t rfl)) rfl ?_
        refine DP.q (Ev.move (.t rfl)) rfl ?_
        refine DP.q (av := AV.u8 9) (Ev.ats' (l := [9]) (.t rfl) .k Tryd.underlying9 (fun hg => by decide)) rfl ?_
        refine DP.q (Ev.nilc (.t rfl)) rfl ?_
        first | refine DP.q (Ev.fae (.t rfl) fa115_0 rfl) rfl ?_ | refine DP.q (Ev.fab (.t rfl) fa115_0) rfl ?_ | refine DP.q (Ev.faa (.t rfl) fa115_0) rfl ?_
        refine DP.q (Ev.boxat (.t rfl) (.t rfl) Tryd.underlying113 ty46 (fun _ => by decide)) rfl ?_
        refine DP.q (Ev.ldb1 0 (c := Url.slA (z 9)) (.t rfl) rfl ag46 (Url.rowF_get _ _ 9 (by decide))) rfl ?_
        first | refine DP.q (Ev.lensl (.t rfl) Tryd.underlying46) rfl ?_ | refine DP.q (Ev.lenar (i := 0) (.t rfl) rfl Tryd.underlying46) rfl ?_ | refine DP.q (Ev.lenar (i := 1) (.t rfl) rfl Tryd.underlying46) rfl ?_ | refine DP.q (Ev.lenl (.t rfl) Tryd.underlying46) rfl ?_
        first | refine DP.q (Ev.sub (.t rfl) .k (fun _ => by omega)) rfl ?_ | refine DP.q (Ev.subw (.t rfl) .k) rfl ?_
        first | refine DP.q (Ev.mul (.t rfl) (.t rfl) (fun _ => by omega)) rfl ?_ | refine DP.q (Ev.mulw (.t rfl) (.t rfl)) rfl ?_
        first | refine DP.q (Ev.add (.t rfl) (.t rfl) (fun _ => by omega)) rfl ?_ | refine DP.q (Ev.addw (.t rfl) (.t rfl)) rfl ?_
        refine DP.q (Ev.assign (.t rfl)) rfl ?_
        refine DP.nil ?_
        refine W.then ?_
        refine W.region ?_
        refine W.q (Ev.assign .k) rfl ?_
        refine W.nil ?_
        refine W.blk_normal ?_
        refine W.then ?_
        refine W.region ?_
        first | refine W.q (Ev.add (.t rfl) .k (fun _ => by omega)) rfl ?_ | refine W.q (Ev.addw (.t rfl) .k) rfl ?_
        refine W.q (Ev.move (.t rfl)) rfl ?_
        refine W.nil ?_
        refine W.then ?_
        refine W.is (t := 5) (g := true) (av' := .int ((s.length : Int) - (s.count 13 : Int) - (s.count 10 : Int) - (s.count 9 : Int))) rfl (congrArg AV.int (by show ((s.length : Int) - (s.count 13 : Int) - (s.count 10 : Int)) + _ = _; omega)) ?_
        refine W.is (t := 6) (g := true) (av' := .bool (decide (0 < s.count 13 + s.count 10 + s.count 9))) rfl (congrArg AV.bool (decide_eq_true (by omega)).symm) ?_
        refine W.reach (D := []) 3 ⟨rfl, rfl, rfl, rfl, rfl, rfl, rfl, trivial⟩ (.refl _) ⟨by decide, by decide⟩
      · have hc0 : s.count 9 = 0 := by simpa using hc_t40
        refine W.skip ?_
        refine W.blk_normal ?_
        refine W.then ?_
        refine W.region ?_
        first | refine W.q (Ev.add (.t rfl) .k (fun _ => by omega)) rfl ?_ | refine W.q (Ev.addw (.t rfl) .k) rfl ?_
        refine W.q (Ev.move (.t rfl)) rfl ?_
        refine W.nil ?_
        refine W.then ?_
        refine W.is (t := 5) (g := true) (av' := .int ((s.length : Int) - (s.count 13 : Int) - (s.count 10 : Int) - (s.count 9 : Int))) rfl (congrArg AV.int (by show ((s.length : Int) - (s.count 13 : Int) - (s.count 10 : Int)) = _; omega)) ?_
        refine W.is (t := 6) (g := true) (av' := .bool (decide (0 < s.count 13 + s.count 10 + s.count 9))) rfl (congrArg AV.bool (by show (decide (0 < s.count 13 + s.count 10)) = _; rw [hc0]; first | rfl | simp)) ?_
        refine W.reach (D := []) 3 ⟨rfl, rfl, rfl, rfl, rfl, rfl, rfl, trivial⟩ (.refl _) ⟨by decide, by decide⟩
    · have hrl := Url.rm_len s
      refine W.is (t := 5) (g := true) (av' := .int ((s.length : Int) - (s.count 13 : Int) - (s.count 10 : Int) - (s.count 9 : Int))) rfl (rfl) ?_
      refine W.is (t := 6) (g := true) (av' := .bool (decide (0 < s.count 13 + s.count 10 + s.count 9))) rfl (rfl) ?_
      refine W.is (t := 5) (g := true) (av' := .int ((Url.rm s).length : Int)) rfl (congrArg AV.int (by show ((s.length : Int) - (s.count 13 : Int) - (s.count 10 : Int) - (s.count 9 : Int)) = _; omega)) ?_
      refine W.is (t := 6) (g := true) (av' := .bool (decide ((Url.rm s).length < s.length))) rfl (congrArg AV.bool (by show (decide (0 < s.count 13 + s.count 10 + s.count 9)) = _; rw [decide_eq_decide]; omega)) ?_
      refine W.seq ?_
      refine W.region ?_
      refine W.q (Ev.lti (.t rfl) (.t rfl)) rfl ?_
      refine W.nil ?_
      refine W.then ?_
      refine W.seq ?_
      refine W.is (t := 33) (g := true) (av' := .lit (.bool false)) rfl (congrArg (fun b => AV.lit (.bool b)) (by decide)) ?_
      refine W.condF (.t rfl) ?_
      refine W.exit ?_
      refine W.then_exit ?_
      refine W.then_exit ?_
      refine W.blk_hit ?_
      refine W.then ?_
      refine W.seq ?_
      refine W.seq ?_
      refine W.region ?_
      refine W.q (Ev.move (.t rfl)) rfl ?_
      refine W.q (Ev.not (.t rfl)) rfl ?_
      refine W.nil ?_
      refine W.then ?_
      refine W.cond (.t rfl) (fun hc_t82 => ?_) (fun hc_t82 => ?_)
      · have hsm : Url.rm s = s := Url.rm_same (by have h1 := Url.rm_len s; have h2 := of_decide_eq_false (show decide ((Url.rm s).length < s.length) = false from by simpa using hc_t82); omega)
        refine W.seq ?_
        refine W.region ?_
        refine W.q (Ev.move (.t rfl)) rfl ?_
        refine W.q (Ev.assign (.t rfl)) rfl ?_
        refine W.nil ?_
        refine W.then ?_
        refine W.ret ?_
        refine W.then_ret ?_
        refine W.retn (M' := [.box b 115 (Url.rowF (Url.Fz 3 z) (.sl 1 (Url.tlr.map AV.str)))]) (D := _) (rs := [.tmp 4]) (avs := [_]) Tryd.results150 ⟨rfl, trivial⟩ rfl (by first | exact .refl _ | exact List.perm_append_comm (l₁ := [_])) ?_
        first | exact ⟨rfl, rfl⟩ | exact ⟨congrArg AV.str hsm.symm, rfl⟩
      · refine W.skip ?_
        refine W.then ?_
        refine W.seq ?_
        refine W.region ?_
        refine W.q (Ev.move (.t rfl)) rfl ?_
        refine W.mk (n := (Url.rm s).length) (.t rfl) (.t rfl) Tryd.underlying46 ty5 rfl rfl rfl rfl rfl (by have := Url.rm_len s; omega) rfl ?_
        intro v12
        refine W.arr_len 0 rfl (fun a12 c12 h12 hc12 => ?_)
        rw [List.length_replicate] at h12 hc12
        subst h12
        refine W.q (Ev.assign (.t rfl)) rfl ?_
        refine W.nil ?_
        refine W.then ?_
        refine W.seq ?_
        refine W.region ?_
        refine W.q (Ev.assign .k) rfl ?_
        refine W.nil ?_
        refine W.then ?_
        refine W.seq ?_
        refine W.seq ?_
        refine W.region ?_
        refine W.q (Ev.assign .k) rfl ?_
        refine W.nil ?_
        refine W.then ?_
        refine W.block ?_
        refine W.perm (M' := [.arr (.slice a12 (Url.rm s).length c12) 5 1 (Url.bufV s 0), .box b 115 (Url.rowF (Url.Fz 3 z) (.sl 1 (Url.tlr.map AV.str)))]) (List.Perm.of_eq (by rw [Url.bufV_zero]; rfl)) ?_
        refine W.loop (D := []) (ι := Nat) (fun i => [(14, true, .int (i : Int)), (13, true, .int ((Url.rm (s.take i)).length : Int)), (12, true, .lit (.slice a12 (Url.rm s).length c12)), (0, true, .lit (.pointer (some ⟨b, 0, none⟩))), (1, true, .str s)]) (fun i => [.arr (.slice a12 (Url.rm s).length c12) 5 1 (Url.bufV s i), .box b 115 (Url.rowF (Url.Fz 3 z) (.sl 1 (Url.tlr.map AV.str)))]) (fun i => i ≤ s.length) (fun i => s.length - i) 0 ⟨rfl, rfl, rfl, rfl, rfl, trivial⟩ (.refl _) (Nat.zero_le _) ?_
        intro i hi
        dsimp only at hi ⊢
        rcases (show (i < s.length ∧ (Url.gone (s.getD i 0) = true ∧ Url.rm (s.take (i + 1)) = Url.rm (s.take i))) ∨ (i < s.length ∧ (Url.gone (s.getD i 0) = false ∧ Url.rm (s.take (i + 1)) = Url.rm (s.take i) ++ [s.getD i 0])) ∨ i = s.length from by rcases Nat.lt_or_ge i s.length with h | h; rcases Url.rm_step s i h with h2 | h2; exact .inl ⟨h, h2⟩; exact .inr (.inl ⟨h, h2⟩); exact .inr (.inr (by omega))) with ⟨hlt, hg, hrt⟩ | ⟨hlt, hg, hrt⟩ | hend
        · obtain ⟨c, hc⟩ : ∃ c, s.getD i 0 = c := ⟨_, rfl⟩
          rw [hc] at hg
          (try rw [hc] at hrt)
          have hc8 := c.toNat_lt
          have hl1 := Url.rm_take_len s i
          have hle := Url.rm_take_le s (i + 1)
          have hlen1 := congrArg List.length hrt
          have hle0 := Url.rm_take_le s i
          refine W.seq ?_
          refine W.seq ?_
          refine W.region ?_
          refine W.q (Ev.move (.t rfl)) rfl ?_
          refine W.q (Ev.move (.t rfl)) rfl ?_
          refine W.q (Ev.lens (.t rfl) Tryd.underlying9) rfl ?_
          refine W.q (Ev.lti (.t rfl) (.t rfl)) rfl ?_
          refine W.nil ?_
          refine W.then ?_
          refine W.is (t := 89) (g := true) (av' := .lit (.bool true)) rfl (congrArg (fun b => AV.lit (.bool b)) (by exact decide_eq_true (by omega))) ?_
          refine W.condT (.t rfl) ?_
          refine W.skip ?_
          refine W.then ?_
          refine W.seq ?_
          refine W.block ?_
          refine W.seq ?_
          refine W.region ?_
          refine W.q (Ev.move (.t rfl)) rfl ?_
          refine W.q (Ev.move (.t rfl)) rfl ?_
          refine W.q (Ev.ats' (.t rfl) (.t rfl) Tryd.underlying9 (fun hg => by omega)) rfl ?_
          refine W.is (t := 94) (g := true) (av' := AV.u8 c) rfl (by rw [show ((i : Int)).toNat = i from rfl, hc]) ?_
          refine W.q (Ev.assign (.t rfl)) rfl ?_
          refine W.nil ?_
          refine W.then ?_
          refine W.seq ?_
          refine W.region ?_
          refine W.q (Ev.move (.t rfl)) rfl ?_
          refine W.q (Ev.move (.t rfl)) rfl ?_
          refine W.q (Ev.nilc (.t rfl)) rfl ?_
          first | refine W.q (Ev.fae (.t rfl) fa115_0 rfl) rfl ?_ | refine W.q (Ev.fab (.t rfl) fa115_0) rfl ?_ | refine W.q (Ev.faa (.t rfl) fa115_0) rfl ?_
          refine W.q (Ev.boxat (.t rfl) (.t rfl) Tryd.underlying113 ty46 (fun _ => ⟨by omega, by omega⟩)) rfl ?_
          refine W.q (Ev.ldb1 1 (c := Url.slA (z c.toNat)) (.t rfl) rfl ag46 (by show (Url.rowF (Url.Fz 3 z) _)[c.toNat]? = _; rw [Url.rowF_get _ _ _ (by omega), Url.Fz_gone, hg]; rfl)) rfl ?_
          refine W.q (Ev.nenl (ad := some ⟨(z c.toNat).1, 0, none⟩) (n := 0) (c := (z c.toNat).2) (.t rfl) Tryd.underlying46) rfl ?_
          refine W.nil ?_
          refine W.then ?_
          refine W.is (t := 101) (g := true) (av' := .lit (.bool true)) rfl (congrArg (fun b => AV.lit (.bool b)) (by rfl)) ?_
          refine W.condT (.t rfl) ?_
          refine W.drawn (by kernel_rfl) (by kernel_rfl) ?_
          refine DP.q (Ev.move (.t rfl)) rfl ?_
          refine DP.q (Ev.move (.t rfl)) rfl ?_
          refine DP.q (Ev.move (.t rfl)) rfl ?_
          refine DP.q (Ev.slit (v := _) (lo := some (.tmp 104)) (hi := none) (.t rfl) Tryd.underlying46 ty5 (.t rfl) rfl (fun _ => by omega) (by exact rfl)) rfl ?_
          refine DP.q (Ev.move (.t rfl)) rfl ?_
          refine DP.q (Ev.move (.t rfl)) rfl ?_
          refine DP.q (Ev.nilc (.t rfl)) rfl ?_
          first | refine DP.q (Ev.fae (.t rfl) fa115_0 rfl) rfl ?_ | refine DP.q (Ev.fab (.t rfl) fa115_0) rfl ?_ | refine DP.q (Ev.faa (.t rfl) fa115_0) rfl ?_
          refine DP.q (Ev.boxat (.t rfl) (.t rfl) Tryd.underlying113 ty46 (fun _ => ⟨by omega, by omega⟩)) rfl ?_
          refine DP.q (Ev.ldb1 1 (c := Url.slA (z c.toNat)) (.t rfl) rfl ag46 (by show (Url.rowF (Url.Fz 3 z) _)[c.toNat]? = _; rw [Url.rowF_get _ _ _ (by omega), Url.Fz_gone, hg]; rfl)) rfl ?_
          refine DP.q (Ev.copy0 (ad := some ⟨(z c.toNat).1, 0, none⟩) (c := (z c.toNat).2) (.t rfl) (.t rfl) Tryd.underlying46 ty5) rfl ?_
          first | refine DP.q (Ev.add (.t rfl) (.t rfl) (fun _ => by omega)) rfl ?_ | refine DP.q (Ev.addw (.t rfl) (.t rfl)) rfl ?_
          refine DP.q (Ev.assign (.t rfl)) rfl ?_
          refine DP.nil ?_
          refine W.blk_normal ?_
          refine W.then ?_
          refine W.region ?_
          refine W.q (Ev.move (.t rfl)) rfl ?_
          first | refine W.q (Ev.add (.t rfl) .k (fun _ => by omega)) rfl ?_ | refine W.q (Ev.addw (.t rfl) .k) rfl ?_
          refine W.q (Ev.assign (.t rfl)) rfl ?_
          refine W.nil ?_
          refine W.then ?_
          refine W.is (t := 13) (g := true) (av' := .int ((Url.rm (s.take (i + 1))).length : Int)) rfl (congrArg AV.int (by omega)) ?_
          refine W.reach (D := []) (i + 1) ⟨rfl, rfl, rfl, rfl, rfl, trivial⟩ (by rw [Url.bufV_same s i hrt]; exact .refl _) ⟨by show i + 1 ≤ _; omega, by show _ - (i + 1) < _; omega⟩
        · obtain ⟨c, hc⟩ : ∃ c, s.getD i 0 = c := ⟨_, rfl⟩
          rw [hc] at hg
          (try rw [hc] at hrt)
          have hc8 := c.toNat_lt
          have hl1 := Url.rm_take_len s i
          have hle := Url.rm_take_le s (i + 1)
          have hlen1 := congrArg List.length hrt
          rw [List.length_append, List.length_singleton] at hlen1
          have hbl := Url.bufV_len s i
          refine W.seq ?_
          refine W.seq ?_
          refine W.region ?_
          refine W.q (Ev.move (.t rfl)) rfl ?_
          refine W.q (Ev.move (.t rfl)) rfl ?_
          refine W.q (Ev.lens (.t rfl) Tryd.underlying9) rfl ?_
          refine W.q (Ev.lti (.t rfl) (.t rfl)) rfl ?_
          refine W.nil ?_
          refine W.then ?_
          refine W.is (t := 89) (g := true) (av' := .lit (.bool true)) rfl (congrArg (fun b => AV.lit (.bool b)) (by exact decide_eq_true (by omega))) ?_
          refine W.condT (.t rfl) ?_
          refine W.skip ?_
          refine W.then ?_
          refine W.seq ?_
          refine W.block ?_
          refine W.seq ?_
          refine W.region ?_
          refine W.q (Ev.move (.t rfl)) rfl ?_
          refine W.q (Ev.move (.t rfl)) rfl ?_
          refine W.q (Ev.ats' (.t rfl) (.t rfl) Tryd.underlying9 (fun hg => by omega)) rfl ?_
          refine W.is (t := 94) (g := true) (av' := AV.u8 c) rfl (by rw [show ((i : Int)).toNat = i from rfl, hc]) ?_
          refine W.q (Ev.assign (.t rfl)) rfl ?_
          refine W.nil ?_
          refine W.then ?_
          refine W.seq ?_
          refine W.region ?_
          refine W.q (Ev.move (.t rfl)) rfl ?_
          refine W.q (Ev.move (.t rfl)) rfl ?_
          refine W.q (Ev.nilc (.t rfl)) rfl ?_
          first | refine W.q (Ev.fae (.t rfl) fa115_0 rfl) rfl ?_ | refine W.q (Ev.fab (.t rfl) fa115_0) rfl ?_ | refine W.q (Ev.faa (.t rfl) fa115_0) rfl ?_
          refine W.q (Ev.boxat (.t rfl) (.t rfl) Tryd.underlying113 ty46 (fun _ => ⟨by omega, by omega⟩)) rfl ?_
          refine W.q (Ev.ldb1 1 (c := Url.nilA) (.t rfl) rfl ag46 (by show (Url.rowF (Url.Fz 3 z) _)[c.toNat]? = _; rw [Url.rowF_get _ _ _ (by omega), Url.Fz_gone, hg]; rfl)) rfl ?_
          refine W.q (Ev.nenl (ad := none) (n := 0) (c := 0) (.t rfl) Tryd.underlying46) rfl ?_
          refine W.nil ?_
          refine W.then ?_
          refine W.is (t := 101) (g := true) (av' := .lit (.bool false)) rfl (congrArg (fun b => AV.lit (.bool b)) (by rfl)) ?_
          refine W.condF (.t rfl) ?_
          refine W.seq ?_
          refine W.region ?_
          refine W.q (Ev.move (.t rfl)) rfl ?_
          refine W.q (Ev.move (.t rfl)) rfl ?_
          refine W.q (Ev.move (.t rfl)) rfl ?_
          refine W.q (Ev.ata 0 (.t rfl) rfl (.t rfl) Tryd.underlying46 ty5 (fun _ => by omega)) rfl ?_
          refine W.sta 0 (Url.rm (s.take i)).length 0 (e := AV.lit (.int .u8 0)) (e' := AV.u8 c) (.t rfl) (.t rfl) rfl (Url.bufV_at s i (by omega)) (by omega) ty5 rfl rfl rfl rfl rfl rfl rfl ?_
          refine W.nil ?_
          refine W.then ?_
          refine W.region ?_
          refine W.q (Ev.move (.t rfl)) rfl ?_
          first | refine W.q (Ev.add (.t rfl) .k (fun _ => by omega)) rfl ?_ | refine W.q (Ev.addw (.t rfl) .k) rfl ?_
          refine W.q (Ev.assign (.t rfl)) rfl ?_
          refine W.nil ?_
          refine W.blk_normal ?_
          refine W.then ?_
          refine W.region ?_
          refine W.q (Ev.move (.t rfl)) rfl ?_
          first | refine W.q (Ev.add (.t rfl) .k (fun _ => by omega)) rfl ?_ | refine W.q (Ev.addw (.t rfl) .k) rfl ?_
          refine W.q (Ev.assign (.t rfl)) rfl ?_
          refine W.nil ?_
          refine W.then ?_
          refine W.is (t := 13) (g := true) (av' := .int ((Url.rm (s.take (i + 1))).length : Int)) rfl (congrArg AV.int (by omega)) ?_
          refine W.reach (D := []) (i + 1) ⟨rfl, rfl, rfl, rfl, rfl, trivial⟩ (by rw [← Url.bufV_set s i c hrt]; exact .refl _) ⟨by show i + 1 ≤ _; omega, by show _ - (i + 1) < _; omega⟩
        · refine W.perm (M' := [.arr (.slice a12 (Url.rm s).length c12) 5 1 ((Url.rm s).map AV.u8), .box b 115 (Url.rowF (Url.Fz 3 z) (.sl 1 (Url.tlr.map AV.str)))]) (List.Perm.of_eq (by rw [hend, Url.bufV_end])) ?_
          refine W.seq ?_
          refine W.seq ?_
          refine W.region ?_
          refine W.q (Ev.move (.t rfl)) rfl ?_
          refine W.q (Ev.move (.t rfl)) rfl ?_
          refine W.q (Ev.lens (.t rfl) Tryd.underlying9) rfl ?_
          refine W.q (Ev.lti (.t rfl) (.t rfl)) rfl ?_
          refine W.nil ?_
          refine W.then ?_
          refine W.is (t := 89) (g := true) (av' := .lit (.bool false)) rfl (congrArg (fun b => AV.lit (.bool b)) (by exact decide_eq_false (by omega))) ?_
          refine W.condF (.t rfl) ?_
          refine W.exit ?_
          refine W.then_exit ?_
          refine W.then_exit ?_
          refine W.blk_hit ?_
          refine W.then ?_
          refine W.seq ?_
          refine W.region ?_
          refine W.q (Ev.move (.t rfl)) rfl ?_
          refine W.q (Ev.b2s 0 (l := Url.rm s) (.t rfl) rfl Tryd.underlying46 Tryd.underlying5 Tryd.underlying9) rfl ?_
          refine W.q (Ev.assign (.t rfl)) rfl ?_
          refine W.nil ?_
          refine W.then ?_
          refine W.ret ?_
          refine W.retn (M' := [.box b 115 (Url.rowF (Url.Fz 3 z) (.sl 1 (Url.tlr.map AV.str)))]) (D := _) (rs := [.tmp 4]) (avs := [_]) Tryd.results150 ⟨rfl, trivial⟩ rfl (by first | exact .refl _ | exact List.perm_append_comm (l₁ := [_])) ?_
          first | exact ⟨rfl, rfl⟩ | exact ⟨congrArg AV.str hsm.symm, rfl⟩
  · refine W.seq ?_
    refine W.region ?_
    refine W.q (Ev.assign .k) rfl ?_
    refine W.nil ?_
    refine W.then ?_
    refine W.block ?_
    refine W.is (t := 5) (g := true) (av' := .int ((s.length : Int) - (((0 : Nat) : Int) - ((Url.rm (s.take 0)).length : Int)))) rfl (congrArg AV.int (by simp [Url.rm])) ?_
    refine W.is (t := 6) (g := true) (av' := .bool (decide ((Url.rm (s.take 0)).length < 0))) rfl (congrArg AV.bool (by simp)) ?_
    refine W.loop (D := []) (ι := Nat) (fun i => [(10, true, .int (i : Int)), (5, true, .int ((s.length : Int) - ((i : Int) - ((Url.rm (s.take i)).length : Int)))), (6, true, .bool (decide ((Url.rm (s.take i)).length < i))), (0, true, .lit (.pointer (some ⟨b, 0, none⟩))), (1, true, .str s)]) (fun _ => [.box b 115 (Url.rowF (Url.Fz 3 z) (.sl 1 (Url.tlr.map AV.str)))]) (fun i => i ≤ s.length) (fun i => s.length - i) 0 ⟨rfl, rfl, rfl, rfl, rfl, trivial⟩ (.refl _) (Nat.zero_le _) ?_
    intro i hi
    dsimp only at hi ⊢
    rcases (show (i < s.length ∧ (Url.gone (s.getD i 0) = true ∧ Url.rm (s.take (i + 1)) = Url.rm (s.take i))) ∨ (i < s.length ∧ (Url.gone (s.getD i 0) = false ∧ Url.rm (s.take (i + 1)) = Url.rm (s.take i) ++ [s.getD i 0])) ∨ i = s.length from by rcases Nat.lt_or_ge i s.length with h | h; rcases Url.rm_step s i h with h2 | h2; exact .inl ⟨h, h2⟩; exact .inr (.inl ⟨h, h2⟩); exact .inr (.inr (by omega))) with ⟨hlt, hg, hrt⟩ | ⟨hlt, hg, hrt⟩ | hend
    · obtain ⟨c, hc⟩ : ∃ c, s.getD i 0 = c := ⟨_, rfl⟩
      rw [hc] at hg
      (try rw [hc] at hrt)
      have hc8 := c.toNat_lt
      have hl1 := Url.rm_take_len s i
      have hle := Url.rm_take_le s (i + 1)
      have hlen1 := congrArg List.length hrt
      refine W.seq ?_
      refine W.seq ?_
      refine W.region ?_
      refine W.q (Ev.move (.t rfl)) rfl ?_
      refine W.q (Ev.move (.t rfl)) rfl ?_
      refine W.q (Ev.lens (.t rfl) Tryd.underlying9) rfl ?_
      refine W.q (Ev.lti (.t rfl) (.t rfl)) rfl ?_
      refine W.nil ?_
      refine W.then ?_
      refine W.is (t := 58) (g := true) (av' := .lit (.bool true)) rfl (congrArg (fun b => AV.lit (.bool b)) (by exact decide_eq_true (by omega))) ?_
      refine W.condT (.t rfl) ?_
      refine W.skip ?_
      refine W.then ?_
      refine W.seq ?_
      refine W.block ?_
      refine W.seq ?_
      refine W.region ?_
      refine W.q (Ev.move (.t rfl)) rfl ?_
      refine W.q (Ev.move (.t rfl)) rfl ?_
      refine W.q (Ev.ats' (.t rfl) (.t rfl) Tryd.underlying9 (fun hg => by omega)) rfl ?_
      refine W.is (t := 63) (g := true) (av' := AV.u8 c) rfl (by rw [show ((i : Int)).toNat = i from rfl, hc]) ?_
      refine W.q (Ev.assign (.t rfl)) rfl ?_
      refine W.nil ?_
      refine W.then ?_
      refine W.seq ?_
      refine W.region ?_
      refine W.q (Ev.move (.t rfl)) rfl ?_
      refine W.q (Ev.move (.t rfl)) rfl ?_
      refine W.q (Ev.nilc (.t rfl)) rfl ?_
      first | refine W.q (Ev.fae (.t rfl) fa115_0 rfl) rfl ?_ | refine W.q (Ev.fab (.t rfl) fa115_0) rfl ?_ | refine W.q (Ev.faa (.t rfl) fa115_0) rfl ?_
      refine W.q (Ev.boxat (.t rfl) (.t rfl) Tryd.underlying113 ty46 (fun _ => ⟨by omega, by omega⟩)) rfl ?_
      refine W.q (Ev.ldb1 0 (c := Url.slA (z c.toNat)) (.t rfl) rfl ag46 (by show (Url.rowF (Url.Fz 3 z) _)[c.toNat]? = _; rw [Url.rowF_get _ _ _ (by omega), Url.Fz_gone, hg]; rfl)) rfl ?_
      refine W.q (Ev.nenl (ad := some ⟨(z c.toNat).1, 0, none⟩) (n := 0) (c := (z c.toNat).2) (.t rfl) Tryd.underlying46) rfl ?_
      refine W.nil ?_
      refine W.then ?_
      refine W.is (t := 70) (g := true) (av' := .lit (.bool true)) rfl (congrArg (fun b => AV.lit (.bool b)) (by rfl)) ?_
      refine W.condT (.t rfl) ?_
      refine W.seq ?_
      refine W.region ?_
      refine W.q (Ev.move (.t rfl)) rfl ?_
      refine W.q (Ev.move (.t rfl)) rfl ?_
      refine W.q (Ev.move (.t rfl)) rfl ?_
      refine W.q (Ev.nilc (.t rfl)) rfl ?_
      first | refine W.q (Ev.fae (.t rfl) fa115_0 rfl) rfl ?_ | refine W.q (Ev.fab (.t rfl) fa115_0) rfl ?_ | refine W.q (Ev.faa (.t rfl) fa115_0) rfl ?_
      refine W.q (Ev.boxat (.t rfl) (.t rfl) Tryd.underlying113 ty46 (fun _ => ⟨by omega, by omega⟩)) rfl ?_
      refine W.q (Ev.ldb1 0 (c := Url.slA (z c.toNat)) (.t rfl) rfl ag46 (by show (Url.rowF (Url.Fz 3 z) _)[c.toNat]? = _; rw [Url.rowF_get _ _ _ (by omega), Url.Fz_gone, hg]; rfl)) rfl ?_
      first | refine W.q (Ev.lensl (.t rfl) Tryd.underlying46) rfl ?_ | refine W.q (Ev.lenar (i := 0) (.t rfl) rfl Tryd.underlying46) rfl ?_ | refine W.q (Ev.lenar (i := 1) (.t rfl) rfl Tryd.underlying46) rfl ?_ | refine W.q (Ev.lenl (.t rfl) Tryd.underlying46) rfl ?_
      first | refine W.q (Ev.sub (.t rfl) .k (fun _ => by omega)) rfl ?_ | refine W.q (Ev.subw (.t rfl) .k) rfl ?_
      first | refine W.q (Ev.add (.t rfl) (.t rfl) (fun _ => by omega)) rfl ?_ | refine W.q (Ev.addw (.t rfl) (.t rfl)) rfl ?_
      refine W.q (Ev.assign (.t rfl)) rfl ?_
      refine W.nil ?_
      refine W.then ?_
      refine W.region ?_
      refine W.q (Ev.assign .k) rfl ?_
      refine W.nil ?_
      refine W.blk_normal ?_
      refine W.then ?_
      refine W.region ?_
      refine W.q (Ev.move (.t rfl)) rfl ?_
      first | refine W.q (Ev.add (.t rfl) .k (fun _ => by omega)) rfl ?_ | refine W.q (Ev.addw (.t rfl) .k) rfl ?_
      refine W.q (Ev.assign (.t rfl)) rfl ?_
      refine W.nil ?_
      refine W.then ?_
      refine W.is (t := 5) (g := true) (av' := .int ((s.length : Int) - (((i + 1 : Nat) : Int) - ((Url.rm (s.take (i + 1))).length : Int)))) rfl (congrArg AV.int (by omega)) ?_
      refine W.is (t := 6) (g := true) (av' := .bool (decide ((Url.rm (s.take (i + 1))).length < (i + 1)))) rfl (congrArg AV.bool (decide_eq_true (by omega)).symm) ?_
      refine W.reach (D := []) (i + 1) ⟨rfl, rfl, rfl, rfl, rfl, trivial⟩ (.refl _) ⟨by show i + 1 ≤ _; omega, by show _ - (i + 1) < _; omega⟩
    · obtain ⟨c, hc⟩ : ∃ c, s.getD i 0 = c := ⟨_, rfl⟩
      rw [hc] at hg
      (try rw [hc] at hrt)
      have hc8 := c.toNat_lt
      have hl1 := Url.rm_take_len s i
      have hle := Url.rm_take_le s (i + 1)
      have hlen1 := congrArg List.length hrt
      rw [List.length_append, List.length_singleton] at hlen1
      refine W.seq ?_
      refine W.seq ?_
      refine W.region ?_
      refine W.q (Ev.move (.t rfl)) rfl ?_
      refine W.q (Ev.move (.t rfl)) rfl ?_
      refine W.q (Ev.lens (.t rfl) Tryd.underlying9) rfl ?_
      refine W.q (Ev.lti (.t rfl) (.t rfl)) rfl ?_
      refine W.nil ?_
      refine W.then ?_
      refine W.is (t := 58) (g := true) (av' := .lit (.bool true)) rfl (congrArg (fun b => AV.lit (.bool b)) (by exact decide_eq_true (by omega))) ?_
      refine W.condT (.t rfl) ?_
      refine W.skip ?_
      refine W.then ?_
      refine W.seq ?_
      refine W.block ?_
      refine W.seq ?_
      refine W.region ?_
      refine W.q (Ev.move (.t rfl)) rfl ?_
      refine W.q (Ev.move (.t rfl)) rfl ?_
      refine W.q (Ev.ats' (.t rfl) (.t rfl) Tryd.underlying9 (fun hg => by omega)) rfl ?_
      refine W.is (t := 63) (g := true) (av' := AV.u8 c) rfl (by rw [show ((i : Int)).toNat = i from rfl, hc]) ?_
      refine W.q (Ev.assign (.t rfl)) rfl ?_
      refine W.nil ?_
      refine W.then ?_
      refine W.seq ?_
      refine W.region ?_
      refine W.q (Ev.move (.t rfl)) rfl ?_
      refine W.q (Ev.move (.t rfl)) rfl ?_
      refine W.q (Ev.nilc (.t rfl)) rfl ?_
      first | refine W.q (Ev.fae (.t rfl) fa115_0 rfl) rfl ?_ | refine W.q (Ev.fab (.t rfl) fa115_0) rfl ?_ | refine W.q (Ev.faa (.t rfl) fa115_0) rfl ?_
      refine W.q (Ev.boxat (.t rfl) (.t rfl) Tryd.underlying113 ty46 (fun _ => ⟨by omega, by omega⟩)) rfl ?_
      refine W.q (Ev.ldb1 0 (c := Url.nilA) (.t rfl) rfl ag46 (by show (Url.rowF (Url.Fz 3 z) _)[c.toNat]? = _; rw [Url.rowF_get _ _ _ (by omega), Url.Fz_gone, hg]; rfl)) rfl ?_
      refine W.q (Ev.nenl (ad := none) (n := 0) (c := 0) (.t rfl) Tryd.underlying46) rfl ?_
      refine W.nil ?_
      refine W.then ?_
      refine W.is (t := 70) (g := true) (av' := .lit (.bool false)) rfl (congrArg (fun b => AV.lit (.bool b)) (by rfl)) ?_
      refine W.condF (.t rfl) ?_
      refine W.skip ?_
      refine W.blk_normal ?_
      refine W.then ?_
      refine W.region ?_
      refine W.q (Ev.move (.t rfl)) rfl ?_
      first | refine W.q (Ev.add (.t rfl) .k (fun _ => by omega)) rfl ?_ | refine W.q (Ev.addw (.t rfl) .k) rfl ?_
      refine W.q (Ev.assign (.t rfl)) rfl ?_
      refine W.nil ?_
      refine W.then ?_
      refine W.is (t := 5) (g := true) (av' := .int ((s.length : Int) - (((i + 1 : Nat) : Int) - ((Url.rm (s.take (i + 1))).length : Int)))) rfl (congrArg AV.int (by omega)) ?_
      refine W.is (t := 6) (g := true) (av' := .bool (decide ((Url.rm (s.take (i + 1))).length < (i + 1)))) rfl (congrArg AV.bool (by rw [decide_eq_decide]; omega)) ?_
      refine W.reach (D := []) (i + 1) ⟨rfl, rfl, rfl, rfl, rfl, trivial⟩ (.refl _) ⟨by show i + 1 ≤ _; omega, by show _ - (i + 1) < _; omega⟩
    · have he : s.take i = s := List.take_of_length_le (by omega)
      rw [he]
      refine W.is (t := 5) (g := true) (av' := .int ((Url.rm s).length : Int)) rfl (congrArg AV.int (by omega)) ?_
      refine W.is (t := 6) (g := true) (av' := .bool (decide ((Url.rm s).length < s.length))) rfl (congrArg AV.bool (by rw [hend])) ?_
      refine W.seq ?_
      refine W.seq ?_
      refine W.region ?_
      refine W.q (Ev.move (.t rfl)) rfl ?_
      refine W.q (Ev.move (.t rfl)) rfl ?_
      refine W.q (Ev.lens (.t rfl) Tryd.underlying9) rfl ?_
      refine W.q (Ev.lti (.t rfl) (.t rfl)) rfl ?_
      refine W.nil ?_
      refine W.then ?_
      refine W.is (t := 58) (g := true) (av' := .lit (.bool false)) rfl (congrArg (fun b => AV.lit (.bool b)) (by exact decide_eq_false (by omega))) ?_
      refine W.condF (.t rfl) ?_
      refine W.exit ?_
      refine W.then_exit ?_
      refine W.then_exit ?_
      refine W.blk_hit ?_
      refine W.then ?_
      refine W.seq ?_
      refine W.seq ?_
      refine W.region ?_
      refine W.q (Ev.move (.t rfl)) rfl ?_
      refine W.q (Ev.not (.t rfl)) rfl ?_
      refine W.nil ?_
      refine W.then ?_
      refine W.cond (.t rfl) (fun hc_t82 => ?_) (fun hc_t82 => ?_)
      · have hsm : Url.rm s = s := Url.rm_same (by have h1 := Url.rm_len s; have h2 := of_decide_eq_false (show decide ((Url.rm s).length < s.length) = false from by simpa using hc_t82); omega)
        refine W.seq ?_
        refine W.region ?_
        refine W.q (Ev.move (.t rfl)) rfl ?_
        refine W.q (Ev.assign (.t rfl)) rfl ?_
        refine W.nil ?_
        refine W.then ?_
        refine W.ret ?_
        refine W.then_ret ?_
        refine W.retn (M' := [.box b 115 (Url.rowF (Url.Fz 3 z) (.sl 1 (Url.tlr.map AV.str)))]) (D := _) (rs := [.tmp 4]) (avs := [_]) Tryd.results150 ⟨rfl, trivial⟩ rfl (by first | exact .refl _ | exact List.perm_append_comm (l₁ := [_])) ?_
        first | exact ⟨rfl, rfl⟩ | exact ⟨congrArg AV.str hsm.symm, rfl⟩
      · refine W.skip ?_
        refine W.then ?_
        refine W.seq ?_
        refine W.region ?_
        refine W.q (Ev.move (.t rfl)) rfl ?_
        refine W.mk (n := (Url.rm s).length) (.t rfl) (.t rfl) Tryd.underlying46 ty5 rfl rfl rfl rfl rfl (by have := Url.rm_len s; omega) rfl ?_
        intro v12
        refine W.arr_len 0 rfl (fun a12 c12 h12 hc12 => ?_)
        rw [List.length_replicate] at h12 hc12
        subst h12
        refine W.q (Ev.assign (.t rfl)) rfl ?_
        refine W.nil ?_
        refine W.then ?_
        refine W.seq ?_
        refine W.region ?_
        refine W.q (Ev.assign .k) rfl ?_
        refine W.nil ?_
        refine W.then ?_
        refine W.seq ?_
        refine W.seq ?_
        refine W.region ?_
        refine W.q (Ev.assign .k) rfl ?_
        refine W.nil ?_
        refine W.then ?_
        refine W.block ?_
        refine W.perm (M' := [.arr (.slice a12 (Url.rm s).length c12) 5 1 (Url.bufV s 0), .box b 115 (Url.rowF (Url.Fz 3 z) (.sl 1 (Url.tlr.map AV.str)))]) (List.Perm.of_eq (by rw [Url.bufV_zero]; rfl)) ?_
        refine W.loop (D := []) (ι := Nat) (fun i => [(14, true, .int (i : Int)), (13, true, .int ((Url.rm (s.take i)).length : Int)), (12, true, .lit (.slice a12 (Url.rm s).length c12)), (0, true, .lit (.pointer (some ⟨b, 0, none⟩))), (1, true, .str s)]) (fun i => [.arr (.slice a12 (Url.rm s).length c12) 5 1 (Url.bufV s i), .box b 115 (Url.rowF (Url.Fz 3 z) (.sl 1 (Url.tlr.map AV.str)))]) (fun i => i ≤ s.length) (fun i => s.length - i) 0 ⟨rfl, rfl, rfl, rfl, rfl, trivial⟩ (.refl _) (Nat.zero_le _) ?_
        intro i hi
        dsimp only at hi ⊢
        rcases (show (i < s.length ∧ (Url.gone (s.getD i 0) = true ∧ Url.rm (s.take (i + 1)) = Url.rm (s.take i))) ∨ (i < s.length ∧ (Url.gone (s.getD i 0) = false ∧ Url.rm (s.take (i + 1)) = Url.rm (s.take i) ++ [s.getD i 0])) ∨ i = s.length from by rcases Nat.lt_or_ge i s.length with h | h; rcases Url.rm_step s i h with h2 | h2; exact .inl ⟨h, h2⟩; exact .inr (.inl ⟨h, h2⟩); exact .inr (.inr (by omega))) with ⟨hlt, hg, hrt⟩ | ⟨hlt, hg, hrt⟩ | hend
        · obtain ⟨c, hc⟩ : ∃ c, s.getD i 0 = c := ⟨_, rfl⟩
          rw [hc] at hg
          (try rw [hc] at hrt)
          have hc8 := c.toNat_lt
          have hl1 := Url.rm_take_len s i
          have hle := Url.rm_take_le s (i + 1)
          have hlen1 := congrArg List.length hrt
          have hle0 := Url.rm_take_le s i
          refine W.seq ?_
          refine W.seq ?_
          refine W.region ?_
          refine W.q (Ev.move (.t rfl)) rfl ?_
          refine W.q (Ev.move (.t rfl)) rfl ?_
          refine W.q (Ev.lens (.t rfl) Tryd.underlying9) rfl ?_
          refine W.q (Ev.lti (.t rfl) (.t rfl)) rfl ?_
          refine W.nil ?_
          refine W.then ?_
          refine W.is (t := 89) (g := true) (av' := .lit (.bool true)) rfl (congrArg (fun b => AV.lit (.bool b)) (by exact decide_eq_true (by omega))) ?_
          refine W.condT (.t rfl) ?_
          refine W.skip ?_
          refine W.then ?_
          refine W.seq ?_
          refine W.block ?_
          refine W.seq ?_
          refine W.region ?_
          refine W.q (Ev.move (.t rfl)) rfl ?_
          refine W.q (Ev.move (.t rfl)) rfl ?_
          refine W.q (Ev.ats' (.t rfl) (.t rfl) Tryd.underlying9 (fun hg => by omega)) rfl ?_
          refine W.is (t := 94) (g := true) (av' := AV.u8 c) rfl (by rw [show ((i : Int)).toNat = i from rfl, hc]) ?_
          refine W.q (Ev.assign (.t rfl)) rfl ?_
          refine W.nil ?_
          refine W.then ?_
          refine W.seq ?_
          refine W.region ?_
          refine W.q (Ev.move (.t rfl)) rfl ?_
          refine W.q (Ev.move (.t rfl)) rfl ?_
          refine W.q (Ev.nilc (.t rfl)) rfl ?_
          first | refine W.q (Ev.fae (.t rfl) fa115_0 rfl) rfl ?_ | refine W.q (Ev.fab (.t rfl) fa115_0) rfl ?_ | refine W.q (Ev.faa (.t rfl) fa115_0) rfl ?_
          refine W.q (Ev.boxat (.t rfl) (.t rfl) Tryd.underlying113 ty46 (fun _ => ⟨by omega, by omega⟩)) rfl ?_
          refine W.q (Ev.ldb1 1 (c := Url.slA (z c.toNat)) (.t rfl) rfl ag46 (by show (Url.rowF (Url.Fz 3 z) _)[c.toNat]? = _; rw [Url.rowF_get _ _ _ (by omega), Url.Fz_gone, hg]; rfl)) rfl ?_
          refine W.q (Ev.nenl (ad := some ⟨(z c.toNat).1, 0, none⟩) (n := 0) (c := (z c.toNat).2) (.t rfl) Tryd.underlying46) rfl ?_
          refine W.nil ?_
          refine W.then ?_
          refine W.is (t := 101) (g := true) (av' := .lit (.bool true)) rfl (congrArg (fun b => AV.lit (.bool b)) (by rfl)) ?_
          refine W.condT (.t rfl) ?_
          refine W.drawn (by kernel_rfl) (by kernel_rfl) ?_
          refine DP.q (Ev.move (.t rfl)) rfl ?_
          refine DP.q (Ev.move (.t rfl)) rfl ?_
          refine DP.q (Ev.move (.t rfl)) rfl ?_
          refine DP.q (Ev.slit (v := _) (lo := some (.tmp 104)) (hi := none) (.t rfl) Tryd.underlying46 ty5 (.t rfl) rfl (fun _ => by omega) (by exact rfl)) rfl ?_
          refine DP.q (Ev.move (.t rfl)) rfl ?_
          refine DP.q (Ev.move (.t rfl)) rfl ?_
          refine DP.q (Ev.nilc (.t rfl)) rfl ?_
          first | refine DP.q (Ev.fae (.t rfl) fa115_0 rfl) rfl ?_ | refine DP.q (Ev.fab (.t rfl) fa115_0) rfl ?_ | refine DP.q (Ev.faa (.t rfl) fa115_0) rfl ?_
          refine DP.q (Ev.boxat (.t rfl) (.t rfl) Tryd.underlying113 ty46 (fun _ => ⟨by omega, by omega⟩)) rfl ?_
          refine DP.q (Ev.ldb1 1 (c := Url.slA (z c.toNat)) (.t rfl) rfl ag46 (by show (Url.rowF (Url.Fz 3 z) _)[c.toNat]? = _; rw [Url.rowF_get _ _ _ (by omega), Url.Fz_gone, hg]; rfl)) rfl ?_
          refine DP.q (Ev.copy0 (ad := some ⟨(z c.toNat).1, 0, none⟩) (c := (z c.toNat).2) (.t rfl) (.t rfl) Tryd.underlying46 ty5) rfl ?_
          first | refine DP.q (Ev.add (.t rfl) (.t rfl) (fun _ => by omega)) rfl ?_ | refine DP.q (Ev.addw (.t rfl) (.t rfl)) rfl ?_
          refine DP.q (Ev.assign (.t rfl)) rfl ?_
          refine DP.nil ?_
          refine W.blk_normal ?_
          refine W.then ?_
          refine W.region ?_
          refine W.q (Ev.move (.t rfl)) rfl ?_
          first | refine W.q (Ev.add (.t rfl) .k (fun _ => by omega)) rfl ?_ | refine W.q (Ev.addw (.t rfl) .k) rfl ?_
          refine W.q (Ev.assign (.t rfl)) rfl ?_
          refine W.nil ?_
          refine W.then ?_
          refine W.is (t := 13) (g := true) (av' := .int ((Url.rm (s.take (i + 1))).length : Int)) rfl (congrArg AV.int (by omega)) ?_
          refine W.reach (D := []) (i + 1) ⟨rfl, rfl, rfl, rfl, rfl, trivial⟩ (by rw [Url.bufV_same s i hrt]; exact .refl _) ⟨by show i + 1 ≤ _; omega, by show _ - (i + 1) < _; omega⟩
        · obtain ⟨c, hc⟩ : ∃ c, s.getD i 0 = c := ⟨_, rfl⟩
          rw [hc] at hg
          (try rw [hc] at hrt)
          have hc8 := c.toNat_lt
          have hl1 := Url.rm_take_len s i
          have hle := Url.rm_take_le s (i + 1)
          have hlen1 := congrArg List.length hrt
          rw [List.length_append, List.length_singleton] at hlen1
          have hbl := Url.bufV_len s i
          refine W.seq ?_
          refine W.seq ?_
          refine W.region ?_
          refine W.q (Ev.move (.t rfl)) rfl ?_
          refine W.q (Ev.move (.t rfl)) rfl ?_
          refine W.q (Ev.lens (.t rfl) Tryd.underlying9) rfl ?_
          refine W.q (Ev.lti (.t rfl) (.t rfl)) rfl ?_
          refine W.nil ?_
          refine W.then ?_
          refine W.is (t := 89) (g := true) (av' := .lit (.bool true)) rfl (congrArg (fun b => AV.lit (.bool b)) (by exact decide_eq_true (by omega))) ?_
          refine W.condT (.t rfl) ?_
          refine W.skip ?_
          refine W.then ?_
          refine W.seq ?_
          refine W.block ?_
          refine W.seq ?_
          refine W.region ?_
          refine W.q (Ev.move (.t rfl)) rfl ?_
          refine W.q (Ev.move (.t rfl)) rfl ?_
          refine W.q (Ev.ats' (.t rfl) (.t rfl) Tryd.underlying9 (fun hg => by omega)) rfl ?_
          refine W.is (t := 94) (g := true) (av' := AV.u8 c) rfl (by rw [show ((i : Int)).toNat = i from rfl, hc]) ?_
          refine W.q (Ev.assign (.t rfl)) rfl ?_
          refine W.nil ?_
          refine W.then ?_
          refine W.seq ?_
          refine W.region ?_
          refine W.q (Ev.move (.t rfl)) rfl ?_
          refine W.q (Ev.move (.t rfl)) rfl ?_
          refine W.q (Ev.nilc (.t rfl)) rfl ?_
          first | refine W.q (Ev.fae (.t rfl) fa115_0 rfl) rfl ?_ | refine W.q (Ev.fab (.t rfl) fa115_0) rfl ?_ | refine W.q (Ev.faa (.t rfl) fa115_0) rfl ?_
          refine W.q (Ev.boxat (.t rfl) (.t rfl) Tryd.underlying113 ty46 (fun _ => ⟨by omega, by omega⟩)) rfl ?_
          refine W.q (Ev.ldb1 1 (c := Url.nilA) (.t rfl) rfl ag46 (by show (Url.rowF (Url.Fz 3 z) _)[c.toNat]? = _; rw [Url.rowF_get _ _ _ (by omega), Url.Fz_gone, hg]; rfl)) rfl ?_
          refine W.q (Ev.nenl (ad := none) (n := 0) (c := 0) (.t rfl) Tryd.underlying46) rfl ?_
          refine W.nil ?_
          refine W.then ?_
          refine W.is (t := 101) (g := true) (av' := .lit (.bool false)) rfl (congrArg (fun b => AV.lit (.bool b)) (by rfl)) ?_
          refine W.condF (.t rfl) ?_
          refine W.seq ?_
          refine W.region ?_
          refine W.q (Ev.move (.t rfl)) rfl ?_
          refine W.q (Ev.move (.t rfl)) rfl ?_
          refine W.q (Ev.move (.t rfl)) rfl ?_
          refine W.q (Ev.ata 0 (.t rfl) rfl (.t rfl) Tryd.underlying46 ty5 (fun _ => by omega)) rfl ?_
          refine W.sta 0 (Url.rm (s.take i)).length 0 (e := AV.lit (.int .u8 0)) (e' := AV.u8 c) (.t rfl) (.t rfl) rfl (Url.bufV_at s i (by omega)) (by omega) ty5 rfl rfl rfl rfl rfl rfl rfl ?_
          refine W.nil ?_
          refine W.then ?_
          refine W.region ?_
          refine W.q (Ev.move (.t rfl)) rfl ?_
          first | refine W.q (Ev.add (.t rfl) .k (fun _ => by omega)) rfl ?_ | refine W.q (Ev.addw (.t rfl) .k) rfl ?_
          refine W.q (Ev.assign (.t rfl)) rfl ?_
          refine W.nil ?_
          refine W.blk_normal ?_
          refine W.then ?_
          refine W.region ?_
          refine W.q (Ev.move (.t rfl)) rfl ?_
          first | refine W.q (Ev.add (.t rfl) .k (fun _ => by omega)) rfl ?_ | refine W.q (Ev.addw (.t rfl) .k) rfl ?_
          refine W.q (Ev.assign (.t rfl)) rfl ?_
          refine W.nil ?_
          refine W.then ?_
          refine W.is (t := 13) (g := true) (av' := .int ((Url.rm (s.take (i + 1))).length : Int)) rfl (congrArg AV.int (by omega)) ?_
          refine W.reach (D := []) (i + 1) ⟨rfl, rfl, rfl, rfl, rfl, trivial⟩ (by rw [← Url.bufV_set s i c hrt]; exact .refl _) ⟨by show i + 1 ≤ _; omega, by show _ - (i + 1) < _; omega⟩
        · refine W.perm (M' := [.arr (.slice a12 (Url.rm s).length c12) 5 1 ((Url.rm s).map AV.u8), .box b 115 (Url.rowF (Url.Fz 3 z) (.sl 1 (Url.tlr.map AV.str)))]) (List.Perm.of_eq (by rw [hend, Url.bufV_end])) ?_
          refine W.seq ?_
          refine W.seq ?_
          refine W.region ?_
          refine W.q (Ev.move (.t rfl)) rfl ?_
          refine W.q (Ev.move (.t rfl)) rfl ?_
          refine W.q (Ev.lens (.t rfl) Tryd.underlying9) rfl ?_
          refine W.q (Ev.lti (.t rfl) (.t rfl)) rfl ?_
          refine W.nil ?_
          refine W.then ?_
          refine W.is (t := 89) (g := true) (av' := .lit (.bool false)) rfl (congrArg (fun b => AV.lit (.bool b)) (by exact decide_eq_false (by omega))) ?_
          refine W.condF (.t rfl) ?_
          refine W.exit ?_
          refine W.then_exit ?_
          refine W.then_exit ?_
          refine W.blk_hit ?_
          refine W.then ?_
          refine W.seq ?_
          refine W.region ?_
          refine W.q (Ev.move (.t rfl)) rfl ?_
          refine W.q (Ev.b2s 0 (l := Url.rm s) (.t rfl) rfl Tryd.underlying46 Tryd.underlying5 Tryd.underlying9) rfl ?_
          refine W.q (Ev.assign (.t rfl)) rfl ?_
          refine W.nil ?_
          refine W.then ?_
          refine W.ret ?_
          refine W.retn (M' := [.box b 115 (Url.rowF (Url.Fz 3 z) (.sl 1 (Url.tlr.map AV.str)))]) (D := _) (rs := [.tmp 4]) (avs := [_]) Tryd.results150 ⟨rfl, trivial⟩ rfl (by first | exact .refl _ | exact List.perm_append_comm (l₁ := [_])) ?_
          first | exact ⟨rfl, rfl⟩ | exact ⟨congrArg AV.str hsm.symm, rfl⟩

end WRepB

end Go.Proofs.YtohncieijjhnjaaDoor
end

section
set_option linter.unusedVariables false
set_option linter.unusedSimpArgs false
namespace Go.Vl
open Go.RowKit (Below)
theorem MOk.below {w w' : World} {M : List ME} {F : List Nat} (h : MOk w M F) (hb : Below w.heap.size w w') (hF : ∀ b ∈ F, b < w.heap.size) : MOk w' M F := by
  refine ⟨h.nodup, h.apart, fun m hm => ME.holds_keep (w := w) (N := bl M ++ F) ?_ (fun b hb' => ?_) (h.holds m hm)⟩
  · intro b c T fr hn hc
    exact ⟨hn, (hb.block b (heap_lt hc)).trans hc⟩
  · exact hb.block b (bl_lt h b (List.mem_flatMap.2 ⟨m, hm, hb'⟩))
theorem Fr.below {w w' : World} {N : List Nat} (h : Below w.heap.size w w') : Fr w N w' N :=
  ⟨h.os, h.tape, h.output, h.size, fun k hk hn => ⟨h.block k hk, hn⟩⟩
/-- nothing that was turns; the result is known -/
theorem FnC.belowM {P : Program} {f : FuncId} {args : List AV} {M0 : List ME} {r : AV} (hc : CallOk P f)
    (h : ∀ (w : World) (F : List Nat) (vs : List Value), MOk w M0 F → RepT w (bl M0 ++ F) args vs → Calls P f vs.toArray w fun e w' => ∃ v, e = .returned v ∧ Rep w' (bl M0 ++ F) r v ∧ Below w.heap.size w w') : FnC P f args M0 (fun r' M => r' = r ∧ M = M0) :=
  ⟨hc, fun w F vs hF hm ha => (h w F vs hm ha).mono fun e w' ⟨v, he, hr, hb⟩ => ⟨v, r, M0, he, ⟨rfl, rfl⟩, hm.below hb hF, hr, Fr.below hb⟩⟩
end Go.Vl
end
