/-
  Merged: WDig WInts ShelfB Low LawV.
-/
import Derived.Test.YtohncieijjhnjaaDoorG5
import Derived.Below
import Derived.Lib.Join
import Derived.Stop.LaidErr

section
set_option linter.unusedVariables false
set_option linter.unusedSimpArgs false
set_option maxRecDepth 100000
namespace Go.Proofs.YtohncieijjhnjaaDoor
open Go.Vl

namespace WDig
theorem ty5 : Ty Tryd.prog 5 1 1 (.int .u8 0) := Ty.of (by kernel_rfl)
theorem ag5 : IsAgg Tryd.prog 5 false := ⟨_, Tryd.underlying5, rfl⟩
theorem c_lower (c : UInt8) : FnP Tryd.prog 97 [.lit (.int .u8 (c.toNat : Int))] (.lit (.int .u8 ((c ||| 32).toNat : Int))) :=  by
  refine FnC.mk Tryd.func97 (by kernel_rfl) rfl Tryd.ntmps97 rfl (fun w0 F => ?_)
  refine W.seq ?_
  refine W.region ?_
  refine W.q (Ev.assign .k) rfl ?_
  refine W.nil ?_
  refine W.then ?_
  refine W.seq ?_
  refine W.region ?_
  refine W.q (Ev.move (.t rfl)) rfl ?_
  refine W.q (Ev.bor (.t rfl) .k) rfl ?_
  refine W.q (Ev.assign (.t rfl)) rfl ?_
  refine W.nil ?_
  refine W.then ?_
  refine W.ret ?_
  refine W.retn (M' := []) (rs := [.tmp 2]) (avs := [_]) Tryd.results97 ⟨rfl, trivial⟩ rfl (.refl _) ?_
  exact ⟨congrArg (fun z => AV.lit (.int .u8 z)) (Une.or32 c), rfl⟩

set_option maxHeartbeats 1600000 in
theorem c_PU10 (s : List UInt8) (hne : s ≠ []) (hl : s.length ≤ 7) (hu : ∀ c ∈ s, c ≠ 95) : FnP Tryd.prog 82 [.str s, .int 10, .int 64] (Une.pu 138 10 s) :=  by
  refine FnC.mk Tryd.func82 (by kernel_rfl) rfl Tryd.ntmps82 rfl (fun w0 F => ?_)
  have hml : (s.map AV.u8).length = s.length := List.length_map ..
  refine W.seq ?_
  refine W.region ?_
  refine W.q (Ev.assign .k) rfl ?_
  refine W.q (Ev.assign .k) rfl ?_
  refine W.nil ?_
  refine W.then ?_
  refine W.seq ?_
  refine W.seq ?_
  refine W.region ?_
  refine W.q (Ev.move (.t rfl)) rfl ?_
  refine W.q (Ev.eqs (.t rfl) .k) rfl ?_
  refine W.nil ?_
  refine W.then ?_
  refine W.is (t := 19) (g := true) (av' := .lit (.bool false)) rfl (congrArg (fun b => AV.lit (.bool b)) (by simp [hne])) ?_
  refine W.condF (.t rfl) ?_
  refine W.skip ?_
  refine W.then ?_
  refine W.seq ?_
  refine W.region ?_
  refine W.q (Ev.move (.t rfl)) rfl ?_
  refine W.q (Ev.eqi (.t rfl) .k) rfl ?_
  refine W.q (Ev.assign (.t rfl)) rfl ?_
  refine W.nil ?_
  refine W.then ?_
  refine W.seq ?_
  refine W.region ?_
  refine W.q (Ev.move (.t rfl)) rfl ?_
  refine W.q (Ev.assign (.t rfl)) rfl ?_
  refine W.nil ?_
  refine W.then ?_
  refine W.seq ?_
  refine W.block ?_
  refine W.seq ?_
  refine W.region ?_
  refine W.q (Ev.move (.t rfl)) rfl ?_
  refine W.q (Ev.lei .k (.t rfl)) rfl ?_
  refine W.q (Ev.move (.t rfl)) rfl ?_
  refine W.qgT rfl rfl (Ev.move (.t rfl)) rfl ?_
  refine W.qgT rfl rfl (Ev.lei (.c rfl) .k) rfl ?_
  refine W.q (Ev.and (.t rfl) ⟨_, _, rfl, rfl, by first | (simp; done) | (intro hg_ hp_; simp [hp_]; done) | (simp <;> omega; done) | (simp_all; done) | grind⟩) rfl ?_
  refine W.q (Ev.assign (.t rfl)) rfl ?_
  refine W.nil ?_
  refine W.then ?_
  refine W.is (t := 25) (g := true) (av' := .lit (.bool true)) rfl (congrArg (fun b => AV.lit (.bool b)) (by decide)) ?_
  refine W.condT (.t rfl) ?_
  refine W.skip ?_
  refine W.blk_normal ?_
  refine W.then ?_
  refine W.seq ?_
  refine W.seq ?_
  refine W.region ?_
  refine W.q (Ev.move (.t rfl)) rfl ?_
  refine W.q (Ev.eqi (.t rfl) .k) rfl ?_
  refine W.nil ?_
  refine W.then ?_
  refine W.is (t := 77) (g := true) (av' := .lit (.bool false)) rfl (congrArg (fun b => AV.lit (.bool b)) (by decide)) ?_
  refine W.condF (.t rfl) ?_
  refine W.seq ?_
  refine W.region ?_
  refine W.q (Ev.move (.t rfl)) rfl ?_
  refine W.q (Ev.lti (.t rfl) .k) rfl ?_
  refine W.q (Ev.move (.t rfl)) rfl ?_
  refine W.qgF rfl rfl (Ev.move (.t rfl)) rfl ?_
  refine W.qgF rfl rfl (Ev.gti (.c rfl) .k) rfl ?_
  refine W.q (Ev.or (.t rfl) ⟨_, _, rfl, rfl, by first | (simp; done) | (intro hg_ hp_; simp [hp_]; done) | (simp <;> omega; done) | (simp_all; done) | grind⟩) rfl ?_
  refine W.nil ?_
  refine W.then ?_
  refine W.is (t := 83) (g := true) (av' := .lit (.bool false)) rfl (congrArg (fun b => AV.lit (.bool b)) (by decide)) ?_
  refine W.condF (.t rfl) ?_
  refine W.skip ?_
  refine W.then ?_
  refine W.seq ?_
  refine W.region ?_
  refine W.q (Ev.assign .k) rfl ?_
  refine W.nil ?_
  refine W.then ?_
  refine W.seq ?_
  refine W.seq ?_
  refine W.region ?_
  refine W.q (Ev.move (.t rfl)) rfl ?_
  refine W.nil ?_
  refine W.then ?_
  refine W.block ?_
  refine W.seq ?_
  refine W.region ?_
  refine W.q (Ev.eqi (.t rfl) .k) rfl ?_
  refine W.q (Ev.assign (.t rfl)) rfl ?_
  refine W.nil ?_
  refine W.then ?_
  refine W.is (t := 90) (g := true) (av' := .lit (.bool true)) rfl (congrArg (fun b => AV.lit (.bool b)) (by decide)) ?_
  refine W.condT (.t rfl) ?_
  refine W.region ?_
  refine W.q (Ev.assign .k) rfl ?_
  refine W.nil ?_
  refine W.blk_normal ?_
  refine W.then ?_
  refine W.seq ?_
  refine W.region ?_
  refine W.q (Ev.move (.t rfl)) rfl ?_
  refine W.q (Ev.conv (.t rfl) ⟨_, Tryd.underlying3⟩ Tryd.underlying119) rfl ?_
  refine W.q (Ev.shlw (c := 64) .k (.t rfl) (by decide) (by decide)) rfl ?_
  refine W.q (Ev.subw (.t rfl) .k) rfl ?_
  refine W.is (t := 97) (g := true) (av' := .lit (.int .u64 18446744073709551615)) rfl (congrArg (fun z => AV.lit (.int .u64 z)) (by decide)) ?_
  refine W.q (Ev.assign (.t rfl)) rfl ?_
  refine W.nil ?_
  refine W.then ?_
  refine W.seq ?_
  refine W.region ?_
  refine W.q (Ev.assign .k) rfl ?_
  refine W.nil ?_
  refine W.then ?_
  refine W.seq ?_
  refine W.region ?_
  refine W.q (Ev.assign .k) rfl ?_
  refine W.nil ?_
  refine W.then ?_
  refine W.seq ?_
  refine W.seq ?_
  refine W.region ?_
  refine W.q (Ev.move (.t rfl)) rfl ?_
  refine W.s2b (.t rfl) Tryd.underlying9 Tryd.underlying46 Tryd.underlying5 (by omega) rfl ?_
  intro v99
  refine W.arr_inv 0 rfl (fun a99 n99 c99 h99 => ?_)
  subst h99
  obtain ⟨v, hv⟩ : ∃ v, Value.slice a99 n99 c99 = v := ⟨_, rfl⟩
  rw [hv]
  first | refine W.q (Ev.lensl (.t rfl) Tryd.underlying46) rfl ?_ | refine W.q (Ev.lenar (i := 0) (.t rfl) rfl Tryd.underlying46) rfl ?_ | refine W.q (Ev.lenar (i := 1) (.t rfl) rfl Tryd.underlying46) rfl ?_ | refine W.q (Ev.lenar (i := 2) (.t rfl) rfl Tryd.underlying46) rfl ?_ | refine W.q (Ev.lenar (i := 3) (.t rfl) rfl Tryd.underlying46) rfl ?_
  refine W.q (Ev.move .k) rfl ?_
  refine W.nil ?_
  refine W.then ?_
  refine W.block ?_
  refine W.loop (D := []) (ι := Nat) (fun i => [(101, true, .int (i : Int)), (100, true, .int ((s.map AV.u8).length : Int)), (99, true, .lit v), (13, true, .lit (.int .u64 (Une.val 10 (s.take i) : Int))), (10, true, .lit (.int .u64 1844674407370955162)), (11, true, .lit (.int .u64 18446744073709551615)), (1, true, .int 10), (12, true, .bool false), (8, true, .bool false), (9, true, .str s)]) (fun i => [.arr v 5 1 (s.map AV.u8)]) (fun i => i ≤ s.length ∧ Une.okd 10 (s.take i) = true) (fun i => s.length - i) 0 ⟨rfl, rfl, rfl, rfl, rfl, rfl, rfl, rfl, rfl, rfl, trivial⟩ (.refl _) ⟨Nat.zero_le _, rfl⟩ ?_
  rintro i ⟨hi, hi2⟩
  dsimp only at hi hi2 ⊢
  rcases (show i < s.length ∨ i = s.length from by omega) with hlt | hend
  · obtain ⟨c0, hc0⟩ : ∃ c, s.getD i 0 = c := ⟨_, rfl⟩
    have hm : c0 ∈ s := by rw [← hc0]; exact getD_memG 0 s i hlt
    have htk := take_getDG 0 s i hlt
    rw [hc0] at htk
    have hga : (s.map AV.u8)[i]? = some (AV.u8 c0) := by rw [List.getElem?_map, List.getElem?_eq_getElem hlt, ← hc0, List.getD_eq_getElem?_getD, List.getElem?_eq_getElem hlt]; rfl
    have h95 : c0.toNat ≠ 95 := fun h => hu c0 hm (UInt8.toNat_inj.1 h)
    have hvs := Une.val_small 10 (by decide) (s.take i) (by rw [List.length_take]; omega) hi2
    have hvn : Une.val 10 (s.take (i + 1)) = Une.val 10 (s.take i) * 10 + Une.dv c0 := by rw [htk, Une.val_snoc]
    refine W.seq ?_
    refine W.region ?_
    refine W.q (Ev.lti (.t rfl) (.t rfl)) rfl ?_
    refine W.nil ?_
    refine W.then ?_
    refine W.seq ?_
    refine W.is (t := 102) (g := true) (av' := .lit (.bool true)) rfl (congrArg (fun b => AV.lit (.bool b)) (by exact decide_eq_true (by omega))) ?_
    refine W.condT (.t rfl) ?_
    refine W.skip ?_
    refine W.then ?_
    refine W.seq ?_
    refine W.block ?_
    refine W.seq ?_
    refine W.region ?_
    refine W.q (Ev.ata 0 (.t rfl) rfl (.t rfl) Tryd.underlying46 ty5 (fun _ => by rw [hml]; omega)) rfl ?_
    refine W.q (Ev.lda1 0 i 0 (.t rfl) rfl hga (by omega) rfl rfl rfl ag5) rfl ?_
    refine W.q (Ev.assign (.t rfl)) rfl ?_
    refine W.nil ?_
    refine W.then ?_
    refine W.seq ?_
    refine W.region ?_
    refine W.q (Ev.assign .k) rfl ?_
    refine W.nil ?_
    refine W.then ?_
    refine W.seq ?_
    refine W.block ?_
    refine W.seq ?_
    refine W.region ?_
    refine W.q (Ev.move (.t rfl)) rfl ?_
    refine W.q (Ev.eqi (.t rfl) .k) rfl ?_
    refine W.q (Ev.move (.t rfl)) rfl ?_
    refine W.qgT rfl rfl (Ev.move (.t rfl)) rfl ?_
    refine W.q (Ev.and (.t rfl) ⟨_, _, rfl, rfl, by first | (simp; done) | (intro hg_ hp_; simp [hp_]; done) | (simp <;> omega; done) | (simp_all; done) | grind⟩) rfl ?_
    refine W.q (Ev.assign (.t rfl)) rfl ?_
    refine W.nil ?_
    refine W.then ?_
    refine W.is (t := 106) (g := true) (av' := .lit (.bool false)) rfl (congrArg (fun b => AV.lit (.bool b)) (by simp)) ?_
    refine W.condF (.t rfl) ?_
    refine W.seq ?_
    refine W.region ?_
    refine W.q (Ev.move (.t rfl)) rfl ?_
    refine W.q (Ev.lei .k (.t rfl)) rfl ?_
    refine W.q (Ev.move (.t rfl)) rfl ?_
    refine W.qgT rfl rfl (Ev.move (.t rfl)) rfl ?_
    refine W.qgT rfl rfl (Ev.lei (.c rfl) .k) rfl ?_
    refine W.q (Ev.and (.t rfl) ⟨_, _, rfl, rfl, by first | (simp; done) | (intro hg_ hp_; simp [hp_]; done) | (simp <;> omega; done) | (simp_all; done) | grind⟩) rfl ?_
    refine W.q (Ev.assign (.t rfl)) rfl ?_
    refine W.nil ?_
    refine W.then ?_
    refine W.cond (.t rfl) (fun hc_t112 => ?_) (fun hc_t112 => ?_)
    · have hdg : 48 ≤ c0.toNat ∧ c0.toNat ≤ 57 := by simp only [Bool.and_eq_true, decide_eq_true_eq] at hc_t112; omega
      refine W.region ?_
      refine W.q (Ev.move (.t rfl)) rfl ?_
      refine W.q (Ev.subw (.t rfl) .k) rfl ?_
      obtain ⟨d8, hd8⟩ : ∃ z : Int, z = (Une.dv c0 : Int) := ⟨_, rfl⟩
      refine W.is (t := 120) (g := true) (av' := .lit (.int .u8 d8)) rfl (congrArg (fun z => AV.lit (.int .u8 z)) (by rw [hd8, Une.dv_dig c0 hdg, IntKind.wrap_u8]; omega)) ?_
      refine W.q (Ev.assign (.t rfl)) rfl ?_
      refine W.nil ?_
      refine W.blk_normal ?_
      refine W.then ?_
      refine W.seq ?_
      refine W.seq ?_
      refine W.region ?_
      refine W.q (Ev.move (.t rfl)) rfl ?_
      refine W.q (Ev.move (.t rfl)) rfl ?_
      refine W.q (Ev.conv (.t rfl) ⟨_, Tryd.underlying3⟩ Tryd.underlying5) rfl ?_
      refine W.is (t := 136) (g := true) (av' := .lit (.int .u8 10)) rfl (congrArg (fun z => AV.lit (.int .u8 z)) (by decide)) ?_
      refine W.q (Ev.gei (.t rfl) (.t rfl)) rfl ?_
      refine W.nil ?_
      refine W.then ?_
      refine W.cond (.t rfl) (fun hc_t137 => ?_) (fun hc_t137 => ?_)
      · have hbad : Une.okd 10 s = false := Une.okd_bad 10 s c0 hm (by have h := of_decide_eq_true hc_t137; rw [hd8] at h; omega)
        refine W.seq ?_
        refine W.region ?_
        refine W.q (Ev.mkif .k Tryd.underlying138 (by intro ms h; cases h)) rfl ?_
        refine W.q (Ev.assign .k) rfl ?_
        refine W.q (Ev.assign (.t rfl)) rfl ?_
        refine W.nil ?_
        refine W.then ?_
        refine W.ret ?_
        refine W.then_ret ?_
        refine W.blk_ret ?_
        refine W.then_ret ?_
        refine W.then_ret ?_
        refine W.blk_ret ?_
        refine W.then_ret ?_
        refine W.retn (M' := []) (D := _) (rs := [.tmp 6, .tmp 7]) (avs := [_, _]) Tryd.results82 ⟨rfl, rfl, trivial⟩ rfl (.refl _) ?_
        first | (exact ⟨by unfold Une.pu; exact (if_neg (by rw [hbad]; decide)).symm, rfl⟩) | exact ⟨by unfold Une.pu; exact (if_pos hi2).symm, rfl⟩
      · have hlt8 : Une.dv c0 < 10 := by have h := of_decide_eq_false hc_t137; rw [hd8] at h; omega
        refine W.skip ?_
        refine W.then ?_
        refine W.seq ?_
        refine W.seq ?_
        refine W.region ?_
        refine W.q (Ev.move (.t rfl)) rfl ?_
        refine W.q (Ev.move (.t rfl)) rfl ?_
        refine W.q (Ev.gei (.t rfl) (.t rfl)) rfl ?_
        refine W.nil ?_
        refine W.then ?_
        refine W.is (t := 141) (g := true) (av' := .lit (.bool false)) rfl (congrArg (fun b => AV.lit (.bool b)) (by exact decide_eq_false (by omega))) ?_
        refine W.condF (.t rfl) ?_
        refine W.skip ?_
        refine W.then ?_
        refine W.seq ?_
        refine W.region ?_
        refine W.q (Ev.move (.t rfl)) rfl ?_
        refine W.q (Ev.move (.t rfl)) rfl ?_
        refine W.q (Ev.conv (.t rfl) ⟨_, Tryd.underlying3⟩ Tryd.underlying139) rfl ?_
        refine W.is (t := 146) (g := true) (av' := .lit (.int .u64 10)) rfl (congrArg (fun z => AV.lit (.int .u64 z)) (by decide)) ?_
        refine W.q (Ev.mulw (.t rfl) (.t rfl)) rfl ?_
        refine W.is (t := 147) (g := true) (av' := .lit (.int .u64 ((Une.val 10 (s.take i) : Int) * 10))) rfl (congrArg (fun z => AV.lit (.int .u64 z)) (by rw [IntKind.wrap_u64]; omega)) ?_
        refine W.q (Ev.assign (.t rfl)) rfl ?_
        refine W.nil ?_
        refine W.then ?_
        refine W.seq ?_
        refine W.region ?_
        refine W.q (Ev.move (.t rfl)) rfl ?_
        refine W.q (Ev.move (.t rfl)) rfl ?_
        refine W.q (Ev.conv (.t rfl) ⟨_, Tryd.underlying5⟩ Tryd.underlying139) rfl ?_
        refine W.is (t := 150) (g := true) (av' := .lit (.int .u64 (Une.dv c0 : Int))) rfl (congrArg (fun z => AV.lit (.int .u64 z)) (by rw [hd8, IntKind.wrap_u64]; omega)) ?_
        refine W.q (Ev.addw (.t rfl) (.t rfl)) rfl ?_
        refine W.is (t := 151) (g := true) (av' := .lit (.int .u64 (Une.val 10 (s.take (i + 1)) : Int))) rfl (congrArg (fun z => AV.lit (.int .u64 z)) (by rw [hvn, IntKind.wrap_u64]; omega)) ?_
        refine W.q (Ev.assign (.t rfl)) rfl ?_
        refine W.nil ?_
        refine W.then ?_
        refine W.seq ?_
        refine W.seq ?_
        refine W.region ?_
        refine W.q (Ev.move (.t rfl)) rfl ?_
        refine W.q (Ev.move (.t rfl)) rfl ?_
        refine W.q (Ev.lti (.t rfl) (.t rfl)) rfl ?_
        refine W.q (Ev.move (.t rfl)) rfl ?_
        refine W.qgF rfl rfl (Ev.move (.t rfl)) rfl ?_
        refine W.qgF rfl rfl (Ev.move (.t rfl)) rfl ?_
        refine W.qgF rfl rfl (Ev.gti (.c rfl) (.c rfl)) rfl ?_
        refine W.q (Ev.or (.t rfl) ⟨_, _, rfl, rfl, by first | (simp; done) | (intro hg_ hp_; simp [hp_]; done) | (simp <;> omega; done) | (simp_all; done) | grind⟩) rfl ?_
        refine W.nil ?_
        refine W.then ?_
        refine W.is (t := 159) (g := true) (av' := .lit (.bool false)) rfl (congrArg (fun b => AV.lit (.bool b)) (by simp; omega)) ?_
        refine W.condF (.t rfl) ?_
        refine W.skip ?_
        refine W.then ?_
        refine W.region ?_
        refine W.q (Ev.move (.t rfl)) rfl ?_
        refine W.q (Ev.assign (.t rfl)) rfl ?_
        refine W.nil ?_
        refine W.blk_normal ?_
        refine W.then ?_
        refine W.region ?_
        first | refine W.q (Ev.add (.t rfl) .k (fun _ => by omega)) rfl ?_ | refine W.q (Ev.addw (.t rfl) .k) rfl ?_
        refine W.q (Ev.move (.t rfl)) rfl ?_
        refine W.nil ?_
        refine W.then ?_
        refine W.reach (D := []) (i + 1) ⟨rfl, rfl, rfl, rfl, rfl, rfl, rfl, rfl, rfl, rfl, trivial⟩ (.refl _) ⟨⟨by omega, by rw [htk]; exact Une.okd_snoc _ _ _ hi2 hlt8⟩, by show s.length - (i + 1) < s.length - i; omega⟩
    · have hdg : ¬ (48 ≤ c0.toNat ∧ c0.toNat ≤ 57) := by intro h; rw [Bool.eq_false_iff] at hc_t112; apply hc_t112; simp only [Bool.and_eq_true, decide_eq_true_eq]; omega
      refine W.seq ?_
      refine W.region ?_
      refine W.q (Ev.move (.t rfl)) rfl ?_
      refine W.callp (c_lower c0) ⟨(.t rfl), trivial⟩ rfl ?_
      refine W.q (Ev.lei .k (.t rfl)) rfl ?_
      refine W.q (Ev.move (.t rfl)) rfl ?_
      refine W.qgT rfl rfl (Ev.move (.t rfl)) rfl ?_
      refine W.callgT (Min := []) (caps := []) (avs := [_]) rfl rfl (fun hg => c_lower c0) (fun hg => .f) (fun hg => ⟨(.i rfl (fun _ => hg)), trivial⟩) rfl (.refl _) rfl ?_
      refine W.qgT rfl rfl (Ev.lei (.c rfl) .k) rfl ?_
      refine W.q (Ev.and (.t rfl) ⟨_, _, rfl, rfl, by first | (simp; done) | (intro hg_ hp_; simp [hp_]; done) | (simp <;> omega; done) | (simp_all; done) | grind⟩) rfl ?_
      refine W.q (Ev.assign (.t rfl)) rfl ?_
      refine W.nil ?_
      refine W.then ?_
      refine W.cond (.t rfl) (fun hc_t121 => ?_) (fun hc_t121 => ?_)
      · have hlw : 97 ≤ (c0 ||| 32).toNat ∧ (c0 ||| 32).toNat ≤ 122 := by simp only [Bool.and_eq_true, decide_eq_true_eq] at hc_t121; omega
        refine W.region ?_
        refine W.q (Ev.move (.t rfl)) rfl ?_
        refine W.callp (c_lower c0) ⟨(.t rfl), trivial⟩ rfl ?_
        refine W.q (Ev.subw (.t rfl) .k) rfl ?_
        refine W.q (Ev.addw (.t rfl) .k) rfl ?_
        obtain ⟨d8, hd8⟩ : ∃ z : Int, z = (Une.dv c0 : Int) := ⟨_, rfl⟩
        refine W.is (t := 133) (g := true) (av' := .lit (.int .u8 d8)) rfl (congrArg (fun z => AV.lit (.int .u8 z)) (by rw [hd8, Une.dv_let c0 hdg hlw, IntKind.wrap_u8, IntKind.wrap_u8]; omega)) ?_
        refine W.q (Ev.assign (.t rfl)) rfl ?_
        refine W.nil ?_
        refine W.blk_normal ?_
        refine W.then ?_
        refine W.seq ?_
        refine W.seq ?_
        refine W.region ?_
        refine W.q (Ev.move (.t rfl)) rfl ?_
        refine W.q (Ev.move (.t rfl)) rfl ?_
        refine W.q (Ev.conv (.t rfl) ⟨_, Tryd.underlying3⟩ Tryd.underlying5) rfl ?_
        refine W.is (t := 136) (g := true) (av' := .lit (.int .u8 10)) rfl (congrArg (fun z => AV.lit (.int .u8 z)) (by decide)) ?_
        refine W.q (Ev.gei (.t rfl) (.t rfl)) rfl ?_
        refine W.nil ?_
        refine W.then ?_
        refine W.cond (.t rfl) (fun hc_t137 => ?_) (fun hc_t137 => ?_)
        · have hbad : Une.okd 10 s = false := Une.okd_bad 10 s c0 hm (by have h := of_decide_eq_true hc_t137; rw [hd8] at h; omega)
          refine W.seq ?_
          refine W.region ?_
          refine W.q (Ev.mkif .k Tryd.underlying138 (by intro ms h; cases h)) rfl ?_
          refine W.q (Ev.assign .k) rfl ?_
          refine W.q (Ev.assign (.t rfl)) rfl ?_
          refine W.nil ?_
          refine W.then ?_
          refine W.ret ?_
          refine W.then_ret ?_
          refine W.blk_ret ?_
          refine W.then_ret ?_
          refine W.then_ret ?_
          refine W.blk_ret ?_
          refine W.then_ret ?_
          refine W.retn (M' := []) (D := _) (rs := [.tmp 6, .tmp 7]) (avs := [_, _]) Tryd.results82 ⟨rfl, rfl, trivial⟩ rfl (.refl _) ?_
          first | (exact ⟨by unfold Une.pu; exact (if_neg (by rw [hbad]; decide)).symm, rfl⟩) | exact ⟨by unfold Une.pu; exact (if_pos hi2).symm, rfl⟩
        · have hlt8 : Une.dv c0 < 10 := by have h := of_decide_eq_false hc_t137; rw [hd8] at h; omega
          refine W.skip ?_
          refine W.then ?_
          refine W.seq ?_
          refine W.seq ?_
          refine W.region ?_
          refine W.q (Ev.move (.t rfl)) rfl ?_
          refine W.q (Ev.move (.t rfl)) rfl ?_
          refine W.q (Ev.gei (.t rfl) (.t rfl)) rfl ?_
          refine W.nil ?_
          refine W.then ?_
          refine W.is (t := 141) (g := true) (av' := .lit (.bool false)) rfl (congrArg (fun b => AV.lit (.bool b)) (by exact decide_eq_false (by omega))) ?_
          refine W.condF (.t rfl) ?_
          refine W.skip ?_
          refine W.then ?_
          refine W.seq ?_
          refine W.region ?_
          refine W.q (Ev.move (.t rfl)) rfl ?_
          refine W.q (Ev.move (.t rfl)) rfl ?_
          refine W.q (Ev.conv (.t rfl) ⟨_, Tryd.underlying3⟩ Tryd.underlying139) rfl ?_
          refine W.is (t := 146) (g := true) (av' := .lit (.int .u64 10)) rfl (congrArg (fun z => AV.lit (.int .u64 z)) (by decide)) ?_
          refine W.q (Ev.mulw (.t rfl) (.t rfl)) rfl ?_
          refine W.is (t := 147) (g := true) (av' := .lit (.int .u64 ((Une.val 10 (s.take i) : Int) * 10))) rfl (congrArg (fun z => AV.lit (.int .u64 z)) (by rw [IntKind.wrap_u64]; omega)) ?_
          refine W.q (Ev.assign (.t rfl)) rfl ?_
          refine W.nil ?_
          refine W.then ?_
          refine W.seq ?_
          refine W.region ?_
          refine W.q (Ev.move (.t rfl)) rfl ?_
          refine W.q (Ev.move (.t rfl)) rfl ?_
          refine W.q (Ev.conv (.t rfl) ⟨_, Tryd.underlying5⟩ Tryd.underlying139) rfl ?_
          refine W.is (t := 150) (g := true) (av' := .lit (.int .u64 (Une.dv c0 : Int))) rfl (congrArg (fun z => AV.lit (.int .u64 z)) (by rw [hd8, IntKind.wrap_u64]; omega)) ?_
          refine W.q (Ev.addw (.t rfl) (.t rfl)) rfl ?_
          refine W.is (t := 151) (g := true) (av' := .lit (.int .u64 (Une.val 10 (s.take (i + 1)) : Int))) rfl (congrArg (fun z => AV.lit (.int .u64 z)) (by rw [hvn, IntKind.wrap_u64]; omega)) ?_
          refine W.q (Ev.assign (.t rfl)) rfl ?_
          refine W.nil ?_
          refine W.then ?_
          refine W.seq ?_
          refine W.seq ?_
          refine W.region ?_
          refine W.q (Ev.move (.t rfl)) rfl ?_
          refine W.q (Ev.move (.t rfl)) rfl ?_
          refine W.q (Ev.lti (.t rfl) (.t rfl)) rfl ?_
          refine W.q (Ev.move (.t rfl)) rfl ?_
          refine W.qgF rfl rfl (Ev.move (.t rfl)) rfl ?_
          refine W.qgF rfl rfl (Ev.move (.t rfl)) rfl ?_
          refine W.qgF rfl rfl (Ev.gti (.c rfl) (.c rfl)) rfl ?_
          refine W.q (Ev.or (.t rfl) ⟨_, _, rfl, rfl, by first | (simp; done) | (intro hg_ hp_; simp [hp_]; done) | (simp <;> omega; done) | (simp_all; done) | grind⟩) rfl ?_
          refine W.nil ?_
          refine W.then ?_
          refine W.is (t := 159) (g := true) (av' := .lit (.bool false)) rfl (congrArg (fun b => AV.lit (.bool b)) (by simp; omega)) ?_
          refine W.condF (.t rfl) ?_
          refine W.skip ?_
          refine W.then ?_
          refine W.region ?_
          refine W.q (Ev.move (.t rfl)) rfl ?_
          refine W.q (Ev.assign (.t rfl)) rfl ?_
          refine W.nil ?_
          refine W.blk_normal ?_
          refine W.then ?_
          refine W.region ?_
          first | refine W.q (Ev.add (.t rfl) .k (fun _ => by omega)) rfl ?_ | refine W.q (Ev.addw (.t rfl) .k) rfl ?_
          refine W.q (Ev.move (.t rfl)) rfl ?_
          refine W.nil ?_
          refine W.then ?_
          refine W.reach (D := []) (i + 1) ⟨rfl, rfl, rfl, rfl, rfl, rfl, rfl, rfl, rfl, rfl, trivial⟩ (.refl _) ⟨⟨by omega, by rw [htk]; exact Une.okd_snoc _ _ _ hi2 hlt8⟩, by show s.length - (i + 1) < s.length - i; omega⟩
      · have hlw : ¬ (97 ≤ (c0 ||| 32).toNat ∧ (c0 ||| 32).toNat ≤ 122) := by intro h; rw [Bool.eq_false_iff] at hc_t121; apply hc_t121; simp only [Bool.and_eq_true, decide_eq_true_eq]; omega
        have hbad : Une.okd 10 s = false := Une.okd_bad 10 s c0 hm (by rw [Une.dv_no c0 hdg hlw]; decide)
        refine W.seq ?_
        refine W.region ?_
        refine W.q (Ev.mkif .k Tryd.underlying138 (by intro ms h; cases h)) rfl ?_
        refine W.q (Ev.assign .k) rfl ?_
        refine W.q (Ev.assign (.t rfl)) rfl ?_
        refine W.nil ?_
        refine W.then ?_
        refine W.ret ?_
        refine W.blk_ret ?_
        refine W.then_ret ?_
        refine W.blk_ret ?_
        refine W.then_ret ?_
        refine W.then_ret ?_
        refine W.blk_ret ?_
        refine W.then_ret ?_
        refine W.retn (M' := []) (D := _) (rs := [.tmp 6, .tmp 7]) (avs := [_, _]) Tryd.results82 ⟨rfl, rfl, trivial⟩ rfl (.refl _) ?_
        first | (exact ⟨by unfold Une.pu; exact (if_neg (by rw [hbad]; decide)).symm, rfl⟩) | exact ⟨by unfold Une.pu; exact (if_pos hi2).symm, rfl⟩
  · rw [hend, List.take_length] at hi2
    rw [hend, List.take_length]
    refine W.seq ?_
    refine W.region ?_
    refine W.q (Ev.lti (.t rfl) (.t rfl)) rfl ?_
    refine W.nil ?_
    refine W.then ?_
    refine W.seq ?_
    refine W.is (t := 102) (g := true) (av' := .lit (.bool false)) rfl (congrArg (fun b => AV.lit (.bool b)) (by exact decide_eq_false (by omega))) ?_
    refine W.condF (.t rfl) ?_
    refine W.exit ?_
    refine W.then_exit ?_
    refine W.then_exit ?_
    refine W.blk_hit ?_
    refine W.then ?_
    refine W.seq ?_
    refine W.seq ?_
    refine W.region ?_
    refine W.q (Ev.move (.t rfl)) rfl ?_
    refine W.q (Ev.move (.t rfl)) rfl ?_
    refine W.gnob rfl rfl (by simp) rfl ?_
    refine W.gnob rfl rfl (by simp) rfl ?_
    refine W.gnob rfl rfl (by simp) rfl ?_
    refine W.q (Ev.and (.t rfl) ⟨_, _, rfl, rfl, by first | (simp; done) | (intro hg_ hp_; simp [hp_]; done) | (simp <;> omega; done) | (simp_all; done) | grind⟩) rfl ?_
    refine W.nil ?_
    refine W.then ?_
    refine W.is (t := 169) (g := true) (av' := .lit (.bool false)) rfl (congrArg (fun b => AV.lit (.bool b)) (by simp)) ?_
    refine W.condF (.t rfl) ?_
    refine W.skip ?_
    refine W.then ?_
    refine W.seq ?_
    refine W.region ?_
    refine W.q (Ev.move (.t rfl)) rfl ?_
    refine W.q (Ev.assign (.t rfl)) rfl ?_
    refine W.q (Ev.assign .k) rfl ?_
    refine W.nil ?_
    refine W.then ?_
    refine W.ret ?_
    refine W.retn (M' := []) (D := _) (rs := [.tmp 6, .tmp 7]) (avs := [_, _]) Tryd.results82 ⟨rfl, rfl, trivial⟩ rfl (.refl _) ?_
    first | (exact ⟨by unfold Une.pu; exact (if_neg (by rw [hbad]; decide)).symm, rfl⟩) | exact ⟨by unfold Une.pu; exact (if_pos hi2).symm, rfl⟩

set_option maxHeartbeats 1600000 in
theorem c_PU16 (s : List UInt8) (hne : s ≠ []) (hl : s.length ≤ 7) (hu : ∀ c ∈ s, c ≠ 95) : FnP Tryd.prog 82 [.str s, .int 16, .int 64] (Une.pu 138 16 s) :=  by
  refine FnC.mk Tryd.func82 (by kernel_rfl) rfl Tryd.ntmps82 rfl (fun w0 F => ?_)
  have hml : (s.map AV.u8).length = s.length := List.length_map ..
  refine W.seq ?_
  refine W.region ?_
  refine W.q (Ev.assign .k) rfl ?_
  refine W.q (Ev.assign .k) rfl ?_
  refine W.nil ?_
  refine W.then ?_
  refine W.seq ?_
  refine W.seq ?_
  refine W.region ?_
  refine W.q (Ev.move (.t rfl)) rfl ?_
  refine W.q (Ev.eqs (.t rfl) .k) rfl ?_
  refine W.nil ?_
  refine W.then ?_
  refine W.is (t := 19) (g := true) (av' := .lit (.bool false)) rfl (congrArg (fun b => AV.lit (.bool b)) (by simp [hne])) ?_
  refine W.condF (.t rfl) ?_
  refine W.skip ?_
  refine W.then ?_
  refine W.seq ?_
  refine W.region ?_
  refine W.q (Ev.move (.t rfl)) rfl ?_
  refine W.q (Ev.eqi (.t rfl) .k) rfl ?_
  refine W.q (Ev.assign (.t rfl)) rfl ?_
  refine W.nil ?_
  refine W.then ?_
  refine W.seq ?_
  refine W.region ?_
  refine W.q (Ev.move (.t rfl)) rfl ?_
  refine W.q (Ev.assign (.t rfl)) rfl ?_
  refine W.nil ?_
  refine W.then ?_
  refine W.seq ?_
  refine W.block ?_
  refine W.seq ?_
  refine W.region ?_
  refine W.q (Ev.move (.t rfl)) rfl ?_
  refine W.q (Ev.lei .k (.t rfl)) rfl ?_
  refine W.q (Ev.move (.t rfl)) rfl ?_
  refine W.qgT rfl rfl (Ev.move (.t rfl)) rfl ?_
  refine W.qgT rfl rfl (Ev.lei (.c rfl) .k) rfl ?_
  refine W.q (Ev.and (.t rfl) ⟨_, _, rfl, rfl, by first | (simp; done) | (intro hg_ hp_; simp [hp_]; done) | (simp <;> omega; done) | (simp_all; done) | grind⟩) rfl ?_
  refine W.q (Ev.assign (.t rfl)) rfl ?_
  refine W.nil ?_
  refine W.then ?_
  refine W.is (t := 25) (g := true) (av' := .lit (.bool true)) rfl (congrArg (fun b => AV.lit (.bool b)) (by decide)) ?_
  refine W.condT (.t rfl) ?_
  refine W.skip ?_
  refine W.blk_normal ?_
  refine W.then ?_
  refine W.seq ?_
  refine W.seq ?_
  refine W.region ?_
  refine W.q (Ev.move (.t rfl)) rfl ?_
  refine W.q (Ev.eqi (.t rfl) .k) rfl ?_
  refine W.nil ?_
  refine W.then ?_
  refine W.is (t := 77) (g := true) (av' := .lit (.bool false)) rfl (congrArg (fun b => AV.lit (.bool b)) (by decide)) ?_
  refine W.condF (.t rfl) ?_
  refine W.seq ?_
  refine W.region ?_
  refine W.q (Ev.move (.t rfl)) rfl ?_
  refine W.q (Ev.lti (.t rfl) .k) rfl ?_
  refine W.q (Ev.move (.t rfl)) rfl ?_
  refine W.qgF rfl rfl (Ev.move (.t rfl)) rfl ?_
  refine W.qgF rfl rfl (Ev.gti (.c rfl) .k) rfl ?_
  refine W.q (Ev.or (.t rfl) ⟨_, _, rfl, rfl, by first | (simp; done) | (intro hg_ hp_; simp [hp_]; done) | (simp <;> omega; done) | (simp_all; done) | grind⟩) rfl ?_
  refine W.nil ?_
  refine W.then ?_
  refine W.is (t := 83) (g := true) (av' := .lit (.bool false)) rfl (congrArg (fun b => AV.lit (.bool b)) (by decide)) ?_
  refine W.condF (.t rfl) ?_
  refine W.skip ?_
  refine W.then ?_
  refine W.seq ?_
  refine W.region ?_
  refine W.q (Ev.assign .k) rfl ?_
  refine W.nil ?_
  refine W.then ?_
  refine W.seq ?_
  refine W.seq ?_
  refine W.region ?_
  refine W.q (Ev.move (.t rfl)) rfl ?_
  refine W.nil ?_
  refine W.then ?_
  refine W.block ?_
  refine W.seq ?_
  refine W.region ?_
  refine W.q (Ev.eqi (.t rfl) .k) rfl ?_
  refine W.q (Ev.assign (.t rfl)) rfl ?_
  refine W.nil ?_
  refine W.then ?_
  refine W.is (t := 90) (g := true) (av' := .lit (.bool false)) rfl (congrArg (fun b => AV.lit (.bool b)) (by decide)) ?_
  refine W.condF (.t rfl) ?_
  refine W.seq ?_
  refine W.region ?_
  refine W.q (Ev.eqi (.t rfl) .k) rfl ?_
  refine W.q (Ev.assign (.t rfl)) rfl ?_
  refine W.nil ?_
  refine W.then ?_
  refine W.is (t := 92) (g := true) (av' := .lit (.bool true)) rfl (congrArg (fun b => AV.lit (.bool b)) (by decide)) ?_
  refine W.condT (.t rfl) ?_
  refine W.region ?_
  refine W.q (Ev.assign .k) rfl ?_
  refine W.nil ?_
  refine W.blk_normal ?_
  refine W.then ?_
  refine W.seq ?_
  refine W.region ?_
  refine W.q (Ev.move (.t rfl)) rfl ?_
  refine W.q (Ev.conv (.t rfl) ⟨_, Tryd.underlying3⟩ Tryd.underlying119) rfl ?_
  refine W.q (Ev.shlw (c := 64) .k (.t rfl) (by decide) (by decide)) rfl ?_
  refine W.q (Ev.subw (.t rfl) .k) rfl ?_
  refine W.is (t := 97) (g := true) (av' := .lit (.int .u64 18446744073709551615)) rfl (congrArg (fun z => AV.lit (.int .u64 z)) (by decide)) ?_
  refine W.q (Ev.assign (.t rfl)) rfl ?_
  refine W.nil ?_
  refine W.then ?_
  refine W.seq ?_
  refine W.region ?_
  refine W.q (Ev.assign .k) rfl ?_
  refine W.nil ?_
  refine W.then ?_
  refine W.seq ?_
  refine W.region ?_
  refine W.q (Ev.assign .k) rfl ?_
  refine W.nil ?_
  refine W.then ?_
  refine W.seq ?_
  refine W.seq ?_
  refine W.region ?_
  refine W.q (Ev.move (.t rfl)) rfl ?_
  refine W.s2b (.t rfl) Tryd.underlying9 Tryd.underlying46 Tryd.underlying5 (by omega) rfl ?_
  intro v99
  refine W.arr_inv 0 rfl (fun a99 n99 c99 h99 => ?_)
  subst h99
  obtain ⟨v, hv⟩ : ∃ v, Value.slice a99 n99 c99 = v := ⟨_, rfl⟩
  rw [hv]
  first | refine W.q (Ev.lensl (.t rfl) Tryd.underlying46) rfl ?_ | refine W.q (Ev.lenar (i := 0) (.t rfl) rfl Tryd.underlying46) rfl ?_ | refine W.q (Ev.lenar (i := 1) (.t rfl) rfl Tryd.underlying46) rfl ?_ | refine W.q (Ev.lenar (i := 2) (.t rfl) rfl Tryd.underlying46) rfl ?_ | refine W.q (Ev.lenar (i := 3) (.t rfl) rfl Tryd.underlying46) rfl ?_
  refine W.q (Ev.move .k) rfl ?_
  refine W.nil ?_
  refine W.then ?_
  refine W.block ?_
  refine W.loop (D := []) (ι := Nat) (fun i => [(101, true, .int (i : Int)), (100, true, .int ((s.map AV.u8).length : Int)), (99, true, .lit v), (13, true, .lit (.int .u64 (Une.val 16 (s.take i) : Int))), (10, true, .lit (.int .u64 1152921504606846976)), (11, true, .lit (.int .u64 18446744073709551615)), (1, true, .int 16), (12, true, .bool false), (8, true, .bool false), (9, true, .str s)]) (fun i => [.arr v 5 1 (s.map AV.u8)]) (fun i => i ≤ s.length ∧ Une.okd 16 (s.take i) = true) (fun i => s.length - i) 0 ⟨rfl, rfl, rfl, rfl, rfl, rfl, rfl, rfl, rfl, rfl, trivial⟩ (.refl _) ⟨Nat.zero_le _, rfl⟩ ?_
  rintro i ⟨hi, hi2⟩
  dsimp only at hi hi2 ⊢
  rcases (show i < s.length ∨ i = s.length from by omega) with hlt | hend
  · obtain ⟨c0, hc0⟩ : ∃ c, s.getD i 0 = c := ⟨_, rfl⟩
    have hm : c0 ∈ s := by rw [← hc0]; exact getD_memG 0 s i hlt
    have htk := take_getDG 0 s i hlt
    rw [hc0] at htk
    have hga : (s.map AV.u8)[i]? = some (AV.u8 c0) := by rw [List.getElem?_map, List.getElem?_eq_getElem hlt, ← hc0, List.getD_eq_getElem?_getD, List.getElem?_eq_getElem hlt]; rfl
    have h95 : c0.toNat ≠ 95 := fun h => hu c0 hm (UInt8.toNat_inj.1 h)
    have hvs := Une.val_small 16 (by decide) (s.take i) (by rw [List.length_take]; omega) hi2
    have hvn : Une.val 16 (s.take (i + 1)) = Une.val 16 (s.take i) * 16 + Une.dv c0 := by rw [htk, Une.val_snoc]
    refine W.seq ?_
    refine W.region ?_
    refine W.q (Ev.lti (.t rfl) (.t rfl)) rfl ?_
    refine W.nil ?_
    refine W.then ?_
    refine W.seq ?_
    refine W.is (t := 102) (g := true) (av' := .lit (.bool true)) rfl (congrArg (fun b => AV.lit (.bool b)) (by exact decide_eq_true (by omega))) ?_
    refine W.condT (.t rfl) ?_
    refine W.skip ?_
    refine W.then ?_
    refine W.seq ?_
    refine W.block ?_
    refine W.seq ?_
    refine W.region ?_
    refine W.q (Ev.ata 0 (.t rfl) rfl (.t rfl) Tryd.underlying46 ty5 (fun _ => by rw [hml]; omega)) rfl ?_
    refine W.q (Ev.lda1 0 i 0 (.t rfl) rfl hga (by omega) rfl rfl rfl ag5) rfl ?_
    refine W.q (Ev.assign (.t rfl)) rfl ?_
    refine W.nil ?_
    refine W.then ?_
    refine W.seq ?_
    refine W.region ?_
    refine W.q (Ev.assign .k) rfl ?_
    refine W.nil ?_
    refine W.then ?_
    refine W.seq ?_
    refine W.block ?_
    refine W.seq ?_
    refine W.region ?_
    refine W.q (Ev.move (.t rfl)) rfl ?_
    refine W.q (Ev.eqi (.t rfl) .k) rfl ?_
    refine W.q (Ev.move (.t rfl)) rfl ?_
    refine W.qgT rfl rfl (Ev.move (.t rfl)) rfl ?_
    refine W.q (Ev.and (.t rfl) ⟨_, _, rfl, rfl, by first | (simp; done) | (intro hg_ hp_; simp [hp_]; done) | (simp <;> omega; done) | (simp_all; done) | grind⟩) rfl ?_
    refine W.q (Ev.assign (.t rfl)) rfl ?_
    refine W.nil ?_
    refine W.then ?_
    refine W.is (t := 106) (g := true) (av' := .lit (.bool false)) rfl (congrArg (fun b => AV.lit (.bool b)) (by simp)) ?_
    refine W.condF (.t rfl) ?_
    refine W.seq ?_
    refine W.region ?_
    refine W.q (Ev.move (.t rfl)) rfl ?_
    refine W.q (Ev.lei .k (.t rfl)) rfl ?_
    refine W.q (Ev.move (.t rfl)) rfl ?_
    refine W.qgT rfl rfl (Ev.move (.t rfl)) rfl ?_
    refine W.qgT rfl rfl (Ev.lei (.c rfl) .k) rfl ?_
    refine W.q (Ev.and (.t rfl) ⟨_, _, rfl, rfl, by first | (simp; done) | (intro hg_ hp_; simp [hp_]; done) | (simp <;> omega; done) | (simp_all; done) | grind⟩) rfl ?_
    refine W.q (Ev.assign (.t rfl)) rfl ?_
    refine W.nil ?_
    refine W.then ?_
    refine W.cond (.t rfl) (fun hc_t112 => ?_) (fun hc_t112 => ?_)
    · have hdg : 48 ≤ c0.toNat ∧ c0.toNat ≤ 57 := by simp only [Bool.and_eq_true, decide_eq_true_eq] at hc_t112; omega
      refine W.region ?_
      refine W.q (Ev.move (.t rfl)) rfl ?_
      refine W.q (Ev.subw (.t rfl) .k) rfl ?_
      obtain ⟨d8, hd8⟩ : ∃ z : Int, z = (Une.dv c0 : Int) := ⟨_, rfl⟩
      refine W.is (t := 120) (g := true) (av' := .lit (.int .u8 d8)) rfl (congrArg (fun z => AV.lit (.int .u8 z)) (by rw [hd8, Une.dv_dig c0 hdg, IntKind.wrap_u8]; omega)) ?_
      refine W.q (Ev.assign (.t rfl)) rfl ?_
      refine W.nil ?_
      refine W.blk_normal ?_
      refine W.then ?_
      refine W.seq ?_
      refine W.seq ?_
      refine W.region ?_
      refine W.q (Ev.move (.t rfl)) rfl ?_
      refine W.q (Ev.move (.t rfl)) rfl ?_
      refine W.q (Ev.conv (.t rfl) ⟨_, Tryd.underlying3⟩ Tryd.underlying5) rfl ?_
      refine W.is (t := 136) (g := true) (av' := .lit (.int .u8 16)) rfl (congrArg (fun z => AV.lit (.int .u8 z)) (by decide)) ?_
      refine W.q (Ev.gei (.t rfl) (.t rfl)) rfl ?_
      refine W.nil ?_
      refine W.then ?_
      refine W.cond (.t rfl) (fun hc_t137 => ?_) (fun hc_t137 => ?_)
      · have hbad : Une.okd 16 s = false := Une.okd_bad 16 s c0 hm (by have h := of_decide_eq_true hc_t137; rw [hd8] at h; omega)
        refine W.seq ?_
        refine W.region ?_
        refine W.q (Ev.mkif .k Tryd.underlying138 (by intro ms h; cases h)) rfl ?_
        refine W.q (Ev.assign .k) rfl ?_
        refine W.q (Ev.assign (.t rfl)) rfl ?_
        refine W.nil ?_
        refine W.then ?_
        refine W.ret ?_
        refine W.then_ret ?_
        refine W.blk_ret ?_
        refine W.then_ret ?_
        refine W.then_ret ?_
        refine W.blk_ret ?_
        refine W.then_ret ?_
        refine W.retn (M' := []) (D := _) (rs := [.tmp 6, .tmp 7]) (avs := [_, _]) Tryd.results82 ⟨rfl, rfl, trivial⟩ rfl (.refl _) ?_
        first | (exact ⟨by unfold Une.pu; exact (if_neg (by rw [hbad]; decide)).symm, rfl⟩) | exact ⟨by unfold Une.pu; exact (if_pos hi2).symm, rfl⟩
      · have hlt8 : Une.dv c0 < 16 := by have h := of_decide_eq_false hc_t137; rw [hd8] at h; omega
        refine W.skip ?_
        refine W.then ?_
        refine W.seq ?_
        refine W.seq ?_
        refine W.region ?_
        refine W.q (Ev.move (.t rfl)) rfl ?_
        refine W.q (Ev.move (.t rfl)) rfl ?_
        refine W.q (Ev.gei (.t rfl) (.t rfl)) rfl ?_
        refine W.nil ?_
        refine W.then ?_
        refine W.is (t := 141) (g := true) (av' := .lit (.bool false)) rfl (congrArg (fun b => AV.lit (.bool b)) (by exact decide_eq_false (by omega))) ?_
        refine W.condF (.t rfl) ?_
        refine W.skip ?_
        refine W.then ?_
        refine W.seq ?_
        refine W.region ?_
        refine W.q (Ev.move (.t rfl)) rfl ?_
        refine W.q (Ev.move (.t rfl)) rfl ?_
        refine W.q (Ev.conv (.t rfl) ⟨_, Tryd.underlying3⟩ Tryd.underlying139) rfl ?_
        refine W.is (t := 146) (g := true) (av' := .lit (.int .u64 16)) rfl (congrArg (fun z => AV.lit (.int .u64 z)) (by decide)) ?_
        refine W.q (Ev.mulw (.t rfl) (.t rfl)) rfl ?_
        refine W.is (t := 147) (g := true) (av' := .lit (.int .u64 ((Une.val 16 (s.take i) : Int) * 16))) rfl (congrArg (fun z => AV.lit (.int .u64 z)) (by rw [IntKind.wrap_u64]; omega)) ?_
        refine W.q (Ev.assign (.t rfl)) rfl ?_
        refine W.nil ?_
        refine W.then ?_
        refine W.seq ?_
        refine W.region ?_
        refine W.q (Ev.move (.t rfl)) rfl ?_
        refine W.q (Ev.move (.t rfl)) rfl ?_
        refine W.q (Ev.conv (.t rfl) ⟨_, Tryd.underlying5⟩ Tryd.underlying139) rfl ?_
        refine W.is (t := 150) (g := true) (av' := .lit (.int .u64 (Une.dv c0 : Int))) rfl (congrArg (fun z => AV.lit (.int .u64 z)) (by rw [hd8, IntKind.wrap_u64]; omega)) ?_
        refine W.q (Ev.addw (.t rfl) (.t rfl)) rfl ?_
        refine W.is (t := 151) (g := true) (av' := .lit (.int .u64 (Une.val 16 (s.take (i + 1)) : Int))) rfl (congrArg (fun z => AV.lit (.int .u64 z)) (by rw [hvn, IntKind.wrap_u64]; omega)) ?_
        refine W.q (Ev.assign (.t rfl)) rfl ?_
        refine W.nil ?_
        refine W.then ?_
        refine W.seq ?_
        refine W.seq ?_
        refine W.region ?_
        refine W.q (Ev.move (.t rfl)) rfl ?_
        refine W.q (Ev.move (.t rfl)) rfl ?_
        refine W.q (Ev.lti (.t rfl) (.t rfl)) rfl ?_
        refine W.q (Ev.move (.t rfl)) rfl ?_
        refine W.qgF rfl rfl (Ev.move (.t rfl)) rfl ?_
        refine W.qgF rfl rfl (Ev.move (.t rfl)) rfl ?_
        refine W.qgF rfl rfl (Ev.gti (.c rfl) (.c rfl)) rfl ?_
        refine W.q (Ev.or (.t rfl) ⟨_, _, rfl, rfl, by first | (simp; done) | (intro hg_ hp_; simp [hp_]; done) | (simp <;> omega; done) | (simp_all; done) | grind⟩) rfl ?_
        refine W.nil ?_
        refine W.then ?_
        refine W.is (t := 159) (g := true) (av' := .lit (.bool false)) rfl (congrArg (fun b => AV.lit (.bool b)) (by simp; omega)) ?_
        refine W.condF (.t rfl) ?_
        refine W.skip ?_
        refine W.then ?_
        refine W.region ?_
        refine W.q (Ev.move (.t rfl)) rfl ?_
        refine W.q (Ev.assign (.t rfl)) rfl ?_
        refine W.nil ?_
        refine W.blk_normal ?_
        refine W.then ?_
        refine W.region ?_
        first | refine W.q (Ev.add (.t rfl) .k (fun _ => by omega)) rfl ?_ | refine W.q (Ev.addw (.t rfl) .k) rfl ?_
        refine W.q (Ev.move (.t rfl)) rfl ?_
        refine W.nil ?_
        refine W.then ?_
        refine W.reach (D := []) (i + 1) ⟨rfl, rfl, rfl, rfl, rfl, rfl, rfl, rfl, rfl, rfl, trivial⟩ (.refl _) ⟨⟨by omega, by rw [htk]; exact Une.okd_snoc _ _ _ hi2 hlt8⟩, by show s.length - (i + 1) < s.length - i; omega⟩
    · have hdg : ¬ (48 ≤ c0.toNat ∧ c0.toNat ≤ 57) := by intro h; rw [Bool.eq_false_iff] at hc_t112; apply hc_t112; simp only [Bool.and_eq_true, decide_eq_true_eq]; omega
      refine W.seq ?_
      refine W.region ?_
      refine W.q (Ev.move (.t rfl)) rfl ?_
      refine W.callp (c_lower c0) ⟨(.t rfl), trivial⟩ rfl ?_
      refine W.q (Ev.lei .k (.t rfl)) rfl ?_
      refine W.q (Ev.move (.t rfl)) rfl ?_
      refine W.qgT rfl rfl (Ev.move (.t rfl)) rfl ?_
      refine W.callgT (Min := []) (caps := []) (avs := [_]) rfl rfl (fun hg => c_lower c0) (fun hg => .f) (fun hg => ⟨(.i rfl (fun _ => hg)), trivial⟩) rfl (.refl _) rfl ?_
      refine W.qgT rfl rfl (Ev.lei (.c rfl) .k) rfl ?_
      refine W.q (Ev.and (.t rfl) ⟨_, _, rfl, rfl, by first | (simp; done) | (intro hg_ hp_; simp [hp_]; done) | (simp <;> omega; done) | (simp_all; done) | grind⟩) rfl ?_
      refine W.q (Ev.assign (.t rfl)) rfl ?_
      refine W.nil ?_
      refine W.then ?_
      refine W.cond (.t rfl) (fun hc_t121 => ?_) (fun hc_t121 => ?_)
      · have hlw : 97 ≤ (c0 ||| 32).toNat ∧ (c0 ||| 32).toNat ≤ 122 := by simp only [Bool.and_eq_true, decide_eq_true_eq] at hc_t121; omega
        refine W.region ?_
        refine W.q (Ev.move (.t rfl)) rfl ?_
        refine W.callp (c_lower c0) ⟨(.t rfl), trivial⟩ rfl ?_
        refine W.q (Ev.subw (.t rfl) .k) rfl ?_
        refine W.q (Ev.addw (.t rfl) .k) rfl ?_
        obtain ⟨d8, hd8⟩ : ∃ z : Int, z = (Une.dv c0 : Int) := ⟨_, rfl⟩
        refine W.is (t := 133) (g := true) (av' := .lit (.int .u8 d8)) rfl (congrArg (fun z => AV.lit (.int .u8 z)) (by rw [hd8, Une.dv_let c0 hdg hlw, IntKind.wrap_u8, IntKind.wrap_u8]; omega)) ?_
        refine W.q (Ev.assign (.t rfl)) rfl ?_
        refine W.nil ?_
        refine W.blk_normal ?_
        refine W.then ?_
        refine W.seq ?_
        refine W.seq ?_
        refine W.region ?_
        refine W.q (Ev.move (.t rfl)) rfl ?_
        refine W.q (Ev.move (.t rfl)) rfl ?_
        refine W.q (Ev.conv (.t rfl) ⟨_, Tryd.underlying3⟩ Tryd.underlying5) rfl ?_
        refine W.is (t := 136) (g := true) (av' := .lit (.int .u8 16)) rfl (congrArg (fun z => AV.lit (.int .u8 z)) (by decide)) ?_
        refine W.q (Ev.gei (.t rfl) (.t rfl)) rfl ?_
        refine W.nil ?_
        refine W.then ?_
        refine W.cond (.t rfl) (fun hc_t137 => ?_) (fun hc_t137 => ?_)
        · have hbad : Une.okd 16 s = false := Une.okd_bad 16 s c0 hm (by have h := of_decide_eq_true hc_t137; rw [hd8] at h; omega)
          refine W.seq ?_
          refine W.region ?_
          refine W.q (Ev.mkif .k Tryd.underlying138 (by intro ms h; cases h)) rfl ?_
          refine W.q (Ev.assign .k) rfl ?_
          refine W.q (Ev.assign (.t rfl)) rfl ?_
          refine W.nil ?_
          refine W.then ?_
          refine W.ret ?_
          refine W.then_ret ?_
          refine W.blk_ret ?_
          refine W.then_ret ?_
          refine W.then_ret ?_
          refine W.blk_ret ?_
          refine W.then_ret ?_
          refine W.retn (M' := []) (D := _) (rs := [.tmp 6, .tmp 7]) (avs := [_, _]) Tryd.results82 ⟨rfl, rfl, trivial⟩ rfl (.refl _) ?_
          first | (exact ⟨by unfold Une.pu; exact (if_neg (by rw [hbad]; decide)).symm, rfl⟩) | exact ⟨by unfold Une.pu; exact (if_pos hi2).symm, rfl⟩
        · have hlt8 : Une.dv c0 < 16 := by have h := of_decide_eq_false hc_t137; rw [hd8] at h; omega
          refine W.skip ?_
          refine W.then ?_
          refine W.seq ?_
          refine W.seq ?_
          refine W.region ?_
          refine W.q (Ev.move (.t rfl)) rfl ?_
          refine W.q (Ev.move (.t rfl)) rfl ?_
          refine W.q (Ev.gei (.t rfl) (.t rfl)) rfl ?_
          refine W.nil ?_
          refine W.then ?_
          refine W.is (t := 141) (g := true) (av' := .lit (.bool false)) rfl (congrArg (fun b => AV.lit (.bool b)) (by exact decide_eq_false (by omega))) ?_
          refine W.condF (.t rfl) ?_
          refine W.skip ?_
          refine W.then ?_
          refine W.seq ?_
          refine W.region ?_
          refine W.q (Ev.move (.t rfl)) rfl ?_
          refine W.q (Ev.move (.t rfl)) rfl ?_
          refine W.q (Ev.conv (.t rfl) ⟨_, Tryd.underlying3⟩ Tryd.underlying139) rfl ?_
          refine W.is (t := 146) (g := true) (av' := .lit (.int .u64 16)) rfl (congrArg (fun z => AV.lit (.int .u64 z)) (by decide)) ?_
          refine W.q (Ev.mulw (.t rfl) (.t rfl)) rfl ?_
          refine W.is (t := 147) (g := true) (av' := .lit (.int .u64 ((Une.val 16 (s.take i) : Int) * 16))) rfl (congrArg (fun z => AV.lit (.int .u64 z)) (by rw [IntKind.wrap_u64]; omega)) ?_
          refine W.q (Ev.assign (.t rfl)) rfl ?_
          refine W.nil ?_
          refine W.then ?_
          refine W.seq ?_
          refine W.region ?_
          refine W.q (Ev.move (.t rfl)) rfl ?_
          refine W.q (Ev.move (.t rfl)) rfl ?_
          refine W.q (Ev.conv (.t rfl) ⟨_, Tryd.underlying5⟩ Tryd.underlying139) rfl ?_
          refine W.is (t := 150) (g := true) (av' := .lit (.int .u64 (Une.dv c0 : Int))) rfl (congrArg (fun z => AV.lit (.int .u64 z)) (by rw [hd8, IntKind.wrap_u64]; omega)) ?_
          refine W.q (Ev.addw (.t rfl) (.t rfl)) rfl ?_
          refine W.is (t := 151) (g := true) (av' := .lit (.int .u64 (Une.val 16 (s.take (i + 1)) : Int))) rfl (congrArg (fun z => AV.lit (.int .u64 z)) (by rw [hvn, IntKind.wrap_u64]; omega)) ?_
          refine W.q (Ev.assign (.t rfl)) rfl ?_
          refine W.nil ?_
          refine W.then ?_
          refine W.seq ?_
          refine W.seq ?_
          refine W.region ?_
          refine W.q (Ev.move (.t rfl)) rfl ?_
          refine W.q (Ev.move (.t rfl)) rfl ?_
          refine W.q (Ev.lti (.t rfl) (.t rfl)) rfl ?_
          refine W.q (Ev.move (.t rfl)) rfl ?_
          refine W.qgF rfl rfl (Ev.move (.t rfl)) rfl ?_
          refine W.qgF rfl rfl (Ev.move (.t rfl)) rfl ?_
          refine W.qgF rfl rfl (Ev.gti (.c rfl) (.c rfl)) rfl ?_
          refine W.q (Ev.or (.t rfl) ⟨_, _, rfl, rfl, by first | (simp; done) | (intro hg_ hp_; simp [hp_]; done) | (simp <;> omega; done) | (simp_all; done) | grind⟩) rfl ?_
          refine W.nil ?_
          refine W.then ?_
          refine W.is (t := 159) (g := true) (av' := .lit (.bool false)) rfl (congrArg (fun b => AV.lit (.bool b)) (by simp; omega)) ?_
          refine W.condF (.t rfl) ?_
          refine W.skip ?_
          refine W.then ?_
          refine W.region ?_
          refine W.q (Ev.move (.t rfl)) rfl ?_
          refine W.q (Ev.assign (.t rfl)) rfl ?_
          refine W.nil ?_
          refine W.blk_normal ?_
          refine W.then ?_
          refine W.region ?_
          first | refine W.q (Ev.add (.t rfl) .k (fun _ => by omega)) rfl ?_ | refine W.q (Ev.addw (.t rfl) .k) rfl ?_
          refine W.q (Ev.move (.t rfl)) rfl ?_
          refine W.nil ?_
          refine W.then ?_
          refine W.reach (D := []) (i + 1) ⟨rfl, rfl, rfl, rfl, rfl, rfl, rfl, rfl, rfl, rfl, trivial⟩ (.refl _) ⟨⟨by omega, by rw [htk]; exact Une.okd_snoc _ _ _ hi2 hlt8⟩, by show s.length - (i + 1) < s.length - i; omega⟩
      · have hlw : ¬ (97 ≤ (c0 ||| 32).toNat ∧ (c0 ||| 32).toNat ≤ 122) := by intro h; rw [Bool.eq_false_iff] at hc_t121; apply hc_t121; simp only [Bool.and_eq_true, decide_eq_true_eq]; omega
        have hbad : Une.okd 16 s = false := Une.okd_bad 16 s c0 hm (by rw [Une.dv_no c0 hdg hlw]; decide)
        refine W.seq ?_
        refine W.region ?_
        refine W.q (Ev.mkif .k Tryd.underlying138 (by intro ms h; cases h)) rfl ?_
        refine W.q (Ev.assign .k) rfl ?_
        refine W.q (Ev.assign (.t rfl)) rfl ?_
        refine W.nil ?_
        refine W.then ?_
        refine W.ret ?_
        refine W.blk_ret ?_
        refine W.then_ret ?_
        refine W.blk_ret ?_
        refine W.then_ret ?_
        refine W.then_ret ?_
        refine W.blk_ret ?_
        refine W.then_ret ?_
        refine W.retn (M' := []) (D := _) (rs := [.tmp 6, .tmp 7]) (avs := [_, _]) Tryd.results82 ⟨rfl, rfl, trivial⟩ rfl (.refl _) ?_
        first | (exact ⟨by unfold Une.pu; exact (if_neg (by rw [hbad]; decide)).symm, rfl⟩) | exact ⟨by unfold Une.pu; exact (if_pos hi2).symm, rfl⟩
  · rw [hend, List.take_length] at hi2
    rw [hend, List.take_length]
    refine W.seq ?_
    refine W.region ?_
    refine W.q (Ev.lti (.t rfl) (.t rfl)) rfl ?_
    refine W.nil ?_
    refine W.then ?_
    refine W.seq ?_
    refine W.is (t := 102) (g := true) (av' := .lit (.bool false)) rfl (congrArg (fun b => AV.lit (.bool b)) (by exact decide_eq_false (by omega))) ?_
    refine W.condF (.t rfl) ?_
    refine W.exit ?_
    refine W.then_exit ?_
    refine W.then_exit ?_
    refine W.blk_hit ?_
    refine W.then ?_
    refine W.seq ?_
    refine W.seq ?_
    refine W.region ?_
    refine W.q (Ev.move (.t rfl)) rfl ?_
    refine W.q (Ev.move (.t rfl)) rfl ?_
    refine W.gnob rfl rfl (by simp) rfl ?_
    refine W.gnob rfl rfl (by simp) rfl ?_
    refine W.gnob rfl rfl (by simp) rfl ?_
    refine W.q (Ev.and (.t rfl) ⟨_, _, rfl, rfl, by first | (simp; done) | (intro hg_ hp_; simp [hp_]; done) | (simp <;> omega; done) | (simp_all; done) | grind⟩) rfl ?_
    refine W.nil ?_
    refine W.then ?_
    refine W.is (t := 169) (g := true) (av' := .lit (.bool false)) rfl (congrArg (fun b => AV.lit (.bool b)) (by simp)) ?_
    refine W.condF (.t rfl) ?_
    refine W.skip ?_
    refine W.then ?_
    refine W.seq ?_
    refine W.region ?_
    refine W.q (Ev.move (.t rfl)) rfl ?_
    refine W.q (Ev.assign (.t rfl)) rfl ?_
    refine W.q (Ev.assign .k) rfl ?_
    refine W.nil ?_
    refine W.then ?_
    refine W.ret ?_
    refine W.retn (M' := []) (D := _) (rs := [.tmp 6, .tmp 7]) (avs := [_, _]) Tryd.results82 ⟨rfl, rfl, trivial⟩ rfl (.refl _) ?_
    first | (exact ⟨by unfold Une.pu; exact (if_neg (by rw [hbad]; decide)).symm, rfl⟩) | exact ⟨by unfold Une.pu; exact (if_pos hi2).symm, rfl⟩

end WDig

end Go.Proofs.YtohncieijjhnjaaDoor
end

section
set_option linter.unusedVariables false
set_option linter.unusedSimpArgs false
set_option maxRecDepth 100000
namespace Go.Proofs.YtohncieijjhnjaaDoor
open Go.Vl

namespace WInts

theorem c_PI101 (s : List UInt8) (hne : s ≠ []) (hl : s.length ≤ 7) (hu : s.any Une.sgn = false) (hok : Une.okd 10 s = true) : FnP Tryd.prog 71 [.str s, .int 10, .int 64] (.tup [.lit (.int .i64 (Une.val 10 s : Int)), .lit .nilIface]) :=  by
  refine FnC.mk Tryd.func71 (by kernel_rfl) rfl Tryd.ntmps71 rfl (fun w0 F => ?_)
  obtain ⟨c0, hc0⟩ : ∃ c, s.getD 0 0 = c := ⟨_, rfl⟩
  have hlt : 0 < s.length := by cases s; exact absurd rfl hne; simp
  have hm : c0 ∈ s := by rw [← hc0]; exact getD_memG 0 s 0 hlt
  have hs0 := List.any_eq_false.1 hu c0 hm
  have h43 : c0.toNat ≠ 43 := fun h => hs0 (by rw [show c0 = 43 from UInt8.toNat_inj.1 h]; rfl)
  have h45 : c0.toNat ≠ 45 := fun h => hs0 (by rw [show c0 = 45 from UInt8.toNat_inj.1 h]; rfl)
  have hPU := WDig.c_PU10 s hne hl (fun c hc e => List.any_eq_false.1 hu c hc (by rw [e]; rfl))
  rw [show Une.pu 138 10 s = (.tup [.lit (.int .u64 (Une.val 10 s : Int)), .lit .nilIface]) from by unfold Une.pu; rw [if_pos hok]] at hPU
  have hvs := Une.val_small 10 (by decide) s hl hok
  refine W.seq ?_
  refine W.region ?_
  refine W.q (Ev.assign .k) rfl ?_
  refine W.q (Ev.assign .k) rfl ?_
  refine W.nil ?_
  refine W.then ?_
  refine W.seq ?_
  refine W.seq ?_
  refine W.region ?_
  refine W.q (Ev.move (.t rfl)) rfl ?_
  refine W.q (Ev.eqs (.t rfl) .k) rfl ?_
  refine W.nil ?_
  refine W.then ?_
  refine W.is (t := 13) (g := true) (av' := .lit (.bool false)) rfl (congrArg (fun b => AV.lit (.bool b)) (by simp [hne])) ?_
  refine W.condF (.t rfl) ?_
  refine W.skip ?_
  refine W.then ?_
  refine W.seq ?_
  refine W.region ?_
  refine W.q (Ev.assign .k) rfl ?_
  refine W.nil ?_
  refine W.then ?_
  refine W.seq ?_
  refine W.seq ?_
  refine W.region ?_
  refine W.q (Ev.move (.t rfl)) rfl ?_
  refine W.q (Ev.ats' (.t rfl) .k Tryd.underlying9 (fun hg => by omega)) rfl ?_
  refine W.is (t := 16) (g := true) (av' := AV.u8 c0) rfl (congrArg AV.u8 (by simpa using hc0)) ?_
  refine W.nil ?_
  refine W.then ?_
  refine W.block ?_
  refine W.seq ?_
  refine W.region ?_
  refine W.q (Ev.eqi (.t rfl) .k) rfl ?_
  refine W.q (Ev.assign (.t rfl)) rfl ?_
  refine W.nil ?_
  refine W.then ?_
  refine W.is (t := 17) (g := true) (av' := .lit (.bool false)) rfl (congrArg (fun b => AV.lit (.bool b)) (by simp; omega)) ?_
  refine W.condF (.t rfl) ?_
  refine W.seq ?_
  refine W.region ?_
  refine W.q (Ev.eqi (.t rfl) .k) rfl ?_
  refine W.q (Ev.assign (.t rfl)) rfl ?_
  refine W.nil ?_
  refine W.then ?_
  refine W.is (t := 21) (g := true) (av' := .lit (.bool false)) rfl (congrArg (fun b => AV.lit (.bool b)) (by simp; omega)) ?_
  refine W.condF (.t rfl) ?_
  refine W.skip ?_
  refine W.blk_normal ?_
  refine W.then ?_
  refine W.seq ?_
  refine W.region ?_
  refine W.q (Ev.assign .k) rfl ?_
  refine W.nil ?_
  refine W.then ?_
  refine W.seq ?_
  refine W.region ?_
  refine W.q (Ev.move (.t rfl)) rfl ?_
  refine W.q (Ev.move (.t rfl)) rfl ?_
  refine W.q (Ev.move (.t rfl)) rfl ?_
  refine W.callp (hPU) ⟨(.t rfl), (.t rfl), (.t rfl), trivial⟩ rfl ?_
  refine W.q (Ev.move (.t rfl)) rfl ?_
  refine W.q (Ev.extract (.t rfl) rfl) rfl ?_
  refine W.q (Ev.extract (.t rfl) rfl) rfl ?_
  refine W.q (Ev.assign (.t rfl)) rfl ?_
  refine W.q (Ev.assign (.t rfl)) rfl ?_
  refine W.nil ?_
  refine W.then ?_
  refine W.seq ?_
  refine W.seq ?_
  refine W.region ?_
  refine W.q (Ev.move (.t rfl)) rfl ?_
  first | refine W.q (Ev.nenif (.t rfl) (by kernel_rfl)) rfl ?_ | refine W.q (Ev.nenn (.t rfl) (by kernel_rfl)) rfl ?_
  refine W.q (Ev.move (.t rfl)) rfl ?_
  refine W.gnob rfl rfl (by simp) rfl ?_
  refine W.gnob rfl rfl (by simp) rfl ?_
  refine W.gnob rfl rfl (by simp) rfl ?_
  refine W.q (Ev.and (.t rfl) ⟨_, _, rfl, rfl, by first | (simp; done) | (intro hg_ hp_; simp [hp_]; done) | (simp <;> omega; done) | (simp_all; done) | grind⟩) rfl ?_
  refine W.nil ?_
  refine W.then ?_
  refine W.is (t := 38) (g := true) (av' := .lit (.bool false)) rfl (congrArg (fun b => AV.lit (.bool b)) (by simp)) ?_
  refine W.condF (.t rfl) ?_
  refine W.skip ?_
  refine W.then ?_
  refine W.seq ?_
  refine W.seq ?_
  refine W.region ?_
  refine W.q (Ev.move (.t rfl)) rfl ?_
  refine W.q (Ev.eqi (.t rfl) .k) rfl ?_
  refine W.nil ?_
  refine W.then ?_
  refine W.is (t := 41) (g := true) (av' := .lit (.bool false)) rfl (congrArg (fun b => AV.lit (.bool b)) (by decide)) ?_
  refine W.condF (.t rfl) ?_
  refine W.skip ?_
  refine W.then ?_
  refine W.seq ?_
  refine W.region ?_
  refine W.q (Ev.move (.t rfl)) rfl ?_
  first | refine W.q (Ev.sub (.t rfl) .k (fun _ => by omega)) rfl ?_ | refine W.q (Ev.subw (.t rfl) .k) rfl ?_
  refine W.q (Ev.conv (.t rfl) ⟨_, Tryd.underlying3⟩ Tryd.underlying119) rfl ?_
  refine W.q (Ev.shlw (c := 63) .k (.t rfl) (by decide) (by decide)) rfl ?_
  refine W.is (t := 45) (g := true) (av' := .lit (.int .u64 9223372036854775808)) rfl (congrArg (fun z => AV.lit (.int .u64 z)) (by decide)) ?_
  refine W.q (Ev.assign (.t rfl)) rfl ?_
  refine W.nil ?_
  refine W.then ?_
  refine W.seq ?_
  refine W.seq ?_
  refine W.region ?_
  refine W.q (Ev.move (.t rfl)) rfl ?_
  refine W.q (Ev.not (.t rfl)) rfl ?_
  refine W.q (Ev.move (.t rfl)) rfl ?_
  refine W.gyes rfl rfl ?_
  refine W.q (Ev.move (.t rfl)) rfl ?_
  refine W.gyes rfl rfl ?_
  refine W.q (Ev.move (.t rfl)) rfl ?_
  refine W.gyes rfl rfl ?_
  refine W.q (Ev.gei (.t rfl) (.t rfl)) rfl ?_
  refine W.q (Ev.and (.t rfl) ⟨_, _, rfl, rfl, by first | (simp; done) | (intro hg_ hp_; simp [hp_]; done) | (simp <;> omega; done) | (simp_all; done) | grind⟩) rfl ?_
  refine W.nil ?_
  refine W.then ?_
  refine W.is (t := 52) (g := true) (av' := .lit (.bool false)) rfl (congrArg (fun b => AV.lit (.bool b)) (by simp; omega)) ?_
  refine W.condF (.t rfl) ?_
  refine W.skip ?_
  refine W.then ?_
  refine W.seq ?_
  refine W.seq ?_
  refine W.region ?_
  refine W.q (Ev.move (.t rfl)) rfl ?_
  refine W.q (Ev.move (.t rfl)) rfl ?_
  refine W.gnob rfl rfl (by simp) rfl ?_
  refine W.gnob rfl rfl (by simp) rfl ?_
  refine W.gnob rfl rfl (by simp) rfl ?_
  refine W.q (Ev.and (.t rfl) ⟨_, _, rfl, rfl, by first | (simp; done) | (intro hg_ hp_; simp [hp_]; done) | (simp <;> omega; done) | (simp_all; done) | grind⟩) rfl ?_
  refine W.nil ?_
  refine W.then ?_
  refine W.is (t := 62) (g := true) (av' := .lit (.bool false)) rfl (congrArg (fun b => AV.lit (.bool b)) (by simp)) ?_
  refine W.condF (.t rfl) ?_
  refine W.skip ?_
  refine W.then ?_
  refine W.seq ?_
  refine W.region ?_
  refine W.q (Ev.move (.t rfl)) rfl ?_
  first | refine W.q (Ev.conv64 (.t rfl) ⟨_, Tryd.underlying139⟩ Tryd.underlying2 (fun _ => by omega)) rfl ?_ | refine W.q (Ev.conv (.t rfl) ⟨_, Tryd.underlying139⟩ Tryd.underlying2) rfl ?_
  refine W.q (Ev.assign (.t rfl)) rfl ?_
  refine W.nil ?_
  refine W.then ?_
  refine W.seq ?_
  refine W.seq ?_
  refine W.region ?_
  refine W.q (Ev.move (.t rfl)) rfl ?_
  refine W.nil ?_
  refine W.then ?_
  refine W.is (t := 69) (g := true) (av' := .lit (.bool false)) rfl (congrArg (fun b => AV.lit (.bool b)) (by rfl)) ?_
  refine W.condF (.t rfl) ?_
  refine W.skip ?_
  refine W.then ?_
  refine W.seq ?_
  refine W.region ?_
  refine W.q (Ev.move (.t rfl)) rfl ?_
  refine W.q (Ev.assign (.t rfl)) rfl ?_
  refine W.q (Ev.assign .k) rfl ?_
  refine W.nil ?_
  refine W.then ?_
  refine W.ret ?_
  refine W.retn (M' := []) (D := _) (rs := [.tmp 6, .tmp 7]) (avs := [_, _]) Tryd.results71 ⟨rfl, rfl, trivial⟩ rfl (.refl _) ?_
  exact ⟨rfl, rfl⟩

theorem c_PI100 (s : List UInt8) (hne : s ≠ []) (hl : s.length ≤ 7) (hu : s.any Une.sgn = false) (hok : Une.okd 10 s = false) : FnP Tryd.prog 71 [.str s, .int 10, .int 64] (.tup [.lit (.int .i64 0), .lit (.iface 138 (.int .i64 2))]) :=  by
  refine FnC.mk Tryd.func71 (by kernel_rfl) rfl Tryd.ntmps71 rfl (fun w0 F => ?_)
  obtain ⟨c0, hc0⟩ : ∃ c, s.getD 0 0 = c := ⟨_, rfl⟩
  have hlt : 0 < s.length := by cases s; exact absurd rfl hne; simp
  have hm : c0 ∈ s := by rw [← hc0]; exact getD_memG 0 s 0 hlt
  have hs0 := List.any_eq_false.1 hu c0 hm
  have h43 : c0.toNat ≠ 43 := fun h => hs0 (by rw [show c0 = 43 from UInt8.toNat_inj.1 h]; rfl)
  have h45 : c0.toNat ≠ 45 := fun h => hs0 (by rw [show c0 = 45 from UInt8.toNat_inj.1 h]; rfl)
  have hPU := WDig.c_PU10 s hne hl (fun c hc e => List.any_eq_false.1 hu c hc (by rw [e]; rfl))
  rw [show Une.pu 138 10 s = (.tup [.lit (.int .u64 0), .lit (.iface 138 (.int .i64 2))]) from by unfold Une.pu; rw [if_neg (by rw [hok]; decide)]] at hPU
  refine W.seq ?_
  refine W.region ?_
  refine W.q (Ev.assign .k) rfl ?_
  refine W.q (Ev.assign .k) rfl ?_
  refine W.nil ?_
  refine W.then ?_
  refine W.seq ?_
  refine W.seq ?_
  refine W.region ?_
  refine W.q (Ev.move (.t rfl)) rfl ?_
  refine W.q (Ev.eqs (.t rfl) .k) rfl ?_
  refine W.nil ?_
  refine W.then ?_
  refine W.is (t := 13) (g := true) (av' := .lit (.bool false)) rfl (congrArg (fun b => AV.lit (.bool b)) (by simp [hne])) ?_
  refine W.condF (.t rfl) ?_
  refine W.skip ?_
  refine W.then ?_
  refine W.seq ?_
  refine W.region ?_
  refine W.q (Ev.assign .k) rfl ?_
  refine W.nil ?_
  refine W.then ?_
  refine W.seq ?_
  refine W.seq ?_
  refine W.region ?_
  refine W.q (Ev.move (.t rfl)) rfl ?_
  refine W.q (Ev.ats' (.t rfl) .k Tryd.underlying9 (fun hg => by omega)) rfl ?_
  refine W.is (t := 16) (g := true) (av' := AV.u8 c0) rfl (congrArg AV.u8 (by simpa using hc0)) ?_
  refine W.nil ?_
  refine W.then ?_
  refine W.block ?_
  refine W.seq ?_
  refine W.region ?_
  refine W.q (Ev.eqi (.t rfl) .k) rfl ?_
  refine W.q (Ev.assign (.t rfl)) rfl ?_
  refine W.nil ?_
  refine W.then ?_
  refine W.is (t := 17) (g := true) (av' := .lit (.bool false)) rfl (congrArg (fun b => AV.lit (.bool b)) (by simp; omega)) ?_
  refine W.condF (.t rfl) ?_
  refine W.seq ?_
  refine W.region ?_
  refine W.q (Ev.eqi (.t rfl) .k) rfl ?_
  refine W.q (Ev.assign (.t rfl)) rfl ?_
  refine W.nil ?_
  refine W.then ?_
  refine W.is (t := 21) (g := true) (av' := .lit (.bool false)) rfl (congrArg (fun b => AV.lit (.bool b)) (by simp; omega)) ?_
  refine W.condF (.t rfl) ?_
  refine W.skip ?_
  refine W.blk_normal ?_
  refine W.then ?_
  refine W.seq ?_
  refine W.region ?_
  refine W.q (Ev.assign .k) rfl ?_
  refine W.nil ?_
  refine W.then ?_
  refine W.seq ?_
  refine W.region ?_
  refine W.q (Ev.move (.t rfl)) rfl ?_
  refine W.q (Ev.move (.t rfl)) rfl ?_
  refine W.q (Ev.move (.t rfl)) rfl ?_
  refine W.callp (hPU) ⟨(.t rfl), (.t rfl), (.t rfl), trivial⟩ rfl ?_
  refine W.q (Ev.move (.t rfl)) rfl ?_
  refine W.q (Ev.extract (.t rfl) rfl) rfl ?_
  refine W.q (Ev.extract (.t rfl) rfl) rfl ?_
  refine W.q (Ev.assign (.t rfl)) rfl ?_
  refine W.q (Ev.assign (.t rfl)) rfl ?_
  refine W.nil ?_
  refine W.then ?_
  refine W.seq ?_
  refine W.seq ?_
  refine W.region ?_
  refine W.q (Ev.move (.t rfl)) rfl ?_
  first | refine W.q (Ev.nenif (.t rfl) (by kernel_rfl)) rfl ?_ | refine W.q (Ev.nenn (.t rfl) (by kernel_rfl)) rfl ?_
  refine W.q (Ev.move (.t rfl)) rfl ?_
  refine W.gyes rfl rfl ?_
  refine W.q (Ev.move (.t rfl)) rfl ?_
  refine W.gyes rfl rfl ?_
  refine W.q (Ev.mkif .k Tryd.underlying138 (by intro ms h; cases h)) rfl ?_
  refine W.gyes rfl rfl ?_
  refine W.q (Ev.neif (.t rfl) (.t rfl) Tryd.underlying50 (by kernel_rfl) Tryd.underlying138) rfl ?_
  refine W.q (Ev.and (.t rfl) ⟨_, _, rfl, rfl, by first | (simp; done) | (intro hg_ hp_; simp [hp_]; done) | (simp <;> omega; done) | (simp_all; done) | grind⟩) rfl ?_
  refine W.nil ?_
  refine W.then ?_
  refine W.is (t := 38) (g := true) (av' := .lit (.bool true)) rfl (congrArg (fun b => AV.lit (.bool b)) (by decide)) ?_
  refine W.condT (.t rfl) ?_
  refine W.seq ?_
  refine W.region ?_
  refine W.q (Ev.move (.t rfl)) rfl ?_
  refine W.q (Ev.assign .k) rfl ?_
  refine W.q (Ev.assign (.t rfl)) rfl ?_
  refine W.nil ?_
  refine W.then ?_
  refine W.ret ?_
  refine W.then_ret ?_
  refine W.retn (M' := []) (D := _) (rs := [.tmp 6, .tmp 7]) (avs := [_, _]) Tryd.results71 ⟨rfl, rfl, trivial⟩ rfl (.refl _) ?_
  exact ⟨rfl, rfl⟩

theorem c_PI161 (s : List UInt8) (hne : s ≠ []) (hl : s.length ≤ 7) (hu : s.any Une.sgn = false) (hok : Une.okd 16 s = true) : FnP Tryd.prog 71 [.str s, .int 16, .int 64] (.tup [.lit (.int .i64 (Une.val 16 s : Int)), .lit .nilIface]) :=  by
  refine FnC.mk Tryd.func71 (by kernel_rfl) rfl Tryd.ntmps71 rfl (fun w0 F => ?_)
  obtain ⟨c0, hc0⟩ : ∃ c, s.getD 0 0 = c := ⟨_, rfl⟩
  have hlt : 0 < s.length := by cases s; exact absurd rfl hne; simp
  have hm : c0 ∈ s := by rw [← hc0]; exact getD_memG 0 s 0 hlt
  have hs0 := List.any_eq_false.1 hu c0 hm
  have h43 : c0.toNat ≠ 43 := fun h => hs0 (by rw [show c0 = 43 from UInt8.toNat_inj.1 h]; rfl)
  have h45 : c0.toNat ≠ 45 := fun h => hs0 (by rw [show c0 = 45 from UInt8.toNat_inj.1 h]; rfl)
  have hPU := WDig.c_PU16 s hne hl (fun c hc e => List.any_eq_false.1 hu c hc (by rw [e]; rfl))
  rw [show Une.pu 138 16 s = (.tup [.lit (.int .u64 (Une.val 16 s : Int)), .lit .nilIface]) from by unfold Une.pu; rw [if_pos hok]] at hPU
  have hvs := Une.val_small 16 (by decide) s hl hok
  refine W.seq ?_
  refine W.region ?_
  refine W.q (Ev.assign .k) rfl ?_
  refine W.q (Ev.assign .k) rfl ?_
  refine W.nil ?_
  refine W.then ?_
  refine W.seq ?_
  refine W.seq ?_
  refine W.region ?_
  refine W.q (Ev.move (.t rfl)) rfl ?_
  refine W.q (Ev.eqs (.t rfl) .k) rfl ?_
  refine W.nil ?_
  refine W.then ?_
  refine W.is (t := 13) (g := true) (av' := .lit (.bool false)) rfl (congrArg (fun b => AV.lit (.bool b)) (by simp [hne])) ?_
  refine W.condF (.t rfl) ?_
  refine W.skip ?_
  refine W.then ?_
  refine W.seq ?_
  refine W.region ?_
  refine W.q (Ev.assign .k) rfl ?_
  refine W.nil ?_
  refine W.then ?_
  refine W.seq ?_
  refine W.seq ?_
  refine W.region ?_
  refine W.q (Ev.move (.t rfl)) rfl ?_
  refine W.q (Ev.ats' (.t rfl) .k Tryd.underlying9 (fun hg => by omega)) rfl ?_
  refine W.is (t := 16) (g := true) (av' := AV.u8 c0) rfl (congrArg AV.u8 (by simpa using hc0)) ?_
  refine W.nil ?_
  refine W.then ?_
  refine W.block ?_
  refine W.seq ?_
  refine W.region ?_
  refine W.q (Ev.eqi (.t rfl) .k) rfl ?_
  refine W.q (Ev.assign (.t rfl)) rfl ?_
  refine W.nil ?_
  refine W.then ?_
  refine W.is (t := 17) (g := true) (av' := .lit (.bool false)) rfl (congrArg (fun b => AV.lit (.bool b)) (by simp; omega)) ?_
  refine W.condF (.t rfl) ?_
  refine W.seq ?_
  refine W.region ?_
  refine W.q (Ev.eqi (.t rfl) .k) rfl ?_
  refine W.q (Ev.assign (.t rfl)) rfl ?_
  refine W.nil ?_
  refine W.then ?_
  refine W.is (t := 21) (g := true) (av' := .lit (.bool false)) rfl (congrArg (fun b => AV.lit (.bool b)) (by simp; omega)) ?_
  refine W.condF (.t rfl) ?_
  refine W.skip ?_
  refine W.blk_normal ?_
  refine W.then ?_
  refine W.seq ?_
  refine W.region ?_
  refine W.q (Ev.assign .k) rfl ?_
  refine W.nil ?_
  refine W.then ?_
  refine W.seq ?_
  refine W.region ?_
  refine W.q (Ev.move (.t rfl)) rfl ?_
  refine W.q (Ev.move (.t rfl)) rfl ?_
  refine W.q (Ev.move (.t rfl)) rfl ?_
  refine W.callp (hPU) ⟨(.t rfl), (.t rfl), (.t rfl), trivial⟩ rfl ?_
  refine W.q (Ev.move (.t rfl)) rfl ?_
  refine W.q (Ev.extract (.t rfl) rfl) rfl ?_
  refine W.q (Ev.extract (.t rfl) rfl) rfl ?_
  refine W.q (Ev.assign (.t rfl)) rfl ?_
  refine W.q (Ev.assign (.t rfl)) rfl ?_
  refine W.nil ?_
  refine W.then ?_
  refine W.seq ?_
  refine W.seq ?_
  refine W.region ?_
  refine W.q (Ev.move (.t rfl)) rfl ?_
  first | refine W.q (Ev.nenif (.t rfl) (by kernel_rfl)) rfl ?_ | refine W.q (Ev.nenn (.t rfl) (by kernel_rfl)) rfl ?_
  refine W.q (Ev.move (.t rfl)) rfl ?_
  refine W.gnob rfl rfl (by simp) rfl ?_
  refine W.gnob rfl rfl (by simp) rfl ?_
  refine W.gnob rfl rfl (by simp) rfl ?_
  refine W.q (Ev.and (.t rfl) ⟨_, _, rfl, rfl, by first | (simp; done) | (intro hg_ hp_; simp [hp_]; done) | (simp <;> omega; done) | (simp_all; done) | grind⟩) rfl ?_
  refine W.nil ?_
  refine W.then ?_
  refine W.is (t := 38) (g := true) (av' := .lit (.bool false)) rfl (congrArg (fun b => AV.lit (.bool b)) (by simp)) ?_
  refine W.condF (.t rfl) ?_
  refine W.skip ?_
  refine W.then ?_
  refine W.seq ?_
  refine W.seq ?_
  refine W.region ?_
  refine W.q (Ev.move (.t rfl)) rfl ?_
  refine W.q (Ev.eqi (.t rfl) .k) rfl ?_
  refine W.nil ?_
  refine W.then ?_
  refine W.is (t := 41) (g := true) (av' := .lit (.bool false)) rfl (congrArg (fun b => AV.lit (.bool b)) (by decide)) ?_
  refine W.condF (.t rfl) ?_
  refine W.skip ?_
  refine W.then ?_
  refine W.seq ?_
  refine W.region ?_
  refine W.q (Ev.move (.t rfl)) rfl ?_
  first | refine W.q (Ev.sub (.t rfl) .k (fun _ => by omega)) rfl ?_ | refine W.q (Ev.subw (.t rfl) .k) rfl ?_
  refine W.q (Ev.conv (.t rfl) ⟨_, Tryd.underlying3⟩ Tryd.underlying119) rfl ?_
  refine W.q (Ev.shlw (c := 63) .k (.t rfl) (by decide) (by decide)) rfl ?_
  refine W.is (t := 45) (g := true) (av' := .lit (.int .u64 9223372036854775808)) rfl (congrArg (fun z => AV.lit (.int .u64 z)) (by decide)) ?_
  refine W.q (Ev.assign (.t rfl)) rfl ?_
  refine W.nil ?_
  refine W.then ?_
  refine W.seq ?_
  refine W.seq ?_
  refine W.region ?_
  refine W.q (Ev.move (.t rfl)) rfl ?_
  refine W.q (Ev.not (.t rfl)) rfl ?_
  refine W.q (Ev.move (.t rfl)) rfl ?_
  refine W.gyes rfl rfl ?_
  refine W.q (Ev.move (.t rfl)) rfl ?_
  refine W.gyes rfl rfl ?_
  refine W.q (Ev.move (.t rfl)) rfl ?_
  refine W.gyes rfl rfl ?_
  refine W.q (Ev.gei (.t rfl) (.t rfl)) rfl ?_
  refine W.q (Ev.and (.t rfl) ⟨_, _, rfl, rfl, by first | (simp; done) | (intro hg_ hp_; simp [hp_]; done) | (simp <;> omega; done) | (simp_all; done) | grind⟩) rfl ?_
  refine W.nil ?_
  refine W.then ?_
  refine W.is (t := 52) (g := true) (av' := .lit (.bool false)) rfl (congrArg (fun b => AV.lit (.bool b)) (by simp; omega)) ?_
  refine W.condF (.t rfl) ?_
  refine W.skip ?_
  refine W.then ?_
  refine W.seq ?_
  refine W.seq ?_
  refine W.region ?_
  refine W.q (Ev.move (.t rfl)) rfl ?_
  refine W.q (Ev.move (.t rfl)) rfl ?_
  refine W.gnob rfl rfl (by simp) rfl ?_
  refine W.gnob rfl rfl (by simp) rfl ?_
  refine W.gnob rfl rfl (by simp) rfl ?_
  refine W.q (Ev.and (.t rfl) ⟨_, _, rfl, rfl, by first | (simp; done) | (intro hg_ hp_; simp [hp_]; done) | (simp <;> omega; done) | (simp_all; done) | grind⟩) rfl ?_
  refine W.nil ?_
  refine W.then ?_
  refine W.is (t := 62) (g := true) (av' := .lit (.bool false)) rfl (congrArg (fun b => AV.lit (.bool b)) (by simp)) ?_
  refine W.condF (.t rfl) ?_
  refine W.skip ?_
  refine W.then ?_
  refine W.seq ?_
  refine W.region ?_
  refine W.q (Ev.move (.t rfl)) rfl ?_
  first | refine W.q (Ev.conv64 (.t rfl) ⟨_, Tryd.underlying139⟩ Tryd.underlying2 (fun _ => by omega)) rfl ?_ | refine W.q (Ev.conv (.t rfl) ⟨_, Tryd.underlying139⟩ Tryd.underlying2) rfl ?_
  refine W.q (Ev.assign (.t rfl)) rfl ?_
  refine W.nil ?_
  refine W.then ?_
  refine W.seq ?_
  refine W.seq ?_
  refine W.region ?_
  refine W.q (Ev.move (.t rfl)) rfl ?_
  refine W.nil ?_
  refine W.then ?_
  refine W.is (t := 69) (g := true) (av' := .lit (.bool false)) rfl (congrArg (fun b => AV.lit (.bool b)) (by rfl)) ?_
  refine W.condF (.t rfl) ?_
  refine W.skip ?_
  refine W.then ?_
  refine W.seq ?_
  refine W.region ?_
  refine W.q (Ev.move (.t rfl)) rfl ?_
  refine W.q (Ev.assign (.t rfl)) rfl ?_
  refine W.q (Ev.assign .k) rfl ?_
  refine W.nil ?_
  refine W.then ?_
  refine W.ret ?_
  refine W.retn (M' := []) (D := _) (rs := [.tmp 6, .tmp 7]) (avs := [_, _]) Tryd.results71 ⟨rfl, rfl, trivial⟩ rfl (.refl _) ?_
  exact ⟨rfl, rfl⟩

theorem c_PI160 (s : List UInt8) (hne : s ≠ []) (hl : s.length ≤ 7) (hu : s.any Une.sgn = false) (hok : Une.okd 16 s = false) : FnP Tryd.prog 71 [.str s, .int 16, .int 64] (.tup [.lit (.int .i64 0), .lit (.iface 138 (.int .i64 2))]) :=  by
  refine FnC.mk Tryd.func71 (by kernel_rfl) rfl Tryd.ntmps71 rfl (fun w0 F => ?_)
  obtain ⟨c0, hc0⟩ : ∃ c, s.getD 0 0 = c := ⟨_, rfl⟩
  have hlt : 0 < s.length := by cases s; exact absurd rfl hne; simp
  have hm : c0 ∈ s := by rw [← hc0]; exact getD_memG 0 s 0 hlt
  have hs0 := List.any_eq_false.1 hu c0 hm
  have h43 : c0.toNat ≠ 43 := fun h => hs0 (by rw [show c0 = 43 from UInt8.toNat_inj.1 h]; rfl)
  have h45 : c0.toNat ≠ 45 := fun h => hs0 (by rw [show c0 = 45 from UInt8.toNat_inj.1 h]; rfl)
  have hPU := WDig.c_PU16 s hne hl (fun c hc e => List.any_eq_false.1 hu c hc (by rw [e]; rfl))
  rw [show Une.pu 138 16 s = (.tup [.lit (.int .u64 0), .lit (.iface 138 (.int .i64 2))]) from by unfold Une.pu; rw [if_neg (by rw [hok]; decide)]] at hPU
  refine W.seq ?_
  refine W.region ?_
  refine W.q (Ev.assign .k) rfl ?_
  refine W.q (Ev.assign .k) rfl ?_
  refine W.nil ?_
  refine W.then ?_
  refine W.seq ?_
  refine W.seq ?_
  refine W.region ?_
  refine W.q (Ev.move (.t rfl)) rfl ?_
  refine W.q (Ev.eqs (.t rfl) .k) rfl ?_
  refine W.nil ?_
  refine W.then ?_
  refine W.is (t := 13) (g := true) (av' := .lit (.bool false)) rfl (congrArg (fun b => AV.lit (.bool b)) (by simp [hne])) ?_
  refine W.condF (.t rfl) ?_
  refine W.skip ?_
  refine W.then ?_
  refine W.seq ?_
  refine W.region ?_
  refine W.q (Ev.assign .k) rfl ?_
  refine W.nil ?_
  refine W.then ?_
  refine W.seq ?_
  refine W.seq ?_
  refine W.region ?_
  refine W.q (Ev.move (.t rfl)) rfl ?_
  refine W.q (Ev.ats' (.t rfl) .k Tryd.underlying9 (fun hg => by omega)) rfl ?_
  refine W.is (t := 16) (g := true) (av' := AV.u8 c0) rfl (congrArg AV.u8 (by simpa using hc0)) ?_
  refine W.nil ?_
  refine W.then ?_
  refine W.block ?_
  refine W.seq ?_
  refine W.region ?_
  refine W.q (Ev.eqi (.t rfl) .k) rfl ?_
  refine W.q (Ev.assign (.t rfl)) rfl ?_
  refine W.nil ?_
  refine W.then ?_
  refine W.is (t := 17) (g := true) (av' := .lit (.bool false)) rfl (congrArg (fun b => AV.lit (.bool b)) (by simp; omega)) ?_
  refine W.condF (.t rfl) ?_
  refine W.seq ?_
  refine W.region ?_
  refine W.q (Ev.eqi (.t rfl) .k) rfl ?_
  refine W.q (Ev.assign (.t rfl)) rfl ?_
  refine W.nil ?_
  refine W.then ?_
  refine W.is (t := 21) (g := true) (av' := .lit (.bool false)) rfl (congrArg (fun b => AV.lit (.bool b)) (by simp; omega)) ?_
  refine W.condF (.t rfl) ?_
  refine W.skip ?_
  refine W.blk_normal ?_
  refine W.then ?_
  refine W.seq ?_
  refine W.region ?_
  refine W.q (Ev.assign .k) rfl ?_
  refine W.nil ?_
  refine W.then ?_
  refine W.seq ?_
  refine W.region ?_
  refine W.q (Ev.move (.t rfl)) rfl ?_
  refine W.q (Ev.move (.t rfl)) rfl ?_
  refine W.q (Ev.move (.t rfl)) rfl ?_
  refine W.callp (hPU) ⟨(.t rfl), (.t rfl), (.t rfl), trivial⟩ rfl ?_
  refine W.q (Ev.move (.t rfl)) rfl ?_
  refine W.q (Ev.extract (.t rfl) rfl) rfl ?_
  refine W.q (Ev.extract (.t rfl) rfl) rfl ?_
  refine W.q (Ev.assign (.t rfl)) rfl ?_
  refine W.q (Ev.assign (.t rfl)) rfl ?_
  refine W.nil ?_
  refine W.then ?_
  refine W.seq ?_
  refine W.seq ?_
  refine W.region ?_
  refine W.q (Ev.move (.t rfl)) rfl ?_
  first | refine W.q (Ev.nenif (.t rfl) (by kernel_rfl)) rfl ?_ | refine W.q (Ev.nenn (.t rfl) (by kernel_rfl)) rfl ?_
  refine W.q (Ev.move (.t rfl)) rfl ?_
  refine W.gyes rfl rfl ?_
  refine W.q (Ev.move (.t rfl)) rfl ?_
  refine W.gyes rfl rfl ?_
  refine W.q (Ev.mkif .k Tryd.underlying138 (by intro ms h; cases h)) rfl ?_
  refine W.gyes rfl rfl ?_
  refine W.q (Ev.neif (.t rfl) (.t rfl) Tryd.underlying50 (by kernel_rfl) Tryd.underlying138) rfl ?_
  refine W.q (Ev.and (.t rfl) ⟨_, _, rfl, rfl, by first | (simp; done) | (intro hg_ hp_; simp [hp_]; done) | (simp <;> omega; done) | (simp_all; done) | grind⟩) rfl ?_
  refine W.nil ?_
  refine W.then ?_
  refine W.is (t := 38) (g := true) (av' := .lit (.bool true)) rfl (congrArg (fun b => AV.lit (.bool b)) (by decide)) ?_
  refine W.condT (.t rfl) ?_
  refine W.seq ?_
  refine W.region ?_
  refine W.q (Ev.move (.t rfl)) rfl ?_
  refine W.q (Ev.assign .k) rfl ?_
  refine W.q (Ev.assign (.t rfl)) rfl ?_
  refine W.nil ?_
  refine W.then ?_
  refine W.ret ?_
  refine W.then_ret ?_
  refine W.retn (M' := []) (D := _) (rs := [.tmp 6, .tmp 7]) (avs := [_, _]) Tryd.results71 ⟨rfl, rfl, trivial⟩ rfl (.refl _) ?_
  exact ⟨rfl, rfl⟩

end WInts

end Go.Proofs.YtohncieijjhnjaaDoor
end

section
set_option linter.unusedVariables false
set_option linter.unusedSimpArgs false
namespace Go.Vl
open Go.RowKit (Below)
theorem Fr.of_below {w w' : World} (h : Below w.heap.size w w') : Fr w [] w' [] :=
  ⟨h.os, h.tape, h.output, h.size, fun k hk _ => ⟨h.block k hk, by simp⟩⟩
theorem FnP.of_below {P : Program} {f : FuncId} {args : List AV} {r : AV} (hc : CallOk P f)
    (h : ∀ (w : World) (F : List Nat) (vs : List Value), RepT w F args vs → Calls P f vs.toArray w fun e w' => ∃ v, e = .returned v ∧ Rep w' F r v ∧ Below w.heap.size w w') : FnP P f args r :=
  ⟨hc, fun w F vs hF hm ha => (h w F vs (by simpa [bl] using ha)).mono fun e w' ⟨v, he, hr, hb⟩ => ⟨v, r, [], he, ⟨rfl, rfl⟩, MOk.nil w' F, by simpa [bl] using hr, by simpa [bl] using Fr.of_below hb⟩⟩
theorem CallOk.of {P : Program} {f : FuncId} {fn : Func} (h1 : P.funcs[f]? = some fn) (h2 : (fn.name == "runtime.NumGoroutine") = false) (h3 : fn.body.isNone = false) : CallOk P f := ⟨fn, h1, h2, h3⟩
theorem RepE.strs {w : World} {N : List Nat} {l : List (List UInt8)} {row : List Value} (h : RepE w N 1 (l.map AV.str) row) (j : Nat) (x : List UInt8) (hj : l[j]? = some x) : row[j]? = some (.string ⟨x.toArray⟩) := by
  obtain ⟨h1, h2⟩ := RepE.get (i := j) (e := AV.str x) h (by rw [List.getElem?_map, hj]; rfl)
  simp only [RepC, Nat.mul_one] at h2
  have h3 : (List.take 1 (List.drop j row)) = [Value.string ⟨x.toArray⟩] := h2
  have : (List.take 1 (List.drop j row))[0]? = row[j]? := by simp [List.getElem?_take, List.getElem?_drop]
  rw [← this, h3]; rfl
end Go.Vl
end

section
set_option linter.unusedVariables false
set_option linter.unusedSimpArgs false
namespace Go.Vl
open Go.RowKit (Below)
theorem MOk.below {w w' : World} {M : List ME} {F : List Nat} (h : MOk w M F) (hb : Below w.heap.size w w') (hF : ∀ b ∈ F, b < w.heap.size) : MOk w' M F := by
  refine ⟨h.nodup, h.apart, fun m hm => ME.holds_keep (w := w) (N := bl M ++ F) ?_ (fun b hb' => ?_) (h.holds m hm)⟩
  · intro b c T fr hn hc
    exact ⟨hn, (hb.block b (heap_lt hc)).trans hc⟩
  · exact hb.block b (bl_lt h b (List.mem_flatMap.2 ⟨m, hm, hb'⟩))
theorem Fr.below {w w' : World} {N : List Nat} (h : Below w.heap.size w w') : Fr w N w' N :=
  ⟨h.os, h.tape, h.output, h.size, fun k hk hn => ⟨h.block k hk, hn⟩⟩
theorem lit_cell {w : World} {N : List Nat} {v u : Value} (h1 : (AV.lit v).sh = 0) (h3 : RepC w N (.lit v) [u]) : u = v := by
  simp only [RepC] at h3
  have e : v.cells.toList = [v] := by cases v <;> simp_all [AV.sh, shV, Value.cells]
  rw [e] at h3
  exact (List.cons.inj h3).1
end Go.Vl
end

section
set_option linter.unusedVariables false
set_option linter.unusedSimpArgs false
namespace Go.Vl
open Go.RowKit (Below)
/-- a variable that holds an error, that nobody turns -/
abbrev ifv (g : Nat) (T : TypeId) (tp : TypeId) (p : Value) : ME := .shr g T [.lit (.iface tp p)]
/-- nothing that was turns; the result is one of some -/
theorem FnC.belowE {P : Program} {f : FuncId} {args : List AV} {M0 : List ME} {post : AV → Prop} (hc : CallOk P f)
    (h : ∀ (w : World) (F : List Nat) (vs : List Value), MOk w M0 F → RepT w (bl M0 ++ F) args vs → Calls P f vs.toArray w fun e w' => ∃ v r, e = .returned v ∧ post r ∧ Rep w' (bl M0 ++ F) r v ∧ Below w.heap.size w w') : FnC P f args M0 (fun r' M => post r' ∧ M = M0) :=
  ⟨hc, fun w F vs hF hm ha => (h w F vs hm ha).mono fun e w' ⟨v, r, he, hp, hr, hb⟩ => ⟨v, r, M0, he, ⟨hp, rfl⟩, hm.below hb hF, hr, Fr.below hb⟩⟩
theorem laid_tlV {P : Program} {x : String × DataW Unit} {r : List (String × DataW Unit)} {w : World} (h : laidMet P (x :: r) w) : laidMet P r w := h.tail
theorem ifc_block {P : Program} {n nm : String} {text : List UInt8} {r : List (String × DataW Unit)} {W : World} {g : Nat} {ti tp te ts : TypeId} {ms : Array (String × TypeId)} {f : Field}
    (hg : P.globalNamed n = some g) (ht : (P.globals[g]?).map (·.type) = some ti) (hi : P.underlying ti = some (.interface ms)) (hrow : ∀ u, P.typeName? 3 u = some nm → u = tp)
    (hp : P.underlying tp = some (.pointer te)) (he : P.underlying te = some (.struct #[f])) (hft : f.type = ts) (hfo : f.offset = 0) (hs : P.underlying ts = some .string) (hc : P.cellsOf te = 1) (hcs : P.cellsOf ts = 1)
    (h : laidMet P ((n, .iface nm (.ptr (.agg [.lit (.string text)]))) :: r) W) : ∃ tp p T, W.heap[g]? = some (.cells #[.iface tp p] T (0, 0)) := by
  obtain ⟨a, s, hvar', _⟩ := laid_sentinel h hg ht hi hrow hp he hft hfo hs hc hcs
  obtain ⟨ps, ⟨g', t', cs, fuel, p, q, hg', ht', hvar, hd, _, hps⟩, hnd, hrows⟩ := h
  obtain rfl := Option.some.inj (hg.symm.trans hg')
  obtain rfl := Option.some.inj (hvar.symm.trans hvar')
  obtain ⟨⟨c, T, hb⟩, _⟩ := hrows g 0 (by
    rw [hps]
    refine List.mem_append_left _ (List.mem_append_left _ ?_)
    unfold MemPlace.row
    exact List.mem_map.2 ⟨0, List.mem_range.2 (by simp), rfl⟩)
  refine ⟨tp, .pointer (some a), T, ?_⟩
  unfold World.var? at hvar'
  rw [hg, Option.bind_some, hb] at hvar'
  rw [hb, Option.some.inj hvar']
theorem law_callsV {P : Program} {f : FuncId} {avs : List AV} {W : World} {vs : List Value} {g : Nat} {T tp : TypeId} {p : Value} (hg : W.heap[g]? = some (.cells #[.iface tp p] T (0, 0)))
    (h : FnC P f avs [ifv g T tp p] (fun r M => r = .lit (.bool true) ∧ M = [ifv g T tp p])) (ha : RepT W [] avs vs) :
    Calls P f vs.toArray W fun e W' => e = .returned (.bool true) ∧ Below W.heap.size W W' := by
  have hm : MOk W [ifv g T tp p] [] := ⟨by simp [bl, ME.blks], by simp, fun x hx => by
    rw [List.mem_singleton.1 hx]
    refine ⟨by simp [bl, ME.blks], _, hg, ?_⟩
    simp only [RepL]
    exact ⟨_, _, rfl, ⟨rfl, rfl, by simp only [RepC]; rfl⟩, rfl⟩⟩
  refine (h.2 W [] vs (by simp) hm (by simpa [bl, ME.blks] using ha)).mono ?_
  rintro e W' ⟨v, r, M', rfl, ⟨rfl, rfl⟩, hm', hr, hf⟩
  have hv := Rep.lit_iff.1 hr
  subst hv
  exact ⟨rfl, hf.os, hf.tape, hf.output, hf.size, fun k hk => (hf.block k hk (by simp [bl, ME.blks])).1⟩
end Go.Vl
end
