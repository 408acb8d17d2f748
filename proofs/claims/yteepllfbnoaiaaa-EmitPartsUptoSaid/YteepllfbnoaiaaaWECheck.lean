/-
  Tokens that may be.
-/
import Derived.Test.YteepllfbnoaiaaaWEAttrs
import Derived.Test.YteepllfbnoaiaaaWLib
set_option linter.unusedVariables false
set_option linter.unusedSimpArgs false
set_option maxRecDepth 100000
namespace Go.Proofs.Yteepllfbnoaiaaa
open Go.Vl

namespace WECheck
theorem ty3 : Ty Try.prog 3 1 8 (.int .i64 0) := Ty.of (by kernel_rfl)
theorem ty4 : Ty Try.prog 4 1 1 (.bool false) := Ty.of (by kernel_rfl)
theorem ty9 : Ty Try.prog 9 1 16 (.string ⟨#[]⟩) := Ty.of (by kernel_rfl)
theorem ty33 : Ty Try.prog 33 1 24 (.slice none 0 0) := Ty.of (by kernel_rfl)
theorem ty72 : Ty Try.prog 72 5 72 (.agg #[.int .i64 0, .string ⟨#[]⟩, .slice none 0 0, .bool false, .string ⟨#[]⟩]) := Ty.of (by kernel_rfl)
theorem ag3 : IsAgg Try.prog 3 false := ⟨_, Try.underlying3, rfl⟩
theorem ag4 : IsAgg Try.prog 4 false := ⟨_, Try.underlying4, rfl⟩
theorem ag9 : IsAgg Try.prog 9 false := ⟨_, Try.underlying9, rfl⟩
theorem ag33 : IsAgg Try.prog 33 false := ⟨_, Try.underlying33, rfl⟩
theorem ag72 : IsAgg Try.prog 72 true := ⟨_, Try.underlying72, rfl⟩
theorem fa72_0 : FieldAt Try.prog 72 0 0 1 false := ⟨_, _, Try.underlying72, rfl, rfl, ty3.size, ag3, by decide⟩
theorem fa72_1 : FieldAt Try.prog 72 1 1 1 false := ⟨_, _, Try.underlying72, rfl, rfl, ty9.size, ag9, by decide⟩
theorem fa72_2 : FieldAt Try.prog 72 2 2 1 false := ⟨_, _, Try.underlying72, rfl, rfl, ty33.size, ag33, by decide⟩
theorem fa72_3 : FieldAt Try.prog 72 3 3 1 false := ⟨_, _, Try.underlying72, rfl, rfl, ty4.size, ag4, by decide⟩
theorem fa72_4 : FieldAt Try.prog 72 4 4 1 false := ⟨_, _, Try.underlying72, rfl, rfl, ty9.size, ag9, by decide⟩
theorem c_raw (s : List UInt8) : FnP Try.prog 85 [.str s] (.bool (Tk.raws.any fun r => s == r)) :=  by
  refine FnC.mk Try.func85 (by kernel_rfl) rfl Try.ntmps85 rfl (fun w0 F => ?_)
  refine W.seq ?_
  refine W.region ?_
  refine W.q (Ev.assign .k) rfl ?_
  refine W.nil ?_
  refine W.then ?_
  refine W.seq ?_
  refine W.region ?_
  refine W.bs (es := [_, _, _, _]) Try.underlying40 ty9 ⟨rfl, .k, rfl, rfl, rfl, .k, rfl, rfl, rfl, .k, rfl, rfl, rfl, .k, rfl, rfl, trivial⟩ rfl (by decide) rfl rfl ?_
  refine W.q (Ev.move (.t rfl)) rfl ?_
  refine W.callp (WLib.c_Contains Tk.raws s (by decide)) ⟨(.t rfl), (.t rfl), trivial⟩ rfl ?_
  refine W.q (Ev.assign (.t rfl)) rfl ?_
  refine W.nil ?_
  refine W.then ?_
  refine W.ret ?_
  refine W.retn (M' := []) (rs := [.tmp 2]) (avs := [_]) Try.results85 ⟨rfl, trivial⟩ rfl (.refl _) ?_
  exact ⟨rfl, rfl⟩

theorem c_odd (t : Tk) (last : Int) (rest : List Tk) (ht : Tk.drawn t) (hl : t.kind = 3 → last ≠ 3) (hr : rest.length ≤ 1000) : FnP Try.prog 61 [tav t, .int last, .sl 5 (rest.map tav)] (.bool false) :=  by
  refine FnC.mk Try.func61 (by kernel_rfl) rfl Try.ntmps61 rfl (fun w0 F => ?_)
  have hrl : (rest.map tav).length = rest.length := List.length_map ..
  have hr0 : 0 < rest.length → (rest.map tav)[(0 : Int).toNat]? = some (tav (rest.getD 0 Tk.dfl)) := fun h => getD_mapG tav Tk.dfl rest 0 h
  have hk := Tk.kind3 ht
  refine W.seq ?_
  refine W.region ?_
  refine W.box (.t rfl) rfl rfl ?_
  intro b3
  refine W.q (Ev.assign .k) rfl ?_
  refine W.nil ?_
  refine W.then ?_
  refine W.seq ?_
  refine W.seq ?_
  refine W.region ?_
  first | refine W.q (Ev.fae (.t rfl) fa72_0 rfl) rfl ?_ | refine W.q (Ev.fab (.t rfl) fa72_0) rfl ?_ | refine W.q (Ev.faa (.t rfl) fa72_0) rfl ?_
  first | refine W.q (Ev.lde1 (.t rfl) ag3) rfl ?_ | refine W.q (Ev.ldb1 0 (.t rfl) rfl ag3 rfl) rfl ?_ | refine W.q (Ev.ldb1 1 (.t rfl) rfl ag3 rfl) rfl ?_ | refine W.q (Ev.ldb1 2 (.t rfl) rfl ag3 rfl) rfl ?_ | refine W.q (Ev.ldb1 3 (.t rfl) rfl ag3 rfl) rfl ?_
  refine W.nil ?_
  refine W.then ?_
  refine W.block ?_
  refine W.seq ?_
  refine W.region ?_
  refine W.q (Ev.eqi (.t rfl) .k) rfl ?_
  refine W.q (Ev.assign (.t rfl)) rfl ?_
  refine W.nil ?_
  refine W.then ?_
  refine W.cond (.t rfl) (fun hc_t10 => ?_) (fun hc_t10 => ?_)
  · have h10 := beq_iff_eq.1 hc_t10
    obtain ⟨g1, g2⟩ := Tk.odd_no ht h10
    refine W.seq ?_
    refine W.drawn (by kernel_rfl) (by kernel_rfl) ?_
    refine DP.q (Ev.move (.t rfl)) rfl ?_
    first | refine DP.q (Ev.lensl (.t rfl) Try.underlying67) rfl ?_ | refine DP.q (Ev.lenar (i := 0) (.t rfl) rfl Try.underlying67) rfl ?_ | refine DP.q (Ev.lenar (i := 1) (.t rfl) rfl Try.underlying67) rfl ?_ | refine DP.q (Ev.lenar (i := 2) (.t rfl) rfl Try.underlying67) rfl ?_ | refine DP.q (Ev.lenar (i := 3) (.t rfl) rfl Try.underlying67) rfl ?_
    refine DP.q (Ev.gti (.t rfl) .k) rfl ?_
    refine DP.q (Ev.move (.t rfl)) rfl ?_
    refine DP.qgT rfl rfl (Ev.move (.t rfl)) rfl ?_
    refine DP.qgT rfl rfl (Ev.at (E := 72) (e := tav (rest.getD 0 Tk.dfl)) (.c rfl) .k Try.underlying67 ty72 (fun hg => ⟨by decide, hr0 (by simp at hg; omega)⟩) rfl rfl) rfl ?_
    first | refine DP.qgT rfl rfl (Ev.fae (.c rfl) fa72_0 rfl) rfl ?_ | refine DP.qgT rfl rfl (Ev.fab (.c rfl) fa72_0) rfl ?_ | refine DP.qgT rfl rfl (Ev.faa (.c rfl) fa72_0) rfl ?_
    first | refine DP.qgT rfl rfl (Ev.lde1 (.c rfl) ag3) rfl ?_ | refine DP.qgT rfl rfl (Ev.ldb1 0 (.c rfl) rfl ag3 rfl) rfl ?_ | refine DP.qgT rfl rfl (Ev.ldb1 1 (.c rfl) rfl ag3 rfl) rfl ?_ | refine DP.qgT rfl rfl (Ev.ldb1 2 (.c rfl) rfl ag3 rfl) rfl ?_ | refine DP.qgT rfl rfl (Ev.ldb1 3 (.c rfl) rfl ag3 rfl) rfl ?_
    refine DP.qgT rfl rfl (Ev.eqi (.c rfl) .k) rfl ?_
    refine DP.q (Ev.and (.t rfl) ⟨_, _, rfl, rfl, by first | (simp; done) | (intro hg_ hp_; simp [hp_]; done) | (simp <;> omega; done) | (simp_all; done) | grind⟩) rfl ?_
    refine DP.q (Ev.move (.t rfl)) rfl ?_
    refine DP.qgT rfl rfl (Ev.move (.t rfl)) rfl ?_
    refine DP.qgT rfl rfl (Ev.at (E := 72) (e := tav (rest.getD 0 Tk.dfl)) (.c rfl) .k Try.underlying67 ty72 (fun hg => ⟨by decide, hr0 (by simp at hg; omega)⟩) rfl rfl) rfl ?_
    first | refine DP.qgT rfl rfl (Ev.fae (.c rfl) fa72_1 rfl) rfl ?_ | refine DP.qgT rfl rfl (Ev.fab (.c rfl) fa72_1) rfl ?_ | refine DP.qgT rfl rfl (Ev.faa (.c rfl) fa72_1) rfl ?_
    first | refine DP.qgT rfl rfl (Ev.lde1 (.c rfl) ag9) rfl ?_ | refine DP.qgT rfl rfl (Ev.ldb1 0 (.c rfl) rfl ag9 rfl) rfl ?_ | refine DP.qgT rfl rfl (Ev.ldb1 1 (.c rfl) rfl ag9 rfl) rfl ?_ | refine DP.qgT rfl rfl (Ev.ldb1 2 (.c rfl) rfl ag9 rfl) rfl ?_ | refine DP.qgT rfl rfl (Ev.ldb1 3 (.c rfl) rfl ag9 rfl) rfl ?_
    first | refine DP.qgT rfl rfl (Ev.fae (.t rfl) fa72_1 rfl) rfl ?_ | refine DP.qgT rfl rfl (Ev.fab (.t rfl) fa72_1) rfl ?_ | refine DP.qgT rfl rfl (Ev.faa (.t rfl) fa72_1) rfl ?_
    first | refine DP.qgT rfl rfl (Ev.lde1 (.c rfl) ag9) rfl ?_ | refine DP.qgT rfl rfl (Ev.ldb1 0 (.c rfl) rfl ag9 rfl) rfl ?_ | refine DP.qgT rfl rfl (Ev.ldb1 1 (.c rfl) rfl ag9 rfl) rfl ?_ | refine DP.qgT rfl rfl (Ev.ldb1 2 (.c rfl) rfl ag9 rfl) rfl ?_ | refine DP.qgT rfl rfl (Ev.ldb1 3 (.c rfl) rfl ag9 rfl) rfl ?_
    refine DP.qgT rfl rfl (Ev.eqs (.c rfl) (.c rfl)) rfl ?_
    refine DP.q (Ev.and (.t rfl) ⟨_, _, rfl, rfl, by first | (simp; done) | (intro hg_ hp_; simp [hp_]; done) | (simp <;> omega; done) | (simp_all; done) | grind⟩) rfl ?_
    refine DP.q (Ev.assign (.t rfl)) rfl ?_
    refine DP.nil ?_
    refine W.then ?_
    refine W.seq ?_
    refine W.region ?_
    first | refine W.q (Ev.fae (.t rfl) fa72_4 rfl) rfl ?_ | refine W.q (Ev.fab (.t rfl) fa72_4) rfl ?_ | refine W.q (Ev.faa (.t rfl) fa72_4) rfl ?_
    first | refine W.q (Ev.lde1 (.t rfl) ag9) rfl ?_ | refine W.q (Ev.ldb1 0 (.t rfl) rfl ag9 rfl) rfl ?_ | refine W.q (Ev.ldb1 1 (.t rfl) rfl ag9 rfl) rfl ?_ | refine W.q (Ev.ldb1 2 (.t rfl) rfl ag9 rfl) rfl ?_ | refine W.q (Ev.ldb1 3 (.t rfl) rfl ag9 rfl) rfl ?_
    refine W.q (Ev.nes (.t rfl) .k) rfl ?_
    refine W.q (Ev.move (.t rfl)) rfl ?_
    first | refine W.qgF rfl rfl (Ev.fae (.t rfl) fa72_1 rfl) rfl ?_ | refine W.qgF rfl rfl (Ev.fab (.t rfl) fa72_1) rfl ?_ | refine W.qgF rfl rfl (Ev.faa (.t rfl) fa72_1) rfl ?_
    first | refine W.qgF rfl rfl (Ev.lde1 (.c rfl) ag9) rfl ?_ | refine W.qgF rfl rfl (Ev.ldb1 0 (.c rfl) rfl ag9 rfl) rfl ?_ | refine W.qgF rfl rfl (Ev.ldb1 1 (.c rfl) rfl ag9 rfl) rfl ?_ | refine W.qgF rfl rfl (Ev.ldb1 2 (.c rfl) rfl ag9 rfl) rfl ?_ | refine W.qgF rfl rfl (Ev.ldb1 3 (.c rfl) rfl ag9 rfl) rfl ?_
    refine W.callgF (Min := []) (caps := []) (avs := [_]) rfl rfl (fun hg => c_raw t.name) (fun hg => .f) (fun hg => ⟨(.i rfl (fun _ => hg)), trivial⟩) rfl (.refl _) rfl ?_
    refine W.qgF rfl rfl (Ev.move (.c rfl)) rfl ?_
    refine W.qgT' rfl rfl (Ev.move (.t rfl)) rfl ?_
    refine W.qgT' rfl rfl (Ev.not (.c rfl)) rfl ?_
    refine W.qgF rfl rfl (Ev.and (.c rfl) ⟨_, _, rfl, rfl, by first | (simp; done) | (intro hg_ hp_; simp [hp_]; done) | (simp <;> omega; done) | (simp_all; done) | grind⟩) rfl ?_
    refine W.q (Ev.or (.t rfl) ⟨_, _, rfl, rfl, by first | (simp; done) | (intro hg_ hp_; simp [hp_]; done) | (simp <;> omega; done) | (simp_all; done) | grind⟩) rfl ?_
    refine W.q (Ev.assign (.t rfl)) rfl ?_
    refine W.nil ?_
    refine W.then ?_
    refine W.ret ?_
    refine W.blk_ret ?_
    refine W.then_ret ?_
    refine W.retn (M' := []) (D := _) (rs := [.tmp 6]) (avs := [_]) Try.results61 ⟨rfl, trivial⟩ rfl (.refl _) ?_
    refine ⟨congrArg AV.bool ?_, rfl⟩
    first | (rw [g1, g2]; simp; done) | (rw [g1, g2, g3]; simp; done) | (rw [g1, g2, g3]; simp [g4, hl3]; done)
  · have h10 := beq_eq_false_iff_ne.1 hc_t10
    refine W.seq ?_
    refine W.region ?_
    refine W.q (Ev.eqi (.t rfl) .k) rfl ?_
    refine W.q (Ev.assign (.t rfl)) rfl ?_
    refine W.nil ?_
    refine W.then ?_
    refine W.cond (.t rfl) (fun hc_t43 => ?_) (fun hc_t43 => ?_)
    · have h43 := beq_iff_eq.1 hc_t43
      obtain ⟨g1, g2, g3⟩ := Tk.odd_no2 ht h43
      refine W.seq ?_
      refine W.region ?_
      first | refine W.q (Ev.fae (.t rfl) fa72_2 rfl) rfl ?_ | refine W.q (Ev.fab (.t rfl) fa72_2) rfl ?_ | refine W.q (Ev.faa (.t rfl) fa72_2) rfl ?_
      first | refine W.q (Ev.lde1 (.t rfl) ag33) rfl ?_ | refine W.q (Ev.ldb1 0 (.t rfl) rfl ag33 rfl) rfl ?_ | refine W.q (Ev.ldb1 1 (.t rfl) rfl ag33 rfl) rfl ?_ | refine W.q (Ev.ldb1 2 (.t rfl) rfl ag33 rfl) rfl ?_ | refine W.q (Ev.ldb1 3 (.t rfl) rfl ag33 rfl) rfl ?_
      first | refine W.q (Ev.lensl (.t rfl) Try.underlying33) rfl ?_ | refine W.q (Ev.lenar (i := 0) (.t rfl) rfl Try.underlying33) rfl ?_ | refine W.q (Ev.lenar (i := 1) (.t rfl) rfl Try.underlying33) rfl ?_ | refine W.q (Ev.lenar (i := 2) (.t rfl) rfl Try.underlying33) rfl ?_ | refine W.q (Ev.lenar (i := 3) (.t rfl) rfl Try.underlying33) rfl ?_
      refine W.q (Ev.gti (.t rfl) .k) rfl ?_
      refine W.q (Ev.move (.t rfl)) rfl ?_
      first | refine W.qgF rfl rfl (Ev.fae (.t rfl) fa72_3 rfl) rfl ?_ | refine W.qgF rfl rfl (Ev.fab (.t rfl) fa72_3) rfl ?_ | refine W.qgF rfl rfl (Ev.faa (.t rfl) fa72_3) rfl ?_
      first | refine W.qgF rfl rfl (Ev.lde1 (.c rfl) ag4) rfl ?_ | refine W.qgF rfl rfl (Ev.ldb1 0 (.c rfl) rfl ag4 rfl) rfl ?_ | refine W.qgF rfl rfl (Ev.ldb1 1 (.c rfl) rfl ag4 rfl) rfl ?_ | refine W.qgF rfl rfl (Ev.ldb1 2 (.c rfl) rfl ag4 rfl) rfl ?_ | refine W.qgF rfl rfl (Ev.ldb1 3 (.c rfl) rfl ag4 rfl) rfl ?_
      refine W.q (Ev.or (.t rfl) ⟨_, _, rfl, rfl, by first | (simp; done) | (intro hg_ hp_; simp [hp_]; done) | (simp <;> omega; done) | (simp_all; done) | grind⟩) rfl ?_
      refine W.q (Ev.move (.t rfl)) rfl ?_
      first | refine W.qgF rfl rfl (Ev.fae (.t rfl) fa72_4 rfl) rfl ?_ | refine W.qgF rfl rfl (Ev.fab (.t rfl) fa72_4) rfl ?_ | refine W.qgF rfl rfl (Ev.faa (.t rfl) fa72_4) rfl ?_
      first | refine W.qgF rfl rfl (Ev.lde1 (.c rfl) ag9) rfl ?_ | refine W.qgF rfl rfl (Ev.ldb1 0 (.c rfl) rfl ag9 rfl) rfl ?_ | refine W.qgF rfl rfl (Ev.ldb1 1 (.c rfl) rfl ag9 rfl) rfl ?_ | refine W.qgF rfl rfl (Ev.ldb1 2 (.c rfl) rfl ag9 rfl) rfl ?_ | refine W.qgF rfl rfl (Ev.ldb1 3 (.c rfl) rfl ag9 rfl) rfl ?_
      refine W.qgF rfl rfl (Ev.nes (.c rfl) .k) rfl ?_
      refine W.q (Ev.or (.t rfl) ⟨_, _, rfl, rfl, by first | (simp; done) | (intro hg_ hp_; simp [hp_]; done) | (simp <;> omega; done) | (simp_all; done) | grind⟩) rfl ?_
      refine W.q (Ev.assign (.t rfl)) rfl ?_
      refine W.nil ?_
      refine W.then ?_
      refine W.ret ?_
      refine W.blk_ret ?_
      refine W.then_ret ?_
      refine W.retn (M' := []) (D := _) (rs := [.tmp 6]) (avs := [_]) Try.results61 ⟨rfl, trivial⟩ rfl (.refl _) ?_
      refine ⟨congrArg AV.bool ?_, rfl⟩
      first | (rw [g1, g2]; simp; done) | (rw [g1, g2, g3]; simp; done) | (rw [g1, g2, g3]; simp [g4, hl3]; done)
    · have h43 := beq_eq_false_iff_ne.1 hc_t43
      refine W.seq ?_
      refine W.region ?_
      refine W.q (Ev.eqi (.t rfl) .k) rfl ?_
      refine W.q (Ev.assign (.t rfl)) rfl ?_
      refine W.nil ?_
      refine W.then ?_
      refine W.cond (.t rfl) (fun hc_t58 => ?_) (fun hc_t58 => ?_)
      · have h58 := beq_iff_eq.1 hc_t58
        obtain ⟨g1, g2, g3, g4⟩ := Tk.odd_no3 ht h58
        have hl3 := hl h58
        refine W.seq ?_
        refine W.region ?_
        first | refine W.q (Ev.fae (.t rfl) fa72_4 rfl) rfl ?_ | refine W.q (Ev.fab (.t rfl) fa72_4) rfl ?_ | refine W.q (Ev.faa (.t rfl) fa72_4) rfl ?_
        first | refine W.q (Ev.lde1 (.t rfl) ag9) rfl ?_ | refine W.q (Ev.ldb1 0 (.t rfl) rfl ag9 rfl) rfl ?_ | refine W.q (Ev.ldb1 1 (.t rfl) rfl ag9 rfl) rfl ?_ | refine W.q (Ev.ldb1 2 (.t rfl) rfl ag9 rfl) rfl ?_ | refine W.q (Ev.ldb1 3 (.t rfl) rfl ag9 rfl) rfl ?_
        refine W.q (Ev.eqs (.t rfl) .k) rfl ?_
        refine W.q (Ev.move (.t rfl)) rfl ?_
        first | refine W.qgF rfl rfl (Ev.fae (.t rfl) fa72_1 rfl) rfl ?_ | refine W.qgF rfl rfl (Ev.fab (.t rfl) fa72_1) rfl ?_ | refine W.qgF rfl rfl (Ev.faa (.t rfl) fa72_1) rfl ?_
        first | refine W.qgF rfl rfl (Ev.lde1 (.c rfl) ag9) rfl ?_ | refine W.qgF rfl rfl (Ev.ldb1 0 (.c rfl) rfl ag9 rfl) rfl ?_ | refine W.qgF rfl rfl (Ev.ldb1 1 (.c rfl) rfl ag9 rfl) rfl ?_ | refine W.qgF rfl rfl (Ev.ldb1 2 (.c rfl) rfl ag9 rfl) rfl ?_ | refine W.qgF rfl rfl (Ev.ldb1 3 (.c rfl) rfl ag9 rfl) rfl ?_
        refine W.qgF rfl rfl (Ev.nes (.c rfl) .k) rfl ?_
        refine W.q (Ev.or (.t rfl) ⟨_, _, rfl, rfl, by first | (simp; done) | (intro hg_ hp_; simp [hp_]; done) | (simp <;> omega; done) | (simp_all; done) | grind⟩) rfl ?_
        refine W.q (Ev.move (.t rfl)) rfl ?_
        first | refine W.qgF rfl rfl (Ev.fae (.t rfl) fa72_2 rfl) rfl ?_ | refine W.qgF rfl rfl (Ev.fab (.t rfl) fa72_2) rfl ?_ | refine W.qgF rfl rfl (Ev.faa (.t rfl) fa72_2) rfl ?_
        first | refine W.qgF rfl rfl (Ev.lde1 (.c rfl) ag33) rfl ?_ | refine W.qgF rfl rfl (Ev.ldb1 0 (.c rfl) rfl ag33 rfl) rfl ?_ | refine W.qgF rfl rfl (Ev.ldb1 1 (.c rfl) rfl ag33 rfl) rfl ?_ | refine W.qgF rfl rfl (Ev.ldb1 2 (.c rfl) rfl ag33 rfl) rfl ?_ | refine W.qgF rfl rfl (Ev.ldb1 3 (.c rfl) rfl ag33 rfl) rfl ?_
        first | refine W.qgF rfl rfl (Ev.lensl (.c rfl) Try.underlying33) rfl ?_ | refine W.qgF rfl rfl (Ev.lenar (i := 0) (.c rfl) rfl Try.underlying33) rfl ?_ | refine W.qgF rfl rfl (Ev.lenar (i := 1) (.c rfl) rfl Try.underlying33) rfl ?_ | refine W.qgF rfl rfl (Ev.lenar (i := 2) (.c rfl) rfl Try.underlying33) rfl ?_ | refine W.qgF rfl rfl (Ev.lenar (i := 3) (.c rfl) rfl Try.underlying33) rfl ?_
        refine W.qgF rfl rfl (Ev.gti (.c rfl) .k) rfl ?_
        refine W.q (Ev.or (.t rfl) ⟨_, _, rfl, rfl, by first | (simp; done) | (intro hg_ hp_; simp [hp_]; done) | (simp <;> omega; done) | (simp_all; done) | grind⟩) rfl ?_
        refine W.q (Ev.move (.t rfl)) rfl ?_
        first | refine W.qgF rfl rfl (Ev.fae (.t rfl) fa72_3 rfl) rfl ?_ | refine W.qgF rfl rfl (Ev.fab (.t rfl) fa72_3) rfl ?_ | refine W.qgF rfl rfl (Ev.faa (.t rfl) fa72_3) rfl ?_
        first | refine W.qgF rfl rfl (Ev.lde1 (.c rfl) ag4) rfl ?_ | refine W.qgF rfl rfl (Ev.ldb1 0 (.c rfl) rfl ag4 rfl) rfl ?_ | refine W.qgF rfl rfl (Ev.ldb1 1 (.c rfl) rfl ag4 rfl) rfl ?_ | refine W.qgF rfl rfl (Ev.ldb1 2 (.c rfl) rfl ag4 rfl) rfl ?_ | refine W.qgF rfl rfl (Ev.ldb1 3 (.c rfl) rfl ag4 rfl) rfl ?_
        refine W.q (Ev.or (.t rfl) ⟨_, _, rfl, rfl, by first | (simp; done) | (intro hg_ hp_; simp [hp_]; done) | (simp <;> omega; done) | (simp_all; done) | grind⟩) rfl ?_
        refine W.q (Ev.move (.t rfl)) rfl ?_
        refine W.qgF rfl rfl (Ev.move (.t rfl)) rfl ?_
        refine W.qgF rfl rfl (Ev.eqi (.c rfl) .k) rfl ?_
        refine W.q (Ev.or (.t rfl) ⟨_, _, rfl, rfl, by first | (simp; done) | (intro hg_ hp_; simp [hp_]; done) | (simp <;> omega; done) | (simp_all; done) | grind⟩) rfl ?_
        refine W.q (Ev.assign (.t rfl)) rfl ?_
        refine W.nil ?_
        refine W.then ?_
        refine W.ret ?_
        refine W.blk_ret ?_
        refine W.then_ret ?_
        refine W.retn (M' := []) (D := _) (rs := [.tmp 6]) (avs := [_]) Try.results61 ⟨rfl, trivial⟩ rfl (.refl _) ?_
        refine ⟨congrArg AV.bool ?_, rfl⟩
        first | (rw [g1, g2]; simp; done) | (rw [g1, g2, g3]; simp; done) | (rw [g1, g2, g3]; simp [g4, hl3]; done)
      · exact absurd (beq_eq_false_iff_ne.1 hc_t58) (by omega)

theorem c_Check (l : List Tk) (hd : Tk.drawns false l) (hl : l.length ≤ 300) : FnP Try.prog 43 [.sl 5 (l.map tav)] (.int 0) :=  by
  refine FnC.mk Try.func43 (by kernel_rfl) rfl Try.ntmps43 rfl (fun w0 F => ?_)
  have hll : (l.map tav).length = l.length := List.length_map ..
  refine W.seq ?_
  refine W.region ?_
  refine W.q (Ev.assign .k) rfl ?_
  refine W.nil ?_
  refine W.then ?_
  refine W.seq ?_
  refine W.seq ?_
  refine W.region ?_
  refine W.q (Ev.move (.t rfl)) rfl ?_
  first | refine W.q (Ev.lensl (.t rfl) Try.underlying67) rfl ?_ | refine W.q (Ev.lenar (i := 0) (.t rfl) rfl Try.underlying67) rfl ?_ | refine W.q (Ev.lenar (i := 1) (.t rfl) rfl Try.underlying67) rfl ?_ | refine W.q (Ev.lenar (i := 2) (.t rfl) rfl Try.underlying67) rfl ?_ | refine W.q (Ev.lenar (i := 3) (.t rfl) rfl Try.underlying67) rfl ?_
  refine W.q (Ev.gti (.t rfl) .k) rfl ?_
  refine W.nil ?_
  refine W.then ?_
  refine W.is (t := 9) (g := true) (av' := .lit (.bool false)) rfl (congrArg (fun b => AV.lit (.bool b)) (by exact decide_eq_false (by omega))) ?_
  refine W.condF (.t rfl) ?_
  refine W.skip ?_
  refine W.then ?_
  refine W.seq ?_
  refine W.region ?_
  refine W.q (Ev.assign .k) rfl ?_
  refine W.nil ?_
  refine W.then ?_
  refine W.seq ?_
  refine W.seq ?_
  refine W.region ?_
  refine W.q (Ev.move (.t rfl)) rfl ?_
  first | refine W.q (Ev.lensl (.t rfl) Try.underlying67) rfl ?_ | refine W.q (Ev.lenar (i := 0) (.t rfl) rfl Try.underlying67) rfl ?_ | refine W.q (Ev.lenar (i := 1) (.t rfl) rfl Try.underlying67) rfl ?_ | refine W.q (Ev.lenar (i := 2) (.t rfl) rfl Try.underlying67) rfl ?_ | refine W.q (Ev.lenar (i := 3) (.t rfl) rfl Try.underlying67) rfl ?_
  refine W.q (Ev.move .k) rfl ?_
  refine W.nil ?_
  refine W.then ?_
  refine W.block ?_
  refine W.loop (D := []) (ι := Nat) (fun z => [(12, true, .int (z : Int)), (11, true, .int ((l.map tav).length : Int)), (10, true, .sl 5 (l.map tav)), (0, true, .sl 5 (l.map tav)), (3, true, .int (if z = 0 then 0 else (l.getD (z - 1) Tk.dfl).kind))]) (fun _ => []) (fun i => i ≤ l.length) (fun i => l.length - i) 0 ⟨rfl, rfl, rfl, rfl, rfl, trivial⟩ (.refl _) (Nat.zero_le _) ?_
  intro i hi
  dsimp only at hi ⊢
  rcases (show i < l.length ∨ i = l.length from by omega) with hlt | hend
  · have hga := getD_mapG tav Tk.dfl l i hlt
    obtain ⟨hdi, hd5⟩ := Tk.drawns_at hd i hlt
    generalize ht : l.getD i Tk.dfl = t at hga hdi hd5
    obtain ⟨hd1, hd2, hd3, hd4⟩ := Tk.drawn_at hdi
    refine W.seq ?_
    refine W.region ?_
    refine W.q (Ev.lti (.t rfl) (.t rfl)) rfl ?_
    refine W.nil ?_
    refine W.then ?_
    refine W.seq ?_
    refine W.is (t := 13) (g := true) (av' := .lit (.bool true)) rfl (congrArg (fun b => AV.lit (.bool b)) (by exact decide_eq_true (by omega))) ?_
    refine W.condT (.t rfl) ?_
    refine W.skip ?_
    refine W.then ?_
    refine W.seq ?_
    refine W.block ?_
    refine W.seq ?_
    refine W.region ?_
    refine W.q (Ev.move (.t rfl)) rfl ?_
    refine W.q (Ev.at (E := 72) (.t rfl) (.t rfl) Try.underlying67 ty72 (fun _ => ⟨by omega, hga⟩) rfl rfl) rfl ?_
    first | refine W.q (Ev.lden (.t rfl) ag72 ty72 rfl rfl) rfl ?_ | refine W.q (Ev.ldbn 0 (.t rfl) rfl ag72 ty72 rfl) rfl ?_ | refine W.q (Ev.ldbn 1 (.t rfl) rfl ag72 ty72 rfl) rfl ?_ | refine W.q (Ev.ldbn 2 (.t rfl) rfl ag72 ty72 rfl) rfl ?_ | refine W.q (Ev.ldbn 3 (.t rfl) rfl ag72 ty72 rfl) rfl ?_
    refine W.alloc ty72 rfl rfl ?_
    intro b5
    refine W.q (Ev.assign (.t rfl)) rfl ?_
    first | refine W.stb 0 (.t rfl) (.t rfl) rfl ty72 rfl rfl rfl ?_ | refine W.stb 1 (.t rfl) (.t rfl) rfl ty72 rfl rfl rfl ?_ | refine W.stb 2 (.t rfl) (.t rfl) rfl ty72 rfl rfl rfl ?_ | refine W.stb 3 (.t rfl) (.t rfl) rfl ty72 rfl rfl rfl ?_
    refine W.nil ?_
    refine W.then ?_
    refine W.seq ?_
    refine W.seq ?_
    refine W.region ?_
    first | refine W.q (Ev.fae (.t rfl) fa72_0 rfl) rfl ?_ | refine W.q (Ev.fab (.t rfl) fa72_0) rfl ?_ | refine W.q (Ev.faa (.t rfl) fa72_0) rfl ?_
    first | refine W.q (Ev.lde1 (.t rfl) ag3) rfl ?_ | refine W.q (Ev.ldb1 0 (.t rfl) rfl ag3 rfl) rfl ?_ | refine W.q (Ev.ldb1 1 (.t rfl) rfl ag3 rfl) rfl ?_ | refine W.q (Ev.ldb1 2 (.t rfl) rfl ag3 rfl) rfl ?_ | refine W.q (Ev.ldb1 3 (.t rfl) rfl ag3 rfl) rfl ?_
    refine W.q (Ev.lti (.t rfl) .k) rfl ?_
    refine W.q (Ev.move (.t rfl)) rfl ?_
    first | refine W.qgF rfl rfl (Ev.fae (.t rfl) fa72_0 rfl) rfl ?_ | refine W.qgF rfl rfl (Ev.fab (.t rfl) fa72_0) rfl ?_ | refine W.qgF rfl rfl (Ev.faa (.t rfl) fa72_0) rfl ?_
    first | refine W.qgF rfl rfl (Ev.lde1 (.c rfl) ag3) rfl ?_ | refine W.qgF rfl rfl (Ev.ldb1 0 (.c rfl) rfl ag3 rfl) rfl ?_ | refine W.qgF rfl rfl (Ev.ldb1 1 (.c rfl) rfl ag3 rfl) rfl ?_ | refine W.qgF rfl rfl (Ev.ldb1 2 (.c rfl) rfl ag3 rfl) rfl ?_ | refine W.qgF rfl rfl (Ev.ldb1 3 (.c rfl) rfl ag3 rfl) rfl ?_
    refine W.qgF rfl rfl (Ev.gti (.c rfl) .k) rfl ?_
    refine W.q (Ev.or (.t rfl) ⟨_, _, rfl, rfl, by first | (simp; done) | (intro hg_ hp_; simp [hp_]; done) | (simp <;> omega; done) | (simp_all; done) | grind⟩) rfl ?_
    refine W.nil ?_
    refine W.then ?_
    refine W.is (t := 24) (g := true) (av' := .lit (.bool false)) rfl (congrArg (fun b => AV.lit (.bool b)) (by simp; omega)) ?_
    refine W.condF (.t rfl) ?_
    refine W.skip ?_
    refine W.then ?_
    refine W.seq ?_
    refine W.seq ?_
    refine W.region ?_
    first | refine W.q (Ev.fae (.t rfl) fa72_0 rfl) rfl ?_ | refine W.q (Ev.fab (.t rfl) fa72_0) rfl ?_ | refine W.q (Ev.faa (.t rfl) fa72_0) rfl ?_
    first | refine W.q (Ev.lde1 (.t rfl) ag3) rfl ?_ | refine W.q (Ev.ldb1 0 (.t rfl) rfl ag3 rfl) rfl ?_ | refine W.q (Ev.ldb1 1 (.t rfl) rfl ag3 rfl) rfl ?_ | refine W.q (Ev.ldb1 2 (.t rfl) rfl ag3 rfl) rfl ?_ | refine W.q (Ev.ldb1 3 (.t rfl) rfl ag3 rfl) rfl ?_
    refine W.q (Ev.lei (.t rfl) .k) rfl ?_
    refine W.nil ?_
    refine W.then ?_
    refine W.cond (.t rfl) (fun hc_t27 => ?_) (fun hc_t27 => ?_)
    · have h27 := of_decide_eq_true hc_t27
      refine W.seq ?_
      refine W.seq ?_
      refine W.region ?_
      first | refine W.q (Ev.fae (.t rfl) fa72_1 rfl) rfl ?_ | refine W.q (Ev.fab (.t rfl) fa72_1) rfl ?_ | refine W.q (Ev.faa (.t rfl) fa72_1) rfl ?_
      first | refine W.q (Ev.lde1 (.t rfl) ag9) rfl ?_ | refine W.q (Ev.ldb1 0 (.t rfl) rfl ag9 rfl) rfl ?_ | refine W.q (Ev.ldb1 1 (.t rfl) rfl ag9 rfl) rfl ?_ | refine W.q (Ev.ldb1 2 (.t rfl) rfl ag9 rfl) rfl ?_ | refine W.q (Ev.ldb1 3 (.t rfl) rfl ag9 rfl) rfl ?_
      refine W.callp (WName.c_Name t.name (by omega)) ⟨(.t rfl), trivial⟩ rfl ?_
      refine W.q (Ev.not (.t rfl)) rfl ?_
      refine W.nil ?_
      refine W.then ?_
      refine W.is (t := 31) (g := true) (av' := .lit (.bool false)) rfl (congrArg (fun b => AV.lit (.bool b)) (by rw [hd3 h27]; rfl)) ?_
      refine W.condF (.t rfl) ?_
      refine W.skip ?_
      refine W.then ?_
      refine W.seq ?_
      refine W.region ?_
      first | refine W.q (Ev.fae (.t rfl) fa72_2 rfl) rfl ?_ | refine W.q (Ev.fab (.t rfl) fa72_2) rfl ?_ | refine W.q (Ev.faa (.t rfl) fa72_2) rfl ?_
      first | refine W.q (Ev.lde1 (.t rfl) ag33) rfl ?_ | refine W.q (Ev.ldb1 0 (.t rfl) rfl ag33 rfl) rfl ?_ | refine W.q (Ev.ldb1 1 (.t rfl) rfl ag33 rfl) rfl ?_ | refine W.q (Ev.ldb1 2 (.t rfl) rfl ag33 rfl) rfl ?_ | refine W.q (Ev.ldb1 3 (.t rfl) rfl ag33 rfl) rfl ?_
      refine W.callp (WEAttrs.c_Attrs t.attrs hd1) ⟨(.t rfl), trivial⟩ rfl ?_
      refine W.q (Ev.assign (.t rfl)) rfl ?_
      refine W.nil ?_
      refine W.then ?_
      refine W.seq ?_
      refine W.region ?_
      refine W.q (Ev.move (.t rfl)) rfl ?_
      refine W.q (Ev.nei (.t rfl) .k) rfl ?_
      refine W.nil ?_
      refine W.then ?_
      refine W.is (t := 36) (g := true) (av' := .lit (.bool false)) rfl (congrArg (fun b => AV.lit (.bool b)) (by rfl)) ?_
      refine W.condF (.t rfl) ?_
      refine W.skip ?_
      refine W.then ?_
      refine W.seq ?_
      refine W.seq ?_
      refine W.drawn (by kernel_rfl) (by kernel_rfl) ?_
      first | refine DP.q (Ev.lden (.t rfl) ag72 ty72 rfl rfl) rfl ?_ | refine DP.q (Ev.ldbn 0 (.t rfl) rfl ag72 ty72 rfl) rfl ?_ | refine DP.q (Ev.ldbn 1 (.t rfl) rfl ag72 ty72 rfl) rfl ?_ | refine DP.q (Ev.ldbn 2 (.t rfl) rfl ag72 ty72 rfl) rfl ?_ | refine DP.q (Ev.ldbn 3 (.t rfl) rfl ag72 ty72 rfl) rfl ?_
      refine DP.q (Ev.move (.t rfl)) rfl ?_
      refine DP.q (Ev.move (.t rfl)) rfl ?_
      refine DP.q (Ev.move (.t rfl)) rfl ?_
      first | refine DP.q (Ev.add (.t rfl) .k (fun _ => by omega)) rfl ?_ | refine DP.q (Ev.addw (.t rfl) .k) rfl ?_
      refine DP.q (Ev.dropsl (n := i + 1) (.t rfl) Try.underlying67 ty72 (.t rfl) (by omega) (fun _ => by omega)) rfl ?_
      refine DP.callp (c_odd t ((if i = 0 then 0 else (l.getD (i - 1) Tk.dfl).kind)) (l.drop (i + 1)) hdi (by intro h3; have h4 := hd5 h3; split; decide; rename_i h0; simpa [Nat.pos_of_ne_zero h0] using h4) (by rw [List.length_drop]; omega)) ⟨(.t rfl), (.t rfl), (.t rfl), trivial⟩ rfl ?_
      refine DP.nil ?_
      refine W.then ?_
      refine W.condF (.t rfl) ?_
      refine W.skip ?_
      refine W.then ?_
      refine W.region ?_
      first | refine W.q (Ev.fae (.t rfl) fa72_0 rfl) rfl ?_ | refine W.q (Ev.fab (.t rfl) fa72_0) rfl ?_ | refine W.q (Ev.faa (.t rfl) fa72_0) rfl ?_
      first | refine W.q (Ev.lde1 (.t rfl) ag3) rfl ?_ | refine W.q (Ev.ldb1 0 (.t rfl) rfl ag3 rfl) rfl ?_ | refine W.q (Ev.ldb1 1 (.t rfl) rfl ag3 rfl) rfl ?_ | refine W.q (Ev.ldb1 2 (.t rfl) rfl ag3 rfl) rfl ?_ | refine W.q (Ev.ldb1 3 (.t rfl) rfl ag3 rfl) rfl ?_
      refine W.q (Ev.assign (.t rfl)) rfl ?_
      refine W.nil ?_
      refine W.blk_normal ?_
      refine W.then ?_
      refine W.region ?_
      first | refine W.q (Ev.add (.t rfl) .k (fun _ => by omega)) rfl ?_ | refine W.q (Ev.addw (.t rfl) .k) rfl ?_
      refine W.q (Ev.move (.t rfl)) rfl ?_
      refine W.nil ?_
      refine W.then ?_
      refine W.is (t := 3) (g := true) (av' := .int (if i + 1 = 0 then 0 else (l.getD (i + 1 - 1) Tk.dfl).kind)) rfl (congrArg AV.int (by rw [if_neg (Nat.succ_ne_zero i), Nat.add_sub_cancel, ht])) ?_
      refine W.reach (D := [_]) (i + 1) ⟨rfl, rfl, rfl, rfl, rfl, trivial⟩ (.refl _) ⟨by show i + 1 ≤ _; omega, by show _ - (i + 1) < _; omega⟩
    · refine W.skip ?_
      refine W.then ?_
      refine W.seq ?_
      refine W.seq ?_
      refine W.drawn (by kernel_rfl) (by kernel_rfl) ?_
      first | refine DP.q (Ev.lden (.t rfl) ag72 ty72 rfl rfl) rfl ?_ | refine DP.q (Ev.ldbn 0 (.t rfl) rfl ag72 ty72 rfl) rfl ?_ | refine DP.q (Ev.ldbn 1 (.t rfl) rfl ag72 ty72 rfl) rfl ?_ | refine DP.q (Ev.ldbn 2 (.t rfl) rfl ag72 ty72 rfl) rfl ?_ | refine DP.q (Ev.ldbn 3 (.t rfl) rfl ag72 ty72 rfl) rfl ?_
      refine DP.q (Ev.move (.t rfl)) rfl ?_
      refine DP.q (Ev.move (.t rfl)) rfl ?_
      refine DP.q (Ev.move (.t rfl)) rfl ?_
      first | refine DP.q (Ev.add (.t rfl) .k (fun _ => by omega)) rfl ?_ | refine DP.q (Ev.addw (.t rfl) .k) rfl ?_
      refine DP.q (Ev.dropsl (n := i + 1) (.t rfl) Try.underlying67 ty72 (.t rfl) (by omega) (fun _ => by omega)) rfl ?_
      refine DP.callp (c_odd t ((if i = 0 then 0 else (l.getD (i - 1) Tk.dfl).kind)) (l.drop (i + 1)) hdi (by intro h3; have h4 := hd5 h3; split; decide; rename_i h0; simpa [Nat.pos_of_ne_zero h0] using h4) (by rw [List.length_drop]; omega)) ⟨(.t rfl), (.t rfl), (.t rfl), trivial⟩ rfl ?_
      refine DP.nil ?_
      refine W.then ?_
      refine W.condF (.t rfl) ?_
      refine W.skip ?_
      refine W.then ?_
      refine W.region ?_
      first | refine W.q (Ev.fae (.t rfl) fa72_0 rfl) rfl ?_ | refine W.q (Ev.fab (.t rfl) fa72_0) rfl ?_ | refine W.q (Ev.faa (.t rfl) fa72_0) rfl ?_
      first | refine W.q (Ev.lde1 (.t rfl) ag3) rfl ?_ | refine W.q (Ev.ldb1 0 (.t rfl) rfl ag3 rfl) rfl ?_ | refine W.q (Ev.ldb1 1 (.t rfl) rfl ag3 rfl) rfl ?_ | refine W.q (Ev.ldb1 2 (.t rfl) rfl ag3 rfl) rfl ?_ | refine W.q (Ev.ldb1 3 (.t rfl) rfl ag3 rfl) rfl ?_
      refine W.q (Ev.assign (.t rfl)) rfl ?_
      refine W.nil ?_
      refine W.blk_normal ?_
      refine W.then ?_
      refine W.region ?_
      first | refine W.q (Ev.add (.t rfl) .k (fun _ => by omega)) rfl ?_ | refine W.q (Ev.addw (.t rfl) .k) rfl ?_
      refine W.q (Ev.move (.t rfl)) rfl ?_
      refine W.nil ?_
      refine W.then ?_
      refine W.is (t := 3) (g := true) (av' := .int (if i + 1 = 0 then 0 else (l.getD (i + 1 - 1) Tk.dfl).kind)) rfl (congrArg AV.int (by rw [if_neg (Nat.succ_ne_zero i), Nat.add_sub_cancel, ht])) ?_
      refine W.reach (D := [_]) (i + 1) ⟨rfl, rfl, rfl, rfl, rfl, trivial⟩ (.refl _) ⟨by show i + 1 ≤ _; omega, by show _ - (i + 1) < _; omega⟩
  · skip
    refine W.seq ?_
    refine W.region ?_
    refine W.q (Ev.lti (.t rfl) (.t rfl)) rfl ?_
    refine W.nil ?_
    refine W.then ?_
    refine W.seq ?_
    refine W.is (t := 13) (g := true) (av' := .lit (.bool false)) rfl (congrArg (fun b => AV.lit (.bool b)) (by exact decide_eq_false (by omega))) ?_
    refine W.condF (.t rfl) ?_
    refine W.exit ?_
    refine W.then_exit ?_
    refine W.then_exit ?_
    refine W.blk_hit ?_
    refine W.then ?_
    refine W.seq ?_
    refine W.region ?_
    refine W.q (Ev.assign .k) rfl ?_
    refine W.nil ?_
    refine W.then ?_
    refine W.ret ?_
    refine W.retn (M' := []) (rs := [.tmp 2]) (avs := [_]) Try.results43 ⟨rfl, trivial⟩ rfl (.refl _) ?_
    exact ⟨rfl, rfl⟩

end WECheck

end Go.Proofs.Yteepllfbnoaiaaa
