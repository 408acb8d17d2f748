/-
  Texts that stand apart.
-/
import Derived.Test.YteepllfbnoaiaaaDrawn
import Derived.Test.YteepllfbnoaiaaaWName
set_option linter.unusedVariables false
set_option linter.unusedSimpArgs false
set_option maxRecDepth 100000
namespace Go.Proofs.Yteepllfbnoaiaaa
open Go.Vl

namespace WApart
theorem ty9 : Ty Try.prog 9 1 16 (.string ⟨#[]⟩) := Ty.of (by kernel_rfl)
theorem ty25 : Ty Try.prog 25 1 24 (.slice none 0 0) := Ty.of (by kernel_rfl)
theorem ty33 : Ty Try.prog 33 1 24 (.slice none 0 0) := Ty.of (by kernel_rfl)
theorem ty35 : Ty Try.prog 35 4 80 (.agg #[.string ⟨#[]⟩, .slice none 0 0, .string ⟨#[]⟩, .slice none 0 0]) := Ty.of (by kernel_rfl)
theorem ag9 : IsAgg Try.prog 9 false := ⟨_, Try.underlying9, rfl⟩
theorem ag25 : IsAgg Try.prog 25 false := ⟨_, Try.underlying25, rfl⟩
theorem ag33 : IsAgg Try.prog 33 false := ⟨_, Try.underlying33, rfl⟩
theorem fa35_0 : FieldAt Try.prog 35 0 0 1 false := ⟨_, _, Try.underlying35, rfl, rfl, ty9.size, ag9, by decide⟩
theorem fa35_1 : FieldAt Try.prog 35 1 1 1 false := ⟨_, _, Try.underlying35, rfl, rfl, ty33.size, ag33, by decide⟩
theorem fa35_2 : FieldAt Try.prog 35 2 2 1 false := ⟨_, _, Try.underlying35, rfl, rfl, ty9.size, ag9, by decide⟩
theorem fa35_3 : FieldAt Try.prog 35 3 3 1 false := ⟨_, _, Try.underlying35, rfl, rfl, ty25.size, ag25, by decide⟩
theorem c_apart_step (n : Nat) (hn : n ≤ 16777216) (ih : ∀ l, Nd.szs l < n → FnP Try.prog 26 [.sl 4 (l.map Nd.av)] (.bool (Nd.apts false l))) (l : List Nd) (hl : Nd.szs l = n) : FnP Try.prog 26 [.sl 4 (l.map Nd.av)] (.bool (Nd.apts false l)) :=  by
  refine FnC.mk Try.func26 (by kernel_rfl) rfl Try.ntmps26 rfl (fun w0 F => ?_)
  have hll : (l.map Nd.av).length = l.length := List.length_map ..
  have hsl := Nd.szs_len l
  refine W.seq ?_
  refine W.region ?_
  refine W.q (Ev.assign .k) rfl ?_
  refine W.nil ?_
  refine W.then ?_
  refine W.seq ?_
  refine W.seq ?_
  refine W.region ?_
  refine W.q (Ev.assign .k) rfl ?_
  refine W.nil ?_
  refine W.then ?_
  refine W.block ?_
  refine W.loop (D := []) (ι := Nat) (fun i => [(3, true, .int (i : Int)), (0, true, .sl 4 (l.map Nd.av))]) (fun _ => []) (fun i => i ≤ l.length ∧ Nd.apts false (l.take i) = true) (fun i => l.length - i) 0 ⟨rfl, rfl, trivial⟩ (.refl _) ⟨Nat.zero_le _, rfl⟩ ?_
  rintro i ⟨hi, hi2⟩
  dsimp only at hi hi2 ⊢
  rcases (show i < l.length ∨ i = l.length from by omega) with hlt | hend
  · have hge0 : 0 < i → (l.map Nd.av)[i - 1]? = some (Nd.avx (l.getD (i - 1) Nd.dflt)) := fun h => Nd.at_av l (i - 1) (by omega)
    have hlast := Nd.lastT_take l i hi
    generalize l.getD (i - 1) Nd.dflt = e at hge0 hlast
    have hge : 0 < i → 0 ≤ (i : Int) - 1 ∧ (l.map Nd.av)[((i : Int) - 1).toNat]? = some (Nd.avx e) := fun h => ⟨by omega, by rw [show ((i : Int) - 1).toNat = i - 1 from by omega]; exact hge0 h⟩
    have hga := Nd.at_av l i hlt
    have hsz := Nd.at_sz l i hlt
    generalize hd : l.getD i Nd.dflt = d at hga hsz
    have hse := Nd.sz_eq d
    have hsp := Nd.szs_len d.parts
    have hat : (d.attrs.map dav).length = d.attrs.length := List.length_map ..
    have hsp : Nd.apts false l = (Nd.apts false (l.take i) && Nd.apts (Nd.lastT false (l.take i)) (d :: l.drop (i + 1))) := by rw [← hd, ← drop_getDG Nd.dflt l i hlt, ← Nd.apts_append, List.take_append_drop]
    rw [hlast] at hsp
    obtain ⟨hsq, hsr, hsq2⟩ := Nd.apt1_prog d ((d.parts.map Nd.av).length) ((d.attrs.map dav).length) (decide ((0 : Int) < (i : Int)) && (e.name == [])) (List.length_map ..) (List.length_map ..)
    skip
    refine W.seq ?_
    refine W.seq ?_
    refine W.region ?_
    refine W.q (Ev.move (.t rfl)) rfl ?_
    refine W.q (Ev.move (.t rfl)) rfl ?_
    first | refine W.q (Ev.lensl (.t rfl) Try.underlying25) rfl ?_ | refine W.q (Ev.lenar (i := 0) (.t rfl) rfl Try.underlying25) rfl ?_ | refine W.q (Ev.lenar (i := 1) (.t rfl) rfl Try.underlying25) rfl ?_ | refine W.q (Ev.lenar (i := 2) (.t rfl) rfl Try.underlying25) rfl ?_ | refine W.q (Ev.lenar (i := 3) (.t rfl) rfl Try.underlying25) rfl ?_
    refine W.q (Ev.lti (.t rfl) (.t rfl)) rfl ?_
    refine W.nil ?_
    refine W.then ?_
    refine W.is (t := 8) (g := true) (av' := .lit (.bool true)) rfl (congrArg (fun b => AV.lit (.bool b)) (by exact decide_eq_true (by omega))) ?_
    refine W.condT (.t rfl) ?_
    refine W.skip ?_
    refine W.then ?_
    refine W.seq ?_
    refine W.block ?_
    refine W.seq ?_
    refine W.region ?_
    refine W.q (Ev.move (.t rfl)) rfl ?_
    refine W.q (Ev.move (.t rfl)) rfl ?_
    refine W.q (Ev.at (E := 35) (.t rfl) (.t rfl) Try.underlying25 ty35 (fun _ => ⟨by omega, hga⟩) rfl rfl) rfl ?_
    first | refine W.q (Ev.fae (.t rfl) fa35_0 rfl) rfl ?_ | refine W.q (Ev.fab (.t rfl) fa35_0) rfl ?_ | refine W.q (Ev.faa (.t rfl) fa35_0) rfl ?_
    first | refine W.q (Ev.lde1 (.t rfl) ag9) rfl ?_ | refine W.q (Ev.ldb1 0 (.t rfl) rfl ag9 rfl) rfl ?_ | refine W.q (Ev.ldb1 1 (.t rfl) rfl ag9 rfl) rfl ?_ | refine W.q (Ev.ldb1 2 (.t rfl) rfl ag9 rfl) rfl ?_ | refine W.q (Ev.ldb1 3 (.t rfl) rfl ag9 rfl) rfl ?_
    refine W.q (Ev.eqs (.t rfl) .k) rfl ?_
    refine W.q (Ev.assign (.t rfl)) rfl ?_
    refine W.nil ?_
    refine W.then ?_
    refine W.seq ?_
    refine W.seq ?_
    refine W.region ?_
    refine W.q (Ev.move (.t rfl)) rfl ?_
    refine W.q (Ev.move (.t rfl)) rfl ?_
    refine W.qgT rfl rfl (Ev.move (.t rfl)) rfl ?_
    refine W.qgT rfl rfl (Ev.move (.t rfl)) rfl ?_
    refine W.qgT rfl rfl (Ev.at (E := 35) (.c rfl) (.c rfl) Try.underlying25 ty35 (fun hg => ⟨by omega, hga⟩) rfl rfl) rfl ?_
    first | refine W.qgT rfl rfl (Ev.fae (.c rfl) fa35_2 rfl) rfl ?_ | refine W.qgT rfl rfl (Ev.fab (.c rfl) fa35_2) rfl ?_ | refine W.qgT rfl rfl (Ev.faa (.c rfl) fa35_2) rfl ?_
    first | refine W.qgT rfl rfl (Ev.lde1 (.c rfl) ag9) rfl ?_ | refine W.qgT rfl rfl (Ev.ldb1 0 (.c rfl) rfl ag9 rfl) rfl ?_ | refine W.qgT rfl rfl (Ev.ldb1 1 (.c rfl) rfl ag9 rfl) rfl ?_ | refine W.qgT rfl rfl (Ev.ldb1 2 (.c rfl) rfl ag9 rfl) rfl ?_ | refine W.qgT rfl rfl (Ev.ldb1 3 (.c rfl) rfl ag9 rfl) rfl ?_
    refine W.qgT rfl rfl (Ev.eqs (.c rfl) .k) rfl ?_
    refine W.qgT rfl rfl (Ev.move (.c rfl)) rfl ?_
    refine W.qgF' rfl rfl (Ev.move (.t rfl)) rfl ?_
    refine W.qgF' rfl rfl (Ev.move (.t rfl)) rfl ?_
    refine W.qgF' rfl rfl (Ev.at (E := 35) (.c rfl) (.c rfl) Try.underlying25 ty35 (fun hg => ⟨by omega, hga⟩) rfl rfl) rfl ?_
    first | refine W.qgF' rfl rfl (Ev.fae (.c rfl) fa35_3 rfl) rfl ?_ | refine W.qgF' rfl rfl (Ev.fab (.c rfl) fa35_3) rfl ?_ | refine W.qgF' rfl rfl (Ev.faa (.c rfl) fa35_3) rfl ?_
    first | refine W.qgF' rfl rfl (Ev.lde1 (.c rfl) ag25) rfl ?_ | refine W.qgF' rfl rfl (Ev.ldb1 0 (.c rfl) rfl ag25 rfl) rfl ?_ | refine W.qgF' rfl rfl (Ev.ldb1 1 (.c rfl) rfl ag25 rfl) rfl ?_ | refine W.qgF' rfl rfl (Ev.ldb1 2 (.c rfl) rfl ag25 rfl) rfl ?_ | refine W.qgF' rfl rfl (Ev.ldb1 3 (.c rfl) rfl ag25 rfl) rfl ?_
    first | refine W.qgF' rfl rfl (Ev.lensl (.c rfl) Try.underlying25) rfl ?_ | refine W.qgF' rfl rfl (Ev.lenar (i := 0) (.c rfl) rfl Try.underlying25) rfl ?_ | refine W.qgF' rfl rfl (Ev.lenar (i := 1) (.c rfl) rfl Try.underlying25) rfl ?_ | refine W.qgF' rfl rfl (Ev.lenar (i := 2) (.c rfl) rfl Try.underlying25) rfl ?_ | refine W.qgF' rfl rfl (Ev.lenar (i := 3) (.c rfl) rfl Try.underlying25) rfl ?_
    refine W.qgF' rfl rfl (Ev.gti (.c rfl) .k) rfl ?_
    refine W.qgT rfl rfl (Ev.or (.c rfl) ⟨_, _, rfl, rfl, by first | (simp; done) | (intro hg_ hp_; simp [hp_]; done) | (simp <;> omega; done) | (simp_all; done) | grind⟩) rfl ?_
    refine W.qgT rfl rfl (Ev.move (.c rfl)) rfl ?_
    refine W.qgF' rfl rfl (Ev.move (.t rfl)) rfl ?_
    refine W.qgF' rfl rfl (Ev.move (.t rfl)) rfl ?_
    refine W.qgF' rfl rfl (Ev.at (E := 35) (.c rfl) (.c rfl) Try.underlying25 ty35 (fun hg => ⟨by omega, hga⟩) rfl rfl) rfl ?_
    first | refine W.qgF' rfl rfl (Ev.fae (.c rfl) fa35_1 rfl) rfl ?_ | refine W.qgF' rfl rfl (Ev.fab (.c rfl) fa35_1) rfl ?_ | refine W.qgF' rfl rfl (Ev.faa (.c rfl) fa35_1) rfl ?_
    first | refine W.qgF' rfl rfl (Ev.lde1 (.c rfl) ag33) rfl ?_ | refine W.qgF' rfl rfl (Ev.ldb1 0 (.c rfl) rfl ag33 rfl) rfl ?_ | refine W.qgF' rfl rfl (Ev.ldb1 1 (.c rfl) rfl ag33 rfl) rfl ?_ | refine W.qgF' rfl rfl (Ev.ldb1 2 (.c rfl) rfl ag33 rfl) rfl ?_ | refine W.qgF' rfl rfl (Ev.ldb1 3 (.c rfl) rfl ag33 rfl) rfl ?_
    first | refine W.qgF' rfl rfl (Ev.lensl (.c rfl) Try.underlying33) rfl ?_ | refine W.qgF' rfl rfl (Ev.lenar (i := 0) (.c rfl) rfl Try.underlying33) rfl ?_ | refine W.qgF' rfl rfl (Ev.lenar (i := 1) (.c rfl) rfl Try.underlying33) rfl ?_ | refine W.qgF' rfl rfl (Ev.lenar (i := 2) (.c rfl) rfl Try.underlying33) rfl ?_ | refine W.qgF' rfl rfl (Ev.lenar (i := 3) (.c rfl) rfl Try.underlying33) rfl ?_
    refine W.qgF' rfl rfl (Ev.gti (.c rfl) .k) rfl ?_
    refine W.qgT rfl rfl (Ev.or (.c rfl) ⟨_, _, rfl, rfl, by first | (simp; done) | (intro hg_ hp_; simp [hp_]; done) | (simp <;> omega; done) | (simp_all; done) | grind⟩) rfl ?_
    refine W.qgT rfl rfl (Ev.move (.c rfl)) rfl ?_
    refine W.qgF' rfl rfl (Ev.move (.t rfl)) rfl ?_
    refine W.qgF' rfl rfl (Ev.gti (.c rfl) .k) rfl ?_
    refine W.qgF' rfl rfl (Ev.move (.c rfl)) rfl ?_
    refine W.qgT' rfl rfl (Ev.move (.t rfl)) rfl ?_
    refine W.qgT' rfl rfl (Ev.move (.t rfl)) rfl ?_
    first | refine W.qgT' rfl rfl (Ev.sub (.c rfl) .k (fun _ => by omega)) rfl ?_ | refine W.qgT' rfl rfl (Ev.subw (.c rfl) .k) rfl ?_
    refine W.qgT' rfl rfl (Ev.at (E := 35) (e := Nd.avx e) (.c rfl) (.c rfl) Try.underlying25 ty35 (fun hg => hge (by simp at hg; omega)) rfl rfl) rfl ?_
    first | refine W.qgT' rfl rfl (Ev.fae (.c rfl) fa35_0 rfl) rfl ?_ | refine W.qgT' rfl rfl (Ev.fab (.c rfl) fa35_0) rfl ?_ | refine W.qgT' rfl rfl (Ev.faa (.c rfl) fa35_0) rfl ?_
    first | refine W.qgT' rfl rfl (Ev.lde1 (.c rfl) ag9) rfl ?_ | refine W.qgT' rfl rfl (Ev.ldb1 0 (.c rfl) rfl ag9 rfl) rfl ?_ | refine W.qgT' rfl rfl (Ev.ldb1 1 (.c rfl) rfl ag9 rfl) rfl ?_ | refine W.qgT' rfl rfl (Ev.ldb1 2 (.c rfl) rfl ag9 rfl) rfl ?_ | refine W.qgT' rfl rfl (Ev.ldb1 3 (.c rfl) rfl ag9 rfl) rfl ?_
    refine W.qgT' rfl rfl (Ev.eqs (.c rfl) .k) rfl ?_
    refine W.qgF' rfl rfl (Ev.and (.c rfl) ⟨_, _, rfl, rfl, by first | (simp; done) | (intro hg_ hp_; simp [hp_]; done) | (simp <;> omega; done) | (simp_all; done) | grind⟩) rfl ?_
    refine W.qgT rfl rfl (Ev.or (.c rfl) ⟨_, _, rfl, rfl, by first | (simp; done) | (intro hg_ hp_; simp [hp_]; done) | (simp <;> omega; done) | (simp_all; done) | grind⟩) rfl ?_
    refine W.q (Ev.and (.t rfl) ⟨_, _, rfl, rfl, by first | (simp; done) | (intro hg_ hp_; simp [hp_]; done) | (simp <;> omega; done) | (simp_all; done) | grind⟩) rfl ?_
    refine W.nil ?_
    refine W.then ?_
    refine W.cond (.t rfl) (fun hc_t56 => ?_) (fun hc_t56 => ?_)
    · have hr : Nd.apts false l = false := by rw [hsp, Nd.apts_cons, hsq hc_t56, Bool.false_and, Bool.and_false]
      refine W.seq ?_
      refine W.region ?_
      refine W.q (Ev.assign .k) rfl ?_
      refine W.nil ?_
      refine W.then ?_
      refine W.ret ?_
      refine W.then_ret ?_
      refine W.blk_ret ?_
      refine W.then_ret ?_
      refine W.then_ret ?_
      refine W.blk_ret ?_
      refine W.then_ret ?_
      refine W.retn (M' := []) (rs := [.tmp 2]) (avs := [_]) Try.results26 ⟨rfl, trivial⟩ rfl (.refl _) ?_
      exact ⟨congrArg AV.bool hr.symm, rfl⟩
    · have h56 := hsr hc_t56
      refine W.skip ?_
      refine W.then ?_
      refine W.seq ?_
      refine W.region ?_
      refine W.q (Ev.move (.t rfl)) rfl ?_
      refine W.q (Ev.not (.t rfl)) rfl ?_
      refine W.q (Ev.move (.t rfl)) rfl ?_
      refine W.qgT rfl rfl (Ev.move (.t rfl)) rfl ?_
      refine W.qgT rfl rfl (Ev.move (.t rfl)) rfl ?_
      refine W.qgT rfl rfl (Ev.at (E := 35) (.c rfl) (.c rfl) Try.underlying25 ty35 (fun hg => ⟨by omega, hga⟩) rfl rfl) rfl ?_
      first | refine W.qgT rfl rfl (Ev.fae (.c rfl) fa35_2 rfl) rfl ?_ | refine W.qgT rfl rfl (Ev.fab (.c rfl) fa35_2) rfl ?_ | refine W.qgT rfl rfl (Ev.faa (.c rfl) fa35_2) rfl ?_
      first | refine W.qgT rfl rfl (Ev.lde1 (.c rfl) ag9) rfl ?_ | refine W.qgT rfl rfl (Ev.ldb1 0 (.c rfl) rfl ag9 rfl) rfl ?_ | refine W.qgT rfl rfl (Ev.ldb1 1 (.c rfl) rfl ag9 rfl) rfl ?_ | refine W.qgT rfl rfl (Ev.ldb1 2 (.c rfl) rfl ag9 rfl) rfl ?_ | refine W.qgT rfl rfl (Ev.ldb1 3 (.c rfl) rfl ag9 rfl) rfl ?_
      refine W.qgT rfl rfl (Ev.nes (.c rfl) .k) rfl ?_
      refine W.qgT rfl rfl (Ev.move (.c rfl)) rfl ?_
      refine W.qgF' rfl rfl (Ev.move (.t rfl)) rfl ?_
      refine W.qgF' rfl rfl (Ev.move (.t rfl)) rfl ?_
      refine W.qgF' rfl rfl (Ev.at (E := 35) (.c rfl) (.c rfl) Try.underlying25 ty35 (fun hg => ⟨by omega, hga⟩) rfl rfl) rfl ?_
      first | refine W.qgF' rfl rfl (Ev.fae (.c rfl) fa35_3 rfl) rfl ?_ | refine W.qgF' rfl rfl (Ev.fab (.c rfl) fa35_3) rfl ?_ | refine W.qgF' rfl rfl (Ev.faa (.c rfl) fa35_3) rfl ?_
      first | refine W.qgF' rfl rfl (Ev.lde1 (.c rfl) ag25) rfl ?_ | refine W.qgF' rfl rfl (Ev.ldb1 0 (.c rfl) rfl ag25 rfl) rfl ?_ | refine W.qgF' rfl rfl (Ev.ldb1 1 (.c rfl) rfl ag25 rfl) rfl ?_ | refine W.qgF' rfl rfl (Ev.ldb1 2 (.c rfl) rfl ag25 rfl) rfl ?_ | refine W.qgF' rfl rfl (Ev.ldb1 3 (.c rfl) rfl ag25 rfl) rfl ?_
      refine W.callgF' (Min := []) (caps := []) (avs := [_]) rfl rfl (fun hg => ih d.parts (by omega)) (fun hg => .f) (fun hg => ⟨(.i rfl (fun _ => hg)), trivial⟩) rfl (.refl _) rfl ?_
      refine W.qgF' rfl rfl (Ev.not (.c rfl)) rfl ?_
      refine W.qgT rfl rfl (Ev.or (.c rfl) ⟨_, _, rfl, rfl, by first | (simp; done) | (intro hg_ hp_; simp [hp_]; done) | (simp <;> omega; done) | (simp_all; done) | grind⟩) rfl ?_
      refine W.q (Ev.and (.t rfl) ⟨_, _, rfl, rfl, by first | (simp; done) | (intro hg_ hp_; simp [hp_]; done) | (simp <;> omega; done) | (simp_all; done) | grind⟩) rfl ?_
      refine W.nil ?_
      refine W.then ?_
      refine W.cond (.t rfl) (fun hc_t75 => ?_) (fun hc_t75 => ?_)
      · have hr : Nd.apts false l = false := by rw [hsp, Nd.apts_cons, hsq2 hc_t75, Bool.false_and, Bool.and_false]
        refine W.seq ?_
        refine W.region ?_
        refine W.q (Ev.assign .k) rfl ?_
        refine W.nil ?_
        refine W.then ?_
        refine W.ret ?_
        refine W.blk_ret ?_
        refine W.then_ret ?_
        refine W.then_ret ?_
        refine W.blk_ret ?_
        refine W.then_ret ?_
        refine W.retn (M' := []) (rs := [.tmp 2]) (avs := [_]) Try.results26 ⟨rfl, trivial⟩ rfl (.refl _) ?_
        exact ⟨congrArg AV.bool hr.symm, rfl⟩
      · have hr : Nd.apts false (l.take (i + 1)) = true := by rw [take_getDG Nd.dflt l i hlt, hd, Nd.apts_append, hi2, Bool.true_and, Nd.apts_one, hlast, h56 hc_t75]
        refine W.skip ?_
        refine W.blk_normal ?_
        refine W.then ?_
        refine W.region ?_
        refine W.q (Ev.move (.t rfl)) rfl ?_
        first | refine W.q (Ev.add (.t rfl) .k (fun _ => by omega)) rfl ?_ | refine W.q (Ev.addw (.t rfl) .k) rfl ?_
        refine W.q (Ev.assign (.t rfl)) rfl ?_
        refine W.nil ?_
        refine W.then ?_
        refine W.reach (D := []) (i + 1) ⟨rfl, rfl, trivial⟩ (.refl _) ⟨⟨by omega, hr⟩, by omega⟩
  · have hr : Nd.apts false l = true := by rw [List.take_of_length_le (by omega)] at hi2; exact hi2
    refine W.seq ?_
    refine W.seq ?_
    refine W.region ?_
    refine W.q (Ev.move (.t rfl)) rfl ?_
    refine W.q (Ev.move (.t rfl)) rfl ?_
    first | refine W.q (Ev.lensl (.t rfl) Try.underlying25) rfl ?_ | refine W.q (Ev.lenar (i := 0) (.t rfl) rfl Try.underlying25) rfl ?_ | refine W.q (Ev.lenar (i := 1) (.t rfl) rfl Try.underlying25) rfl ?_ | refine W.q (Ev.lenar (i := 2) (.t rfl) rfl Try.underlying25) rfl ?_ | refine W.q (Ev.lenar (i := 3) (.t rfl) rfl Try.underlying25) rfl ?_
    refine W.q (Ev.lti (.t rfl) (.t rfl)) rfl ?_
    refine W.nil ?_
    refine W.then ?_
    refine W.is (t := 8) (g := true) (av' := .lit (.bool false)) rfl (congrArg (fun b => AV.lit (.bool b)) (by exact decide_eq_false (by omega))) ?_
    refine W.condF (.t rfl) ?_
    refine W.exit ?_
    refine W.then_exit ?_
    refine W.then_exit ?_
    refine W.blk_hit ?_
    refine W.then ?_
    refine W.seq ?_
    refine W.region ?_
    refine W.q (Ev.assign .k) rfl ?_
    refine W.nil ?_
    refine W.then ?_
    refine W.ret ?_
    refine W.retn (M' := []) (rs := [.tmp 2]) (avs := [_]) Try.results26 ⟨rfl, trivial⟩ rfl (.refl _) ?_
    exact ⟨congrArg AV.bool hr.symm, rfl⟩

theorem c_apart (l : List Nd) (hl : Nd.szs l ≤ 16777216) : FnP Try.prog 26 [.sl 4 (l.map Nd.av)] (.bool (Nd.apts false l)) := by
  suffices H : ∀ n, n ≤ 16777216 → ∀ l, Nd.szs l = n → FnP Try.prog 26 [.sl 4 (l.map Nd.av)] (.bool (Nd.apts false l)) from H _ hl l rfl
  intro n
  induction n using Nat.strongRecOn with
  | _ n ih => exact fun hn l hl => c_apart_step n hn (fun l' h' => ih _ h' (by omega) l' rfl) l hl

end WApart

end Go.Proofs.Yteepllfbnoaiaaa
