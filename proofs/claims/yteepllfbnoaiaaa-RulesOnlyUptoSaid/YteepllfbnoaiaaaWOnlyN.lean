/-
  Names of elements.
-/
import Derived.Test.YteepllfbnoaiaaaDrawn
import Derived.Test.YteepllfbnoaiaaaWName
set_option linter.unusedVariables false
set_option linter.unusedSimpArgs false
set_option maxRecDepth 100000
namespace Go.Proofs.Yteepllfbnoaiaaa
open Go.Vl

namespace WOnlyN
theorem ty9 : Ty Try.prog 9 1 16 (.string ⟨#[]⟩) := Ty.of (by kernel_rfl)
theorem ty25 : Ty Try.prog 25 1 24 (.slice none 0 0) := Ty.of (by kernel_rfl)
theorem ty35 : Ty Try.prog 35 4 80 (.agg #[.string ⟨#[]⟩, .slice none 0 0, .string ⟨#[]⟩, .slice none 0 0]) := Ty.of (by kernel_rfl)
theorem ag9 : IsAgg Try.prog 9 false := ⟨_, Try.underlying9, rfl⟩
theorem ag25 : IsAgg Try.prog 25 false := ⟨_, Try.underlying25, rfl⟩
theorem fa35_0 : FieldAt Try.prog 35 0 0 1 false := ⟨_, _, Try.underlying35, rfl, rfl, ty9.size, ag9, by decide⟩
theorem fa35_3 : FieldAt Try.prog 35 3 3 1 false := ⟨_, _, Try.underlying35, rfl, rfl, ty25.size, ag25, by decide⟩
theorem c_only_step (ns : List (List UInt8)) (hns : ns.length ≤ 1099511627776) (n : Nat) (hn : n ≤ 16777216) (ih : ∀ l, Nd.szs l < n → FnP Try.prog 25 [.sl 4 (l.map Nd.av), .sl 1 (ns.map AV.str)] (.bool (Nd.onls ns l))) (l : List Nd) (hl : Nd.szs l = n) : FnP Try.prog 25 [.sl 4 (l.map Nd.av), .sl 1 (ns.map AV.str)] (.bool (Nd.onls ns l)) :=  by
  refine FnC.mk Try.func25 (by kernel_rfl) rfl Try.ntmps25 rfl (fun w0 F => ?_)
  have hll : (l.map Nd.av).length = l.length := List.length_map ..
  have hsl := Nd.szs_len l
  have hnl : (ns.map AV.str).length = ns.length := List.length_map ..
  refine W.seq ?_
  refine W.region ?_
  refine W.q (Ev.assign .k) rfl ?_
  refine W.nil ?_
  refine W.then ?_
  refine W.seq ?_
  refine W.seq ?_
  refine W.region ?_
  refine W.q (Ev.assign .k) rfl ?_
  refine W.nil ?_
  refine W.then ?_
  refine W.block ?_
  refine W.loop (D := []) (ι := Nat) (fun i => [(5, true, .int (i : Int)), (0, true, .sl 4 (l.map Nd.av)), (1, true, .sl 1 (ns.map AV.str))]) (fun _ => []) (fun i => i ≤ l.length ∧ Nd.onls ns (l.take i) = true) (fun i => l.length - i) 0 ⟨rfl, rfl, rfl, trivial⟩ (.refl _) ⟨Nat.zero_le _, rfl⟩ ?_
  rintro i ⟨hi, hi2⟩
  dsimp only at hi hi2 ⊢
  rcases (show i < l.length ∨ i = l.length from by omega) with hlt | hend
  · have hga := Nd.at_av l i hlt
    have hsz := Nd.at_sz l i hlt
    generalize hd : l.getD i Nd.dflt = d at hga hsz
    have hse := Nd.sz_eq d
    have hsp := Nd.szs_len d.parts
    have hat : (d.attrs.map dav).length = d.attrs.length := List.length_map ..
    refine W.seq ?_
    refine W.seq ?_
    refine W.region ?_
    refine W.q (Ev.move (.t rfl)) rfl ?_
    refine W.q (Ev.move (.t rfl)) rfl ?_
    first | refine W.q (Ev.lensl (.t rfl) Try.underlying25) rfl ?_ | refine W.q (Ev.lenar (i := 0) (.t rfl) rfl Try.underlying25) rfl ?_ | refine W.q (Ev.lenar (i := 1) (.t rfl) rfl Try.underlying25) rfl ?_ | refine W.q (Ev.lenar (i := 2) (.t rfl) rfl Try.underlying25) rfl ?_ | refine W.q (Ev.lenar (i := 3) (.t rfl) rfl Try.underlying25) rfl ?_
    refine W.q (Ev.lti (.t rfl) (.t rfl)) rfl ?_
    refine W.nil ?_
    refine W.then ?_
    refine W.is (t := 11) (g := true) (av' := .lit (.bool true)) rfl (congrArg (fun b => AV.lit (.bool b)) (by exact decide_eq_true (by omega))) ?_
    refine W.condT (.t rfl) ?_
    refine W.skip ?_
    refine W.then ?_
    refine W.seq ?_
    refine W.block ?_
    refine W.seq ?_
    refine W.region ?_
    refine W.q (Ev.move (.t rfl)) rfl ?_
    refine W.q (Ev.move (.t rfl)) rfl ?_
    refine W.q (Ev.at (E := 35) (.t rfl) (.t rfl) Try.underlying25 ty35 (fun _ => ⟨by omega, hga⟩) rfl rfl) rfl ?_
    first | refine W.q (Ev.fae (.t rfl) fa35_0 rfl) rfl ?_ | refine W.q (Ev.fab (.t rfl) fa35_0) rfl ?_ | refine W.q (Ev.faa (.t rfl) fa35_0) rfl ?_
    first | refine W.q (Ev.lde1 (.t rfl) ag9) rfl ?_ | refine W.q (Ev.ldb1 0 (.t rfl) rfl ag9 rfl) rfl ?_ | refine W.q (Ev.ldb1 1 (.t rfl) rfl ag9 rfl) rfl ?_ | refine W.q (Ev.ldb1 2 (.t rfl) rfl ag9 rfl) rfl ?_ | refine W.q (Ev.ldb1 3 (.t rfl) rfl ag9 rfl) rfl ?_
    refine W.q (Ev.eqs (.t rfl) .k) rfl ?_
    refine W.q (Ev.assign (.t rfl)) rfl ?_
    refine W.nil ?_
    refine W.then ?_
    refine W.seq ?_
    refine W.seq ?_
    refine W.region ?_
    refine W.is (t := 6) (g := true) (av' := .bool ((d.name == []) || (ns.take 0).any fun s => d.name == s)) rfl (congrArg AV.bool (by simp)) ?_
    refine W.q (Ev.assign .k) rfl ?_
    refine W.nil ?_
    refine W.then ?_
    refine W.block ?_
    refine W.loop (D := []) (ι := Nat) (fun k => [(7, true, .int (k : Int)), (6, true, .bool ((d.name == []) || (ns.take k).any fun s => d.name == s)), (5, true, .int (i : Int)), (0, true, .sl 4 (l.map Nd.av)), (1, true, .sl 1 (ns.map AV.str))]) (fun _ => []) (fun k => k ≤ ns.length) (fun k => ns.length - k) 0 ⟨rfl, by first | rfl | simp, rfl, rfl, rfl, trivial⟩ (.refl _) (Nat.zero_le _) ?_
    intro k hk
    dsimp only at hk ⊢
    rcases (show k < ns.length ∨ k = ns.length from by omega) with hltk | hendk
    · have hgs := getD_mapG AV.str [] ns k hltk
      have htk := take_getDG [] ns k hltk
      generalize ns.getD k [] = s at hgs htk
      refine W.seq ?_
      refine W.seq ?_
      refine W.region ?_
      refine W.q (Ev.move (.t rfl)) rfl ?_
      refine W.q (Ev.move (.t rfl)) rfl ?_
      first | refine W.q (Ev.lensl (.t rfl) Try.underlying40) rfl ?_ | refine W.q (Ev.lenar (i := 0) (.t rfl) rfl Try.underlying40) rfl ?_ | refine W.q (Ev.lenar (i := 1) (.t rfl) rfl Try.underlying40) rfl ?_ | refine W.q (Ev.lenar (i := 2) (.t rfl) rfl Try.underlying40) rfl ?_ | refine W.q (Ev.lenar (i := 3) (.t rfl) rfl Try.underlying40) rfl ?_
      refine W.q (Ev.lti (.t rfl) (.t rfl)) rfl ?_
      refine W.nil ?_
      refine W.then ?_
      refine W.is (t := 23) (g := true) (av' := .lit (.bool true)) rfl (congrArg (fun b => AV.lit (.bool b)) (by exact decide_eq_true (by omega))) ?_
      refine W.condT (.t rfl) ?_
      refine W.skip ?_
      refine W.then ?_
      refine W.seq ?_
      refine W.block ?_
      refine W.drawn (by kernel_rfl) (by kernel_rfl) ?_
      refine DP.q (Ev.move (.t rfl)) rfl ?_
      refine DP.q (Ev.move (.t rfl)) rfl ?_
      refine DP.qgF rfl rfl (Ev.move (.t rfl)) rfl ?_
      refine DP.qgF rfl rfl (Ev.move (.t rfl)) rfl ?_
      refine DP.qgF rfl rfl (Ev.at (E := 35) (.c rfl) (.c rfl) Try.underlying25 ty35 (fun _ => ⟨by omega, hga⟩) rfl rfl) rfl ?_
      first | refine DP.qgF rfl rfl (Ev.fae (.c rfl) fa35_0 rfl) rfl ?_ | refine DP.qgF rfl rfl (Ev.fab (.c rfl) fa35_0) rfl ?_ | refine DP.qgF rfl rfl (Ev.faa (.c rfl) fa35_0) rfl ?_
      first | refine DP.qgF rfl rfl (Ev.lde1 (.c rfl) ag9) rfl ?_ | refine DP.qgF rfl rfl (Ev.ldb1 0 (.c rfl) rfl ag9 rfl) rfl ?_ | refine DP.qgF rfl rfl (Ev.ldb1 1 (.c rfl) rfl ag9 rfl) rfl ?_ | refine DP.qgF rfl rfl (Ev.ldb1 2 (.c rfl) rfl ag9 rfl) rfl ?_ | refine DP.qgF rfl rfl (Ev.ldb1 3 (.c rfl) rfl ag9 rfl) rfl ?_
      refine DP.qgF rfl rfl (Ev.move (.t rfl)) rfl ?_
      refine DP.qgF rfl rfl (Ev.move (.t rfl)) rfl ?_
      refine DP.qgF rfl rfl (Ev.at (E := 9) (.c rfl) (.c rfl) Try.underlying40 ty9 (fun _ => ⟨by omega, hgs⟩) rfl rfl) rfl ?_
      first | refine DP.qgF rfl rfl (Ev.lde1 (.c rfl) ag9) rfl ?_ | refine DP.qgF rfl rfl (Ev.ldb1 0 (.c rfl) rfl ag9 rfl) rfl ?_ | refine DP.qgF rfl rfl (Ev.ldb1 1 (.c rfl) rfl ag9 rfl) rfl ?_ | refine DP.qgF rfl rfl (Ev.ldb1 2 (.c rfl) rfl ag9 rfl) rfl ?_ | refine DP.qgF rfl rfl (Ev.ldb1 3 (.c rfl) rfl ag9 rfl) rfl ?_
      refine DP.qgF rfl rfl (Ev.eqs (.c rfl) (.c rfl)) rfl ?_
      refine DP.q (Ev.or (.t rfl) ⟨_, _, rfl, rfl, by first | (simp; done) | (intro hg_ hp_; simp [hp_]; done) | (simp <;> omega; done) | (simp_all; done) | grind⟩) rfl ?_
      refine DP.q (Ev.assign (.t rfl)) rfl ?_
      refine DP.nil ?_
      refine W.blk_normal ?_
      refine W.then ?_
      refine W.region ?_
      refine W.q (Ev.move (.t rfl)) rfl ?_
      first | refine W.q (Ev.add (.t rfl) .k (fun _ => by omega)) rfl ?_ | refine W.q (Ev.addw (.t rfl) .k) rfl ?_
      refine W.q (Ev.assign (.t rfl)) rfl ?_
      refine W.nil ?_
      refine W.then ?_
      refine W.is (t := 6) (g := true) (av' := .bool ((d.name == []) || (ns.take (k + 1)).any fun s => d.name == s)) rfl (congrArg AV.bool (by rw [htk, List.any_append]; simp [Bool.or_assoc])) ?_
      refine W.reach (D := []) (k + 1) ⟨rfl, rfl, rfl, rfl, rfl, trivial⟩ (.refl _) ⟨by show k + 1 ≤ _; omega, by show _ - (k + 1) < _; omega⟩
    · have hex : ns.take k = ns := List.take_of_length_le (by omega)
      rw [hex]
      refine W.seq ?_
      refine W.seq ?_
      refine W.region ?_
      refine W.q (Ev.move (.t rfl)) rfl ?_
      refine W.q (Ev.move (.t rfl)) rfl ?_
      first | refine W.q (Ev.lensl (.t rfl) Try.underlying40) rfl ?_ | refine W.q (Ev.lenar (i := 0) (.t rfl) rfl Try.underlying40) rfl ?_ | refine W.q (Ev.lenar (i := 1) (.t rfl) rfl Try.underlying40) rfl ?_ | refine W.q (Ev.lenar (i := 2) (.t rfl) rfl Try.underlying40) rfl ?_ | refine W.q (Ev.lenar (i := 3) (.t rfl) rfl Try.underlying40) rfl ?_
      refine W.q (Ev.lti (.t rfl) (.t rfl)) rfl ?_
      refine W.nil ?_
      refine W.then ?_
      refine W.is (t := 23) (g := true) (av' := .lit (.bool false)) rfl (congrArg (fun b => AV.lit (.bool b)) (by exact decide_eq_false (by omega))) ?_
      refine W.condF (.t rfl) ?_
      refine W.exit ?_
      refine W.then_exit ?_
      refine W.then_exit ?_
      refine W.blk_hit ?_
      refine W.then ?_
      refine W.seq ?_
      refine W.region ?_
      refine W.q (Ev.move (.t rfl)) rfl ?_
      refine W.q (Ev.not (.t rfl)) rfl ?_
      refine W.q (Ev.move (.t rfl)) rfl ?_
      refine W.qgF rfl rfl (Ev.move (.t rfl)) rfl ?_
      refine W.qgF rfl rfl (Ev.move (.t rfl)) rfl ?_
      refine W.qgF rfl rfl (Ev.at (E := 35) (.c rfl) (.c rfl) Try.underlying25 ty35 (fun _ => ⟨by omega, hga⟩) rfl rfl) rfl ?_
      first | refine W.qgF rfl rfl (Ev.fae (.c rfl) fa35_3 rfl) rfl ?_ | refine W.qgF rfl rfl (Ev.fab (.c rfl) fa35_3) rfl ?_ | refine W.qgF rfl rfl (Ev.faa (.c rfl) fa35_3) rfl ?_
      first | refine W.qgF rfl rfl (Ev.lde1 (.c rfl) ag25) rfl ?_ | refine W.qgF rfl rfl (Ev.ldb1 0 (.c rfl) rfl ag25 rfl) rfl ?_ | refine W.qgF rfl rfl (Ev.ldb1 1 (.c rfl) rfl ag25 rfl) rfl ?_ | refine W.qgF rfl rfl (Ev.ldb1 2 (.c rfl) rfl ag25 rfl) rfl ?_ | refine W.qgF rfl rfl (Ev.ldb1 3 (.c rfl) rfl ag25 rfl) rfl ?_
      refine W.qgF rfl rfl (Ev.move (.t rfl)) rfl ?_
      refine W.callgF (Min := []) (caps := []) (avs := [_, _]) rfl rfl (fun hg => ih d.parts (by omega)) (fun hg => .f) (fun hg => ⟨(.i rfl (fun _ => hg)), (.i rfl (fun _ => hg)), trivial⟩) rfl (.refl _) rfl ?_
      refine W.qgF rfl rfl (Ev.not (.c rfl)) rfl ?_
      refine W.q (Ev.or (.t rfl) ⟨_, _, rfl, rfl, by first | (simp; done) | (intro hg_ hp_; simp [hp_]; done) | (simp <;> omega; done) | (simp_all; done) | grind⟩) rfl ?_
      refine W.nil ?_
      refine W.then ?_
      refine W.cond (.t rfl) (fun hc_t50 => ?_) (fun hc_t50 => ?_)
      · have hr : Nd.onls ns l = false := by
          rw [← List.take_append_drop i l, Nd.onls_append, hi2, drop_getDG Nd.dflt l i hlt, hd, Nd.onls, Nd.onl_eq, Bool.true_and]
          generalize (d.name == [] || ns.any fun s => d.name == s) = X at hc_t50 ⊢
          generalize Nd.onls ns d.parts = Y at hc_t50 ⊢
          revert hc_t50; cases X <;> cases Y <;> simp
        refine W.seq ?_
        refine W.region ?_
        refine W.q (Ev.assign .k) rfl ?_
        refine W.nil ?_
        refine W.then ?_
        refine W.ret ?_
        refine W.blk_ret ?_
        refine W.then_ret ?_
        refine W.then_ret ?_
        refine W.blk_ret ?_
        refine W.then_ret ?_
        refine W.retn (M' := []) (rs := [.tmp 4]) (avs := [_]) Try.results25 ⟨rfl, trivial⟩ rfl (.refl _) ?_
        exact ⟨congrArg AV.bool hr.symm, rfl⟩
      · have hr : Nd.onls ns (l.take (i + 1)) = true := by
          rw [take_getDG Nd.dflt l i hlt, Nd.onls_append, hi2, hd, Nd.onls_one, Bool.true_and]
          generalize (d.name == [] || ns.any fun s => d.name == s) = X at hc_t50 ⊢
          generalize Nd.onls ns d.parts = Y at hc_t50 ⊢
          revert hc_t50; cases X <;> cases Y <;> simp
        refine W.skip ?_
        refine W.blk_normal ?_
        refine W.then ?_
        refine W.region ?_
        refine W.q (Ev.move (.t rfl)) rfl ?_
        first | refine W.q (Ev.add (.t rfl) .k (fun _ => by omega)) rfl ?_ | refine W.q (Ev.addw (.t rfl) .k) rfl ?_
        refine W.q (Ev.assign (.t rfl)) rfl ?_
        refine W.nil ?_
        refine W.then ?_
        refine W.reach (D := []) (i + 1) ⟨rfl, rfl, rfl, trivial⟩ (.refl _) ⟨⟨by omega, hr⟩, by omega⟩
  · have hr : Nd.onls ns l = true := by rw [List.take_of_length_le (by omega)] at hi2; exact hi2
    refine W.seq ?_
    refine W.seq ?_
    refine W.region ?_
    refine W.q (Ev.move (.t rfl)) rfl ?_
    refine W.q (Ev.move (.t rfl)) rfl ?_
    first | refine W.q (Ev.lensl (.t rfl) Try.underlying25) rfl ?_ | refine W.q (Ev.lenar (i := 0) (.t rfl) rfl Try.underlying25) rfl ?_ | refine W.q (Ev.lenar (i := 1) (.t rfl) rfl Try.underlying25) rfl ?_ | refine W.q (Ev.lenar (i := 2) (.t rfl) rfl Try.underlying25) rfl ?_ | refine W.q (Ev.lenar (i := 3) (.t rfl) rfl Try.underlying25) rfl ?_
    refine W.q (Ev.lti (.t rfl) (.t rfl)) rfl ?_
    refine W.nil ?_
    refine W.then ?_
    refine W.is (t := 11) (g := true) (av' := .lit (.bool false)) rfl (congrArg (fun b => AV.lit (.bool b)) (by exact decide_eq_false (by omega))) ?_
    refine W.condF (.t rfl) ?_
    refine W.exit ?_
    refine W.then_exit ?_
    refine W.then_exit ?_
    refine W.blk_hit ?_
    refine W.then ?_
    refine W.seq ?_
    refine W.region ?_
    refine W.q (Ev.assign .k) rfl ?_
    refine W.nil ?_
    refine W.then ?_
    refine W.ret ?_
    refine W.retn (M' := []) (rs := [.tmp 4]) (avs := [_]) Try.results25 ⟨rfl, trivial⟩ rfl (.refl _) ?_
    exact ⟨congrArg AV.bool hr.symm, rfl⟩

theorem c_only (ns : List (List UInt8)) (hns : ns.length ≤ 1099511627776) (l : List Nd) (hl : Nd.szs l ≤ 16777216) : FnP Try.prog 25 [.sl 4 (l.map Nd.av), .sl 1 (ns.map AV.str)] (.bool (Nd.onls ns l)) := by
  suffices H : ∀ n, n ≤ 16777216 → ∀ l, Nd.szs l = n → FnP Try.prog 25 [.sl 4 (l.map Nd.av), .sl 1 (ns.map AV.str)] (.bool (Nd.onls ns l)) from H _ hl l rfl
  intro n
  induction n using Nat.strongRecOn with
  | _ n ih => exact fun hn l hl => c_only_step ns hns n hn (fun l' h' => ih _ h' (by omega) l' rfl) l hl

end WOnlyN

end Go.Proofs.Yteepllfbnoaiaaa
