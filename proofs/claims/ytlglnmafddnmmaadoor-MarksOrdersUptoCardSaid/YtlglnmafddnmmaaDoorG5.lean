/-
  Merged: WMNest WName WMCheck.
-/
import Derived.Test.YtlglnmafddnmmaaDoorG4

section
set_option linter.unusedVariables false
set_option linter.unusedSimpArgs false
set_option maxRecDepth 100000
namespace Go.Proofs.YtlglnmafddnmmaaDoor
open Go.Vl

namespace WMNest
theorem ty9 : Ty Tryd.prog 9 1 16 (.string ⟨#[]⟩) := Ty.of (by kernel_rfl)
theorem ty23 : Ty Tryd.prog 23 1 24 (.slice none 0 0) := Ty.of (by kernel_rfl)
theorem ty25 : Ty Tryd.prog 25 1 24 (.slice none 0 0) := Ty.of (by kernel_rfl)
theorem ty49 : Ty Tryd.prog 49 2 40 (.agg #[.string ⟨#[]⟩, .slice none 0 0]) := Ty.of (by kernel_rfl)
theorem ty67 : Ty Tryd.prog 67 1 24 (.slice none 0 0) := Ty.of (by kernel_rfl)
theorem ty69 : Ty Tryd.prog 69 4 80 (.agg #[.string ⟨#[]⟩, .slice none 0 0, .string ⟨#[]⟩, .slice none 0 0]) := Ty.of (by kernel_rfl)
theorem ag3 : IsAgg Tryd.prog 3 false := ⟨_, Tryd.underlying3, rfl⟩
theorem ag9 : IsAgg Tryd.prog 9 false := ⟨_, Tryd.underlying9, rfl⟩
theorem ag23 : IsAgg Tryd.prog 23 false := ⟨_, Tryd.underlying23, rfl⟩
theorem fa49_0 : FieldAt Tryd.prog 49 0 0 1 false := ⟨_, _, Tryd.underlying49, rfl, rfl, ty9.size, ag9, by decide⟩
theorem fa49_1 : FieldAt Tryd.prog 49 1 1 1 false := ⟨_, _, Tryd.underlying49, rfl, rfl, ty23.size, ag23, by decide⟩
theorem st69 : StructAt Tryd.prog 69 [(0, 1), (1, 1), (2, 1), (3, 1)] := ⟨_, Tryd.underlying69, rfl, ty9.size, rfl, ty67.size, rfl, ty9.size, rfl, ty25.size, trivial⟩
theorem ni25 : NotInt Tryd.prog 25 := .inl ⟨_, Tryd.underlying25⟩
theorem c_nest1 (s : Rn) (d : Nat) (m : List UInt8) (hs : d ≤ s.2.length) (hs2 : s.2.length ≤ 1000) (bA bB : Nat) : FnC Tryd.prog 45 [rnav s, .lit (.pointer (some ⟨bA, 0, none⟩)), .lit (.pointer (some ⟨bB, 0, none⟩))] [.box bA 3 [.int (d : Int)], .box bB 9 [.str m]] (fun x M => x = .bool (!(Mrk.inG d m s)) ∧ M = [.box bA 3 [.int (d : Int)], .box bB 9 [.str m]]) :=  by
  refine FnC.mk Tryd.func45 (by kernel_rfl) rfl Tryd.ntmps45 rfl (fun w0 F => ?_)
  have hsl : (s.2.map AV.str).length = s.2.length := List.length_map ..
  have hat : d < s.2.length → (s.2.map AV.str)[d]? = some (AV.str (s.2.getD d [])) := fun h => getD_mapG AV.str [] s.2 d h
  refine W.seq ?_
  refine W.region ?_
  refine W.box (.t rfl) rfl rfl ?_
  intro b3
  refine W.q (Ev.assign .k) rfl ?_
  refine W.nil ?_
  refine W.then ?_
  refine W.seq ?_
  refine W.drawn (by kernel_rfl) (by kernel_rfl) ?_
  first | refine DP.q (Ev.fae (.t rfl) fa49_1 rfl) rfl ?_ | refine DP.q (Ev.fab (.t rfl) fa49_1) rfl ?_ | refine DP.q (Ev.faa (.t rfl) fa49_1) rfl ?_
  first | refine DP.q (Ev.lde1 (.t rfl) ag23) rfl ?_ | refine DP.q (Ev.ldb1 0 (.t rfl) rfl ag23 rfl) rfl ?_ | refine DP.q (Ev.ldb1 1 (.t rfl) rfl ag23 rfl) rfl ?_ | refine DP.q (Ev.ldb1 2 (.t rfl) rfl ag23 rfl) rfl ?_ | refine DP.q (Ev.ldb1 3 (.t rfl) rfl ag23 rfl) rfl ?_
  first | refine DP.q (Ev.lensl (.t rfl) Tryd.underlying23) rfl ?_ | refine DP.q (Ev.lenar (i := 0) (.t rfl) rfl Tryd.underlying23) rfl ?_ | refine DP.q (Ev.lenar (i := 1) (.t rfl) rfl Tryd.underlying23) rfl ?_ | refine DP.q (Ev.lenar (i := 2) (.t rfl) rfl Tryd.underlying23) rfl ?_ | refine DP.q (Ev.lenar (i := 3) (.t rfl) rfl Tryd.underlying23) rfl ?_
  first | refine DP.q (Ev.lde1 (.t rfl) ag3) rfl ?_ | refine DP.q (Ev.ldb1 0 (.t rfl) rfl ag3 rfl) rfl ?_ | refine DP.q (Ev.ldb1 1 (.t rfl) rfl ag3 rfl) rfl ?_ | refine DP.q (Ev.ldb1 2 (.t rfl) rfl ag3 rfl) rfl ?_ | refine DP.q (Ev.ldb1 3 (.t rfl) rfl ag3 rfl) rfl ?_
  refine DP.q (Ev.eqi (.t rfl) (.t rfl)) rfl ?_
  refine DP.q (Ev.move (.t rfl)) rfl ?_
  first | refine DP.qgF rfl rfl (Ev.fae (.t rfl) fa49_1 rfl) rfl ?_ | refine DP.qgF rfl rfl (Ev.fab (.t rfl) fa49_1) rfl ?_ | refine DP.qgF rfl rfl (Ev.faa (.t rfl) fa49_1) rfl ?_
  first | refine DP.qgF rfl rfl (Ev.lde1 (.c rfl) ag23) rfl ?_ | refine DP.qgF rfl rfl (Ev.ldb1 0 (.c rfl) rfl ag23 rfl) rfl ?_ | refine DP.qgF rfl rfl (Ev.ldb1 1 (.c rfl) rfl ag23 rfl) rfl ?_ | refine DP.qgF rfl rfl (Ev.ldb1 2 (.c rfl) rfl ag23 rfl) rfl ?_ | refine DP.qgF rfl rfl (Ev.ldb1 3 (.c rfl) rfl ag23 rfl) rfl ?_
  first | refine DP.qgF rfl rfl (Ev.lde1 (.t rfl) ag3) rfl ?_ | refine DP.qgF rfl rfl (Ev.ldb1 0 (.t rfl) rfl ag3 rfl) rfl ?_ | refine DP.qgF rfl rfl (Ev.ldb1 1 (.t rfl) rfl ag3 rfl) rfl ?_ | refine DP.qgF rfl rfl (Ev.ldb1 2 (.t rfl) rfl ag3 rfl) rfl ?_ | refine DP.qgF rfl rfl (Ev.ldb1 3 (.t rfl) rfl ag3 rfl) rfl ?_
  refine DP.qgF rfl rfl (Ev.at (E := 9) (e := AV.str (s.2.getD d [])) (.c rfl) (.c rfl) Tryd.underlying23 ty9 (fun hg => ⟨by omega, hat (by simp at hg; omega)⟩) rfl rfl) rfl ?_
  first | refine DP.qgF rfl rfl (Ev.lde1 (.c rfl) ag9) rfl ?_ | refine DP.qgF rfl rfl (Ev.ldb1 0 (.c rfl) rfl ag9 rfl) rfl ?_ | refine DP.qgF rfl rfl (Ev.ldb1 1 (.c rfl) rfl ag9 rfl) rfl ?_ | refine DP.qgF rfl rfl (Ev.ldb1 2 (.c rfl) rfl ag9 rfl) rfl ?_ | refine DP.qgF rfl rfl (Ev.ldb1 3 (.c rfl) rfl ag9 rfl) rfl ?_
  first | refine DP.qgF rfl rfl (Ev.lde1 (.t rfl) ag9) rfl ?_ | refine DP.qgF rfl rfl (Ev.ldb1 0 (.t rfl) rfl ag9 rfl) rfl ?_ | refine DP.qgF rfl rfl (Ev.ldb1 1 (.t rfl) rfl ag9 rfl) rfl ?_ | refine DP.qgF rfl rfl (Ev.ldb1 2 (.t rfl) rfl ag9 rfl) rfl ?_ | refine DP.qgF rfl rfl (Ev.ldb1 3 (.t rfl) rfl ag9 rfl) rfl ?_
  refine DP.qgF rfl rfl (Ev.nes (.c rfl) (.c rfl)) rfl ?_
  refine DP.q (Ev.or (.t rfl) ⟨_, _, rfl, rfl, by first | (simp; done) | (intro hg_ hp_; simp [hp_]; done) | (simp <;> omega; done) | (simp_all; done) | grind⟩) rfl ?_
  refine DP.q (Ev.assign (.t rfl)) rfl ?_
  refine DP.nil ?_
  refine W.then ?_
  refine W.ret ?_
  refine W.retn (M' := [.box bA 3 [.int (d : Int)], .box bB 9 [.str m]]) (D := [_]) (rs := [.tmp 4]) (avs := [_]) Tryd.results45 ⟨rfl, trivial⟩ rfl (List.perm_append_comm (l₁ := [_])) ?_
  exact ⟨congrArg AV.bool (Mrk.inG_prog s d m), rfl⟩

theorem c_nest_step (n : Nat) (ih : ∀ (d : Nat) (l : List Rn), Mrk.wt d l < n → l.length ≤ 1000 → d ≤ 1001 → (∀ r ∈ l, d ≤ r.2.length ∧ r.2.length ≤ 1000) → FnP Tryd.prog 29 [.sl 2 (l.map rnav), .int (d : Int)] (.sl 4 ((Mrk.nst d l).map Nd.av))) (d : Nat) (l : List Rn) (hw : Mrk.wt d l = n) (hl : l.length ≤ 1000) (hd : d ≤ 1001) (hr : ∀ r ∈ l, d ≤ r.2.length ∧ r.2.length ≤ 1000) : FnP Tryd.prog 29 [.sl 2 (l.map rnav), .int (d : Int)] (.sl 4 ((Mrk.nst d l).map Nd.av)) :=  by
  refine FnC.mk Tryd.func29 (by kernel_rfl) rfl Tryd.ntmps29 rfl (fun w0 F => ?_)
  refine W.seq ?_
  refine W.region ?_
  refine W.box (.t rfl) rfl rfl ?_
  intro b3
  refine W.q (Ev.assign .k) rfl ?_
  refine W.nil ?_
  refine W.then ?_
  refine W.seq ?_
  refine W.region ?_
  refine W.q (Ev.assign .k) rfl ?_
  refine W.nil ?_
  refine W.then ?_
  refine W.seq ?_
  refine W.block ?_
  refine W.own_nil 69 4 ?_
  refine W.loop (D := []) (ι := List Rn × List Nd × Value) (fun z => [(0, true, .sl 2 (z.1.map rnav)), (3, true, .lit (.pointer (some ⟨b3, 0, none⟩))), (5, true, .lit z.2.2)]) (fun z => [.arr z.2.2 69 4 (z.2.1.map Nd.av), .box b3 3 [.int (d : Int)]]) (fun z => z.2.1 ++ Mrk.nst d z.1 = Mrk.nst d l ∧ Mrk.wt d z.1 ≤ n ∧ z.2.1.length + z.1.length ≤ l.length ∧ ∀ r ∈ z.1, d ≤ r.2.length ∧ r.2.length ≤ 1000) (fun z => z.1.length) (l, [], .slice none 0 0) ⟨rfl, rfl, rfl, trivial⟩ (.refl _) ⟨by simp, Nat.le_of_eq hw, by simp, hr⟩ ?_
  rintro ⟨rest, out, v⟩ ⟨hi1, hi2, hi3, hrr⟩
  dsimp only at hi1 hi2 hi3 hrr ⊢
  have hol : (out.map Nd.av).length = out.length := List.length_map ..
  rcases rest with _ | ⟨r, tl⟩
  · rw [Mrk.nst_nil, List.append_nil] at hi1
    refine W.seq ?_
    refine W.seq ?_
    refine W.region ?_
    refine W.q (Ev.move (.t rfl)) rfl ?_
    first | refine W.q (Ev.lensl (.t rfl) Tryd.underlying29) rfl ?_ | refine W.q (Ev.lenar (i := 0) (.t rfl) rfl Tryd.underlying29) rfl ?_ | refine W.q (Ev.lenar (i := 1) (.t rfl) rfl Tryd.underlying29) rfl ?_ | refine W.q (Ev.lenar (i := 2) (.t rfl) rfl Tryd.underlying29) rfl ?_ | refine W.q (Ev.lenar (i := 3) (.t rfl) rfl Tryd.underlying29) rfl ?_ | refine W.q (Ev.lenar (i := 4) (.t rfl) rfl Tryd.underlying29) rfl ?_
    refine W.q (Ev.gti (.t rfl) .k) rfl ?_
    refine W.nil ?_
    refine W.then ?_
    refine W.is (t := 10) (g := true) (av' := .lit (.bool false)) rfl (congrArg (fun b => AV.lit (.bool b)) (by rfl)) ?_
    refine W.condF (.t rfl) ?_
    refine W.exit ?_
    refine W.then_exit ?_
    refine W.then_exit ?_
    refine W.blk_hit ?_
    refine W.then ?_
    refine W.seq ?_
    refine W.region ?_
    refine W.q (Ev.move (.t rfl)) rfl ?_
    refine W.q (Ev.assign (.t rfl)) rfl ?_
    refine W.nil ?_
    refine W.then ?_
    refine W.ret ?_
    refine W.freezeA (M1 := [_]) (M2 := [_]) (D := []) (v := v) (L' := [(4, true, .sl 4 ((Mrk.nst d l).map Nd.av))]) (by rw [← hi1]; exact .refl _) ⟨⟨_, rfl, .one .hit⟩, trivial⟩ (FrzMs.refl _) ?_
    refine W.retn (M' := []) (D := [_]) (rs := [.tmp 4]) (avs := [_]) Tryd.results29 ⟨rfl, trivial⟩ rfl (.refl _) ?_
    exact ⟨rfl, rfl⟩
  · have hwt : Mrk.wt d (r :: tl) = r.2.length - d + 1 + Mrk.wt d tl := by simp [Mrk.wt]
    have htl : (tl.map rnav).length = tl.length := List.length_map ..
    have hlc : (r :: tl).length = tl.length + 1 := rfl
    have hrr0 := hrr r List.mem_cons_self
    refine W.seq ?_
    refine W.seq ?_
    refine W.region ?_
    refine W.q (Ev.move (.t rfl)) rfl ?_
    first | refine W.q (Ev.lensl (.t rfl) Tryd.underlying29) rfl ?_ | refine W.q (Ev.lenar (i := 0) (.t rfl) rfl Tryd.underlying29) rfl ?_ | refine W.q (Ev.lenar (i := 1) (.t rfl) rfl Tryd.underlying29) rfl ?_ | refine W.q (Ev.lenar (i := 2) (.t rfl) rfl Tryd.underlying29) rfl ?_ | refine W.q (Ev.lenar (i := 3) (.t rfl) rfl Tryd.underlying29) rfl ?_ | refine W.q (Ev.lenar (i := 4) (.t rfl) rfl Tryd.underlying29) rfl ?_
    refine W.q (Ev.gti (.t rfl) .k) rfl ?_
    refine W.nil ?_
    refine W.then ?_
    refine W.is (t := 10) (g := true) (av' := .lit (.bool true)) rfl (congrArg (fun b => AV.lit (.bool b)) (by exact decide_eq_true (by simp only [List.length_map, List.length_cons]; omega))) ?_
    refine W.condT (.t rfl) ?_
    refine W.skip ?_
    refine W.then ?_
    refine W.block ?_
    refine W.seq ?_
    refine W.seq ?_
    refine W.drawn (by kernel_rfl) (by kernel_rfl) ?_
    refine DP.q (Ev.move (.t rfl)) rfl ?_
    refine DP.q (Ev.at (E := 49) (e := rnav r) (.t rfl) .k Tryd.underlying29 ty49 (fun _ => ⟨by decide, rfl⟩) rfl rfl) rfl ?_
    first | refine DP.q (Ev.fae (.t rfl) fa49_1 rfl) rfl ?_ | refine DP.q (Ev.fab (.t rfl) fa49_1) rfl ?_ | refine DP.q (Ev.faa (.t rfl) fa49_1) rfl ?_
    first | refine DP.q (Ev.lde1 (.t rfl) ag23) rfl ?_ | refine DP.q (Ev.ldb1 0 (.t rfl) rfl ag23 rfl) rfl ?_ | refine DP.q (Ev.ldb1 1 (.t rfl) rfl ag23 rfl) rfl ?_ | refine DP.q (Ev.ldb1 2 (.t rfl) rfl ag23 rfl) rfl ?_ | refine DP.q (Ev.ldb1 3 (.t rfl) rfl ag23 rfl) rfl ?_ | refine DP.q (Ev.ldb1 4 (.t rfl) rfl ag23 rfl) rfl ?_
    first | refine DP.q (Ev.lensl (.t rfl) Tryd.underlying23) rfl ?_ | refine DP.q (Ev.lenar (i := 0) (.t rfl) rfl Tryd.underlying23) rfl ?_ | refine DP.q (Ev.lenar (i := 1) (.t rfl) rfl Tryd.underlying23) rfl ?_ | refine DP.q (Ev.lenar (i := 2) (.t rfl) rfl Tryd.underlying23) rfl ?_ | refine DP.q (Ev.lenar (i := 3) (.t rfl) rfl Tryd.underlying23) rfl ?_ | refine DP.q (Ev.lenar (i := 4) (.t rfl) rfl Tryd.underlying23) rfl ?_
    first | refine DP.q (Ev.lde1 (.t rfl) ag3) rfl ?_ | refine DP.q (Ev.ldb1 0 (.t rfl) rfl ag3 rfl) rfl ?_ | refine DP.q (Ev.ldb1 1 (.t rfl) rfl ag3 rfl) rfl ?_ | refine DP.q (Ev.ldb1 2 (.t rfl) rfl ag3 rfl) rfl ?_ | refine DP.q (Ev.ldb1 3 (.t rfl) rfl ag3 rfl) rfl ?_ | refine DP.q (Ev.ldb1 4 (.t rfl) rfl ag3 rfl) rfl ?_
    refine DP.q (Ev.eqi (.t rfl) (.t rfl)) rfl ?_
    refine DP.nil ?_
    refine W.then ?_
    refine W.cond (.t rfl) (fun hc_t17 => ?_) (fun hc_t17 => ?_)
    · have hrd : r.2.length = d := by simp at hc_t17; omega
      have hns := Mrk.nst_text (fun x hx => (hrr x hx).1) hrd
      refine W.seq ?_
      refine W.region ?_
      refine W.q (Ev.move (.t rfl)) rfl ?_
      refine W.q (Ev.move (.t rfl)) rfl ?_
      refine W.q (Ev.at (E := 49) (e := rnav r) (.t rfl) .k Tryd.underlying29 ty49 (fun _ => ⟨by decide, rfl⟩) rfl rfl) rfl ?_
      first | refine W.q (Ev.fae (.t rfl) fa49_0 rfl) rfl ?_ | refine W.q (Ev.fab (.t rfl) fa49_0) rfl ?_ | refine W.q (Ev.faa (.t rfl) fa49_0) rfl ?_
      first | refine W.q (Ev.lde1 (.t rfl) ag9) rfl ?_ | refine W.q (Ev.ldb1 0 (.t rfl) rfl ag9 rfl) rfl ?_ | refine W.q (Ev.ldb1 1 (.t rfl) rfl ag9 rfl) rfl ?_ | refine W.q (Ev.ldb1 2 (.t rfl) rfl ag9 rfl) rfl ?_ | refine W.q (Ev.ldb1 3 (.t rfl) rfl ag9 rfl) rfl ?_ | refine W.q (Ev.ldb1 4 (.t rfl) rfl ag9 rfl) rfl ?_
      refine W.q (Ev.build ty69 st69 rfl (fun hg => ⟨_, _, _, rfl, (.t rfl), rfl, rfl, rfl, rfl⟩)) rfl ?_
      refine W.nils (t := 23) (g := true) (cs' := [.str [], .sl 2 [], .str r.1, .sl 4 []]) rfl ⟨.inl rfl, .inr ⟨rfl, 2, rfl⟩, .inl rfl, .inr ⟨rfl, 4, rfl⟩, trivial⟩ ?_
      refine W.bs (es := [_]) Tryd.underlying25 ty69 ⟨rfl, (.t rfl), rfl, rfl, trivial⟩ rfl (by decide) rfl rfl ?_
      first | refine W.app 0 (.t rfl) rfl (.sl (.t rfl) (by first | (simp [AV.okc, shV]; done) | (intro e he; rw [List.mem_singleton.1 he]; rfl))) Tryd.underlying25 ni25 ty69 rfl rfl (by simp only [List.length_map, List.length_cons, List.length_nil]; omega) rfl ?_ | refine W.app 1 (.t rfl) rfl (.sl (.t rfl) (by first | (simp [AV.okc, shV]; done) | (intro e he; rw [List.mem_singleton.1 he]; rfl))) Tryd.underlying25 ni25 ty69 rfl rfl (by simp only [List.length_map, List.length_cons, List.length_nil]; omega) rfl ?_ | refine W.app 2 (.t rfl) rfl (.sl (.t rfl) (by first | (simp [AV.okc, shV]; done) | (intro e he; rw [List.mem_singleton.1 he]; rfl))) Tryd.underlying25 ni25 ty69 rfl rfl (by simp only [List.length_map, List.length_cons, List.length_nil]; omega) rfl ?_ | refine W.app 3 (.t rfl) rfl (.sl (.t rfl) (by first | (simp [AV.okc, shV]; done) | (intro e he; rw [List.mem_singleton.1 he]; rfl))) Tryd.underlying25 ni25 ty69 rfl rfl (by simp only [List.length_map, List.length_cons, List.length_nil]; omega) rfl ?_ | refine W.app 4 (.t rfl) rfl (.sl (.t rfl) (by first | (simp [AV.okc, shV]; done) | (intro e he; rw [List.mem_singleton.1 he]; rfl))) Tryd.underlying25 ni25 ty69 rfl rfl (by simp only [List.length_map, List.length_cons, List.length_nil]; omega) rfl ?_ | refine W.app 0 (.t rfl) rfl (.arr 0 (.t rfl) rfl (by first | (simp [AV.okc, shV]; done) | (intro e he; rw [List.mem_singleton.1 he]; rfl))) Tryd.underlying25 ni25 ty69 rfl rfl (by simp only [List.length_map, List.length_cons, List.length_nil]; omega) rfl ?_ | refine W.app 0 (.t rfl) rfl (.arr 1 (.t rfl) rfl (by first | (simp [AV.okc, shV]; done) | (intro e he; rw [List.mem_singleton.1 he]; rfl))) Tryd.underlying25 ni25 ty69 rfl rfl (by simp only [List.length_map, List.length_cons, List.length_nil]; omega) rfl ?_ | refine W.app 0 (.t rfl) rfl (.arr 2 (.t rfl) rfl (by first | (simp [AV.okc, shV]; done) | (intro e he; rw [List.mem_singleton.1 he]; rfl))) Tryd.underlying25 ni25 ty69 rfl rfl (by simp only [List.length_map, List.length_cons, List.length_nil]; omega) rfl ?_ | refine W.app 0 (.t rfl) rfl (.arr 3 (.t rfl) rfl (by first | (simp [AV.okc, shV]; done) | (intro e he; rw [List.mem_singleton.1 he]; rfl))) Tryd.underlying25 ni25 ty69 rfl rfl (by simp only [List.length_map, List.length_cons, List.length_nil]; omega) rfl ?_ | refine W.app 0 (.t rfl) rfl (.arr 4 (.t rfl) rfl (by first | (simp [AV.okc, shV]; done) | (intro e he; rw [List.mem_singleton.1 he]; rfl))) Tryd.underlying25 ni25 ty69 rfl rfl (by simp only [List.length_map, List.length_cons, List.length_nil]; omega) rfl ?_ | refine W.app 1 (.t rfl) rfl (.arr 0 (.t rfl) rfl (by first | (simp [AV.okc, shV]; done) | (intro e he; rw [List.mem_singleton.1 he]; rfl))) Tryd.underlying25 ni25 ty69 rfl rfl (by simp only [List.length_map, List.length_cons, List.length_nil]; omega) rfl ?_ | refine W.app 1 (.t rfl) rfl (.arr 1 (.t rfl) rfl (by first | (simp [AV.okc, shV]; done) | (intro e he; rw [List.mem_singleton.1 he]; rfl))) Tryd.underlying25 ni25 ty69 rfl rfl (by simp only [List.length_map, List.length_cons, List.length_nil]; omega) rfl ?_ | refine W.app 1 (.t rfl) rfl (.arr 2 (.t rfl) rfl (by first | (simp [AV.okc, shV]; done) | (intro e he; rw [List.mem_singleton.1 he]; rfl))) Tryd.underlying25 ni25 ty69 rfl rfl (by simp only [List.length_map, List.length_cons, List.length_nil]; omega) rfl ?_ | refine W.app 1 (.t rfl) rfl (.arr 3 (.t rfl) rfl (by first | (simp [AV.okc, shV]; done) | (intro e he; rw [List.mem_singleton.1 he]; rfl))) Tryd.underlying25 ni25 ty69 rfl rfl (by simp only [List.length_map, List.length_cons, List.length_nil]; omega) rfl ?_ | refine W.app 1 (.t rfl) rfl (.arr 4 (.t rfl) rfl (by first | (simp [AV.okc, shV]; done) | (intro e he; rw [List.mem_singleton.1 he]; rfl))) Tryd.underlying25 ni25 ty69 rfl rfl (by simp only [List.length_map, List.length_cons, List.length_nil]; omega) rfl ?_ | refine W.app 2 (.t rfl) rfl (.arr 0 (.t rfl) rfl (by first | (simp [AV.okc, shV]; done) | (intro e he; rw [List.mem_singleton.1 he]; rfl))) Tryd.underlying25 ni25 ty69 rfl rfl (by simp only [List.length_map, List.length_cons, List.length_nil]; omega) rfl ?_ | refine W.app 2 (.t rfl) rfl (.arr 1 (.t rfl) rfl (by first | (simp [AV.okc, shV]; done) | (intro e he; rw [List.mem_singleton.1 he]; rfl))) Tryd.underlying25 ni25 ty69 rfl rfl (by simp only [List.length_map, List.length_cons, List.length_nil]; omega) rfl ?_ | refine W.app 2 (.t rfl) rfl (.arr 2 (.t rfl) rfl (by first | (simp [AV.okc, shV]; done) | (intro e he; rw [List.mem_singleton.1 he]; rfl))) Tryd.underlying25 ni25 ty69 rfl rfl (by simp only [List.length_map, List.length_cons, List.length_nil]; omega) rfl ?_ | refine W.app 2 (.t rfl) rfl (.arr 3 (.t rfl) rfl (by first | (simp [AV.okc, shV]; done) | (intro e he; rw [List.mem_singleton.1 he]; rfl))) Tryd.underlying25 ni25 ty69 rfl rfl (by simp only [List.length_map, List.length_cons, List.length_nil]; omega) rfl ?_ | refine W.app 2 (.t rfl) rfl (.arr 4 (.t rfl) rfl (by first | (simp [AV.okc, shV]; done) | (intro e he; rw [List.mem_singleton.1 he]; rfl))) Tryd.underlying25 ni25 ty69 rfl rfl (by simp only [List.length_map, List.length_cons, List.length_nil]; omega) rfl ?_ | refine W.app 3 (.t rfl) rfl (.arr 0 (.t rfl) rfl (by first | (simp [AV.okc, shV]; done) | (intro e he; rw [List.mem_singleton.1 he]; rfl))) Tryd.underlying25 ni25 ty69 rfl rfl (by simp only [List.length_map, List.length_cons, List.length_nil]; omega) rfl ?_ | refine W.app 3 (.t rfl) rfl (.arr 1 (.t rfl) rfl (by first | (simp [AV.okc, shV]; done) | (intro e he; rw [List.mem_singleton.1 he]; rfl))) Tryd.underlying25 ni25 ty69 rfl rfl (by simp only [List.length_map, List.length_cons, List.length_nil]; omega) rfl ?_ | refine W.app 3 (.t rfl) rfl (.arr 2 (.t rfl) rfl (by first | (simp [AV.okc, shV]; done) | (intro e he; rw [List.mem_singleton.1 he]; rfl))) Tryd.underlying25 ni25 ty69 rfl rfl (by simp only [List.length_map, List.length_cons, List.length_nil]; omega) rfl ?_ | refine W.app 3 (.t rfl) rfl (.arr 3 (.t rfl) rfl (by first | (simp [AV.okc, shV]; done) | (intro e he; rw [List.mem_singleton.1 he]; rfl))) Tryd.underlying25 ni25 ty69 rfl rfl (by simp only [List.length_map, List.length_cons, List.length_nil]; omega) rfl ?_ | refine W.app 3 (.t rfl) rfl (.arr 4 (.t rfl) rfl (by first | (simp [AV.okc, shV]; done) | (intro e he; rw [List.mem_singleton.1 he]; rfl))) Tryd.underlying25 ni25 ty69 rfl rfl (by simp only [List.length_map, List.length_cons, List.length_nil]; omega) rfl ?_ | refine W.app 4 (.t rfl) rfl (.arr 0 (.t rfl) rfl (by first | (simp [AV.okc, shV]; done) | (intro e he; rw [List.mem_singleton.1 he]; rfl))) Tryd.underlying25 ni25 ty69 rfl rfl (by simp only [List.length_map, List.length_cons, List.length_nil]; omega) rfl ?_ | refine W.app 4 (.t rfl) rfl (.arr 1 (.t rfl) rfl (by first | (simp [AV.okc, shV]; done) | (intro e he; rw [List.mem_singleton.1 he]; rfl))) Tryd.underlying25 ni25 ty69 rfl rfl (by simp only [List.length_map, List.length_cons, List.length_nil]; omega) rfl ?_ | refine W.app 4 (.t rfl) rfl (.arr 2 (.t rfl) rfl (by first | (simp [AV.okc, shV]; done) | (intro e he; rw [List.mem_singleton.1 he]; rfl))) Tryd.underlying25 ni25 ty69 rfl rfl (by simp only [List.length_map, List.length_cons, List.length_nil]; omega) rfl ?_ | refine W.app 4 (.t rfl) rfl (.arr 3 (.t rfl) rfl (by first | (simp [AV.okc, shV]; done) | (intro e he; rw [List.mem_singleton.1 he]; rfl))) Tryd.underlying25 ni25 ty69 rfl rfl (by simp only [List.length_map, List.length_cons, List.length_nil]; omega) rfl ?_ | refine W.app 4 (.t rfl) rfl (.arr 4 (.t rfl) rfl (by first | (simp [AV.okc, shV]; done) | (intro e he; rw [List.mem_singleton.1 he]; rfl))) Tryd.underlying25 ni25 ty69 rfl rfl (by simp only [List.length_map, List.length_cons, List.length_nil]; omega) rfl ?_
      intro v25
      refine W.q (Ev.assign (.t rfl)) rfl ?_
      refine W.nil ?_
      refine W.then ?_
      refine W.seq ?_
      refine W.region ?_
      refine W.q (Ev.move (.t rfl)) rfl ?_
      refine W.q (Ev.subsl (lo := some (.const (.int .i64 1))) (hi := none) (.t rfl) Tryd.underlying29 ty49 (Ov.k (g := true) (L := [])) rfl (fun _ => by first | omega | (simp; omega))) rfl ?_
      refine W.is (t := 27) (g := true) (av' := .sl 2 (tl.map rnav)) rfl (congrArg (AV.sl 2) (by rw [List.take_of_length_le (by simp)]; rfl)) ?_
      refine W.q (Ev.assign (.t rfl)) rfl ?_
      refine W.nil ?_
      refine W.then ?_
      refine W.exit ?_
      refine W.then_exit ?_
      refine W.blk_hit ?_
      refine W.then ?_
      first
      | (refine W.reach (D := []) (tl, out ++ [Nd.mk [] [] r.1 []], v25) ⟨rfl, rfl, rfl, trivial⟩ (by rw [Nd.map_snoc]; exact .refl _) ⟨⟨?_, ?_, ?_, ?_⟩, ?_⟩
         · show (out ++ _) ++ _ = _; rw [← hi1, hns, List.append_assoc]; rfl
         · show Mrk.wt d tl ≤ n; omega
         · show (out ++ [_]).length + tl.length ≤ _; rw [List.length_append, List.length_singleton]; omega
         · exact fun x hx => hrr x (List.mem_cons_of_mem _ hx)
         · show tl.length < (r :: tl).length; omega)
      | (refine W.reach (D := [_]) ((r :: tl).drop k, out ++ [Nd.mk m [] [] (Mrk.nst (d + 1) ((r :: tl).take k))], v52) ⟨rfl, rfl, rfl, trivial⟩ (by rw [Nd.map_snoc]; exact ((List.perm_middle (l₁ := [_, _])).trans <| List.Perm.cons _ <| List.Perm.cons _ <| List.Perm.cons _ <| .refl _)) ⟨⟨?_, ?_, ?_, ?_⟩, ?_⟩
         · show (out ++ _) ++ _ = _; rw [← hi1, hns, List.append_assoc]; rfl
         · show Mrk.wt d ((r :: tl).drop k) ≤ n; omega
         · show (out ++ [_]).length + ((r :: tl).drop k).length ≤ _; rw [List.length_append, List.length_singleton]; omega
         · exact fun x hx => hrr x (List.mem_of_mem_drop hx)
         · show ((r :: tl).drop k).length < (r :: tl).length; omega)
    · have hrd : r.2.length ≠ d := by simp at hc_t17; omega
      have hns := Mrk.nst_elem (fun x hx => (hrr x hx).1) hrd
      have hdlt : d < r.2.length := by omega
      obtain ⟨m, hm⟩ : ∃ m, r.2.getD d [] = m := ⟨_, rfl⟩
      have hgm : (r.2.map AV.str)[d]? = some (AV.str m) := by rw [← hm]; exact getD_mapG AV.str [] r.2 d hdlt
      obtain ⟨k, hk⟩ : ∃ k : Nat, (if idxI (fun s => !(Mrk.inG d m s)) (r :: tl) < 0 then (r :: tl).length else (idxI (fun s => !(Mrk.inG d m s)) (r :: tl)).toNat) = k := ⟨_, rfl⟩
      obtain ⟨k1, k2, k3, k4, k5, k6⟩ := Mrk.grp_prog hm hdlt (fun x hx => (hrr x hx).1) hk
      rw [hm, k1, k2] at hns
      have hih := ih (d + 1) ((r :: tl).take k) (by omega) (by rw [List.length_take]; omega) (by have := (hrr r List.mem_cons_self).2; omega) (fun x hx => ⟨k5 x hx, (hrr x (List.mem_of_mem_take hx)).2⟩)
      rw [show (((d + 1 : Nat) : Int)) = (d : Int) + 1 from by omega] at hih
      have hkm : ((r :: tl).map rnav).length = (r :: tl).length := List.length_map ..
      have hwd := Mrk.wt_drop d (r :: tl) k
      have hkd : ((r :: tl).drop k).length = (r :: tl).length - k := List.length_drop ..
      refine W.skip ?_
      refine W.then ?_
      refine W.seq ?_
      refine W.drawnE (ι := Nat) (fun ee c => bif ee 7 then (.box c 9 (bif ee 8 then [.str m] else [.lit (.string ⟨#[]⟩)]) :: [.arr v 69 4 (out.map Nd.av), .box b3 3 [.int (d : Int)]]) else [.arr v 69 4 (out.map Nd.av), .box b3 3 [.int (d : Int)]]) 7 0 (by kernel_rfl) (by kernel_rfl) rfl ?_
      refine DE.q (fun e c hk => (Ev.move (.t rfl))) rfl (fun _ _ => rfl) (by first | exact .inr (fun _ _ => rfl) | exact .inl (by kernel_rfl)) ?_
      refine DE.q (fun e c hk => Ev.at (E := 49) (e := rnav r) (.t rfl) .k Tryd.underlying29 ty49 (fun _ => ⟨by decide, rfl⟩) rfl rfl) rfl (fun _ _ => rfl) (by first | exact .inr (fun _ _ => rfl) | exact .inl (by kernel_rfl)) ?_
      first | refine DE.q (fun e c hk => (Ev.fae (.t rfl) fa49_1 rfl)) rfl (fun _ _ => rfl) (by first | exact .inr (fun _ _ => rfl) | exact .inl (by kernel_rfl)) ?_ | refine DE.q (fun e c hk => (Ev.fab (.t rfl) fa49_1)) rfl (fun _ _ => rfl) (by first | exact .inr (fun _ _ => rfl) | exact .inl (by kernel_rfl)) ?_ | refine DE.q (fun e c hk => (Ev.faa (.t rfl) fa49_1)) rfl (fun _ _ => rfl) (by first | exact .inr (fun _ _ => rfl) | exact .inl (by kernel_rfl)) ?_
      first | refine DE.q (fun e c hk => (Ev.lde1 (.t rfl) ag23)) rfl (fun _ _ => rfl) (by first | exact .inr (fun _ _ => rfl) | exact .inl (by kernel_rfl)) ?_ | refine DE.q (fun e c hk => (Ev.ldb1 0 (.t rfl) rfl ag23 rfl)) rfl (fun _ _ => rfl) (by first | exact .inr (fun _ _ => rfl) | exact .inl (by kernel_rfl)) ?_ | refine DE.q (fun e c hk => (Ev.ldb1 1 (.t rfl) rfl ag23 rfl)) rfl (fun _ _ => rfl) (by first | exact .inr (fun _ _ => rfl) | exact .inl (by kernel_rfl)) ?_ | refine DE.q (fun e c hk => (Ev.ldb1 2 (.t rfl) rfl ag23 rfl)) rfl (fun _ _ => rfl) (by first | exact .inr (fun _ _ => rfl) | exact .inl (by kernel_rfl)) ?_ | refine DE.q (fun e c hk => (Ev.ldb1 3 (.t rfl) rfl ag23 rfl)) rfl (fun _ _ => rfl) (by first | exact .inr (fun _ _ => rfl) | exact .inl (by kernel_rfl)) ?_ | refine DE.q (fun e c hk => (Ev.ldb1 4 (.t rfl) rfl ag23 rfl)) rfl (fun _ _ => rfl) (by first | exact .inr (fun _ _ => rfl) | exact .inl (by kernel_rfl)) ?_
      refine DE.q (av := fun _ => .int (d : Int)) (fun e c hk => by have h8 := hk.down 8 (by kernel_rfl); cases h7 : e 7 <;> simp only [h7, h8, cond_true, cond_false] <;> first | exact Ev.ldb1 1 (.t rfl) rfl ag3 rfl | exact Ev.ldb1 2 (.t rfl) rfl ag3 rfl) rfl (fun _ _ => rfl) (by first | exact .inr (fun _ _ => rfl) | exact .inl (by kernel_rfl)) ?_
      refine DE.q (fun e c hk => Ev.at (E := 9) (e := AV.str m) (.t rfl) (.t rfl) Tryd.underlying23 ty9 (fun _ => ⟨by omega, hgm⟩) rfl rfl) rfl (fun _ _ => rfl) (by first | exact .inr (fun _ _ => rfl) | exact .inl (by kernel_rfl)) ?_
      first | refine DE.q (fun e c hk => (Ev.lde1 (.t rfl) ag9)) rfl (fun _ _ => rfl) (by first | exact .inr (fun _ _ => rfl) | exact .inl (by kernel_rfl)) ?_ | refine DE.q (fun e c hk => (Ev.ldb1 0 (.t rfl) rfl ag9 rfl)) rfl (fun _ _ => rfl) (by first | exact .inr (fun _ _ => rfl) | exact .inl (by kernel_rfl)) ?_ | refine DE.q (fun e c hk => (Ev.ldb1 1 (.t rfl) rfl ag9 rfl)) rfl (fun _ _ => rfl) (by first | exact .inr (fun _ _ => rfl) | exact .inl (by kernel_rfl)) ?_ | refine DE.q (fun e c hk => (Ev.ldb1 2 (.t rfl) rfl ag9 rfl)) rfl (fun _ _ => rfl) (by first | exact .inr (fun _ _ => rfl) | exact .inl (by kernel_rfl)) ?_ | refine DE.q (fun e c hk => (Ev.ldb1 3 (.t rfl) rfl ag9 rfl)) rfl (fun _ _ => rfl) (by first | exact .inr (fun _ _ => rfl) | exact .inl (by kernel_rfl)) ?_ | refine DE.q (fun e c hk => (Ev.ldb1 4 (.t rfl) rfl ag9 rfl)) rfl (fun _ _ => rfl) (by first | exact .inr (fun _ _ => rfl) | exact .inl (by kernel_rfl)) ?_
      refine DE.eff1 (av := fun b => .lit (.pointer (some ⟨b, 0, none⟩))) rfl rfl (fun e c hk L_ hs Q h => ?_) ?_
      · have hk_7 := hk.not
        have hk_8 := hk.down 8 (by kernel_rfl)
        simp only [addE, hk_7, hk_8, Nat.reduceAdd, Nat.reduceEqDiff, ↓reduceIte, cond_true, cond_false] at h ⊢
        exact W.alloc ty9 rfl rfl h
      refine DE.eff0 (fun e c hk L_ hs Q h => ?_) ?_
      · have hk_8 := hk.not
        have hk_7 := hk.up 7 (by kernel_rfl)
        simp only [addE, hk_8, hk_7, Nat.reduceAdd, Nat.reduceEqDiff, ↓reduceIte, cond_true, cond_false] at h ⊢
        first | (refine W.stb 0 (.t (hs _ _ rfl)) (.t (hs _ _ rfl)) rfl ty9 rfl rfl rfl ?_; exact h) | (refine W.stb 1 (.t (hs _ _ rfl)) (.t (hs _ _ rfl)) rfl ty9 rfl rfl rfl ?_; exact h) | (refine W.stb 2 (.t (hs _ _ rfl)) (.t (hs _ _ rfl)) rfl ty9 rfl rfl rfl ?_; exact h) | (refine W.stb 3 (.t (hs _ _ rfl)) (.t (hs _ _ rfl)) rfl ty9 rfl rfl rfl ?_; exact h) | (refine W.stb 4 (.t (hs _ _ rfl)) (.t (hs _ _ rfl)) rfl ty9 rfl rfl rfl ?_; exact h)
      refine DE.nil (fun b6 e_ he_ => ?_)
      simp only [he_ 7 (by decide), he_ 8 (by decide), cond_true, cond_false]
      refine W.then ?_
      refine W.seq ?_
      refine W.region ?_
      refine W.q (Ev.move (.t rfl)) rfl ?_
      refine W.q (Ev.mkfn (caps := [.tmp 3, .tmp 6]) (vs := [_, _]) ⟨(.t rfl), (.t rfl), trivial⟩) rfl ?_
      refine W.call (WMrkL.c_IndexFuncN (r :: tl) 45 [.pointer (some ⟨b3, 0, none⟩), .pointer (some ⟨b6, 0, none⟩)] [.box b3 3 [.int (d : Int)], .box b6 9 [.str m]] (fun s => !(Mrk.inG d m s)) (fun s hs => c_nest1 s d m (hrr s hs).1 (hrr s hs).2 b3 b6) (by omega)) ⟨(.t rfl), (.t rfl), trivial⟩ (((List.perm_middle (l₁ := [_, _])).trans <| List.Perm.cons _ <| List.Perm.cons _ <| List.Perm.cons _ <| .refl _)) rfl ?_
      rintro _ _ ⟨rfl, rfl⟩
      refine W.q (Ev.assign (.t rfl)) rfl ?_
      refine W.nil ?_
      refine W.then ?_
      refine W.seq ?_
      refine W.seq ?_
      refine W.region ?_
      refine W.q (Ev.move (.t rfl)) rfl ?_
      refine W.q (Ev.lti (.t rfl) .k) rfl ?_
      refine W.nil ?_
      refine W.then ?_
      refine W.cond (.t rfl) (fun hc_t39 => ?_) (fun hc_t39 => ?_)
      · have hlt0 := of_decide_eq_true hc_t39
        rw [if_pos hlt0] at hk
        refine W.region ?_
        refine W.q (Ev.move (.t rfl)) rfl ?_
        first | refine W.q (Ev.lensl (.t rfl) Tryd.underlying29) rfl ?_ | refine W.q (Ev.lenar (i := 0) (.t rfl) rfl Tryd.underlying29) rfl ?_ | refine W.q (Ev.lenar (i := 1) (.t rfl) rfl Tryd.underlying29) rfl ?_ | refine W.q (Ev.lenar (i := 2) (.t rfl) rfl Tryd.underlying29) rfl ?_ | refine W.q (Ev.lenar (i := 3) (.t rfl) rfl Tryd.underlying29) rfl ?_ | refine W.q (Ev.lenar (i := 4) (.t rfl) rfl Tryd.underlying29) rfl ?_
        refine W.q (Ev.assign (.t rfl)) rfl ?_
        refine W.nil ?_
        refine W.is (t := 7) (g := true) (av' := .int (k : Int)) rfl (congrArg AV.int (by rw [List.length_map]; omega)) ?_
        refine W.then ?_
        refine W.seq ?_
        refine W.drawnE (ι := Value) (fun ee c => [.box b3 3 [.int (d : Int)], .box b6 9 [.str m], bif ee 10 then ME.arr c 69 4 (out.map Nd.av ++ [(.agg [.str m, .sl 2 [], .str [], .sl 4 ((Mrk.nst (d + 1) ((r :: tl).take k)).map Nd.av)])]) else ME.arr v 69 4 (out.map Nd.av)]) 10 v (by kernel_rfl) (by kernel_rfl) rfl ?_
        refine DE.q (fun e c hk => (Ev.move (.t rfl))) rfl (fun _ _ => rfl) (by first | exact .inr (fun _ _ => rfl) | exact .inl (by kernel_rfl)) ?_
        first | refine DE.q (fun e c hk => (Ev.lde1 (.t rfl) ag9)) rfl (fun _ _ => rfl) (by first | exact .inr (fun _ _ => rfl) | exact .inl (by kernel_rfl)) ?_ | refine DE.q (fun e c hk => (Ev.ldb1 0 (.t rfl) rfl ag9 rfl)) rfl (fun _ _ => rfl) (by first | exact .inr (fun _ _ => rfl) | exact .inl (by kernel_rfl)) ?_ | refine DE.q (fun e c hk => (Ev.ldb1 1 (.t rfl) rfl ag9 rfl)) rfl (fun _ _ => rfl) (by first | exact .inr (fun _ _ => rfl) | exact .inl (by kernel_rfl)) ?_ | refine DE.q (fun e c hk => (Ev.ldb1 2 (.t rfl) rfl ag9 rfl)) rfl (fun _ _ => rfl) (by first | exact .inr (fun _ _ => rfl) | exact .inl (by kernel_rfl)) ?_ | refine DE.q (fun e c hk => (Ev.ldb1 3 (.t rfl) rfl ag9 rfl)) rfl (fun _ _ => rfl) (by first | exact .inr (fun _ _ => rfl) | exact .inl (by kernel_rfl)) ?_ | refine DE.q (fun e c hk => (Ev.ldb1 4 (.t rfl) rfl ag9 rfl)) rfl (fun _ _ => rfl) (by first | exact .inr (fun _ _ => rfl) | exact .inl (by kernel_rfl)) ?_
        refine DE.q (fun e c hk => (Ev.move (.t rfl))) rfl (fun _ _ => rfl) (by first | exact .inr (fun _ _ => rfl) | exact .inl (by kernel_rfl)) ?_
        refine DE.q (fun e c hk => (Ev.move (.t rfl))) rfl (fun _ _ => rfl) (by first | exact .inr (fun _ _ => rfl) | exact .inl (by kernel_rfl)) ?_
        refine DE.q (fun e c hk => Ev.takesl (n := k) (.t rfl) Tryd.underlying29 ty49 (.t rfl) rfl (fun _ => by omega)) rfl (fun _ _ => rfl) (by first | exact .inr (fun _ _ => rfl) | exact .inl (by kernel_rfl)) ?_
        first | refine DE.q (fun e c hk => (Ev.lde1 (.t rfl) ag3)) rfl (fun _ _ => rfl) (by first | exact .inr (fun _ _ => rfl) | exact .inl (by kernel_rfl)) ?_ | refine DE.q (fun e c hk => (Ev.ldb1 0 (.t rfl) rfl ag3 rfl)) rfl (fun _ _ => rfl) (by first | exact .inr (fun _ _ => rfl) | exact .inl (by kernel_rfl)) ?_ | refine DE.q (fun e c hk => (Ev.ldb1 1 (.t rfl) rfl ag3 rfl)) rfl (fun _ _ => rfl) (by first | exact .inr (fun _ _ => rfl) | exact .inl (by kernel_rfl)) ?_ | refine DE.q (fun e c hk => (Ev.ldb1 2 (.t rfl) rfl ag3 rfl)) rfl (fun _ _ => rfl) (by first | exact .inr (fun _ _ => rfl) | exact .inl (by kernel_rfl)) ?_ | refine DE.q (fun e c hk => (Ev.ldb1 3 (.t rfl) rfl ag3 rfl)) rfl (fun _ _ => rfl) (by first | exact .inr (fun _ _ => rfl) | exact .inl (by kernel_rfl)) ?_ | refine DE.q (fun e c hk => (Ev.ldb1 4 (.t rfl) rfl ag3 rfl)) rfl (fun _ _ => rfl) (by first | exact .inr (fun _ _ => rfl) | exact .inl (by kernel_rfl)) ?_
        first | refine DE.q (fun e c hk => (Ev.add (.t rfl) .k (fun _ => by omega))) rfl (fun _ _ => rfl) (by first | exact .inr (fun _ _ => rfl) | exact .inl (by kernel_rfl)) ?_ | refine DE.q (fun e c hk => (Ev.addw (.t rfl) .k)) rfl (fun _ _ => rfl) (by first | exact .inr (fun _ _ => rfl) | exact .inl (by kernel_rfl)) ?_
        refine DE.callp (fun c => hih) (fun c => ⟨(.t rfl), (.t rfl), trivial⟩) rfl (fun _ _ => rfl) (by first | exact .inr (fun _ _ => rfl) | exact .inl (by kernel_rfl)) ?_
        refine DE.q (av := fun _ => (.agg [.str m, .sl 2 [], .str [], .sl 4 ((Mrk.nst (d + 1) ((r :: tl).take k)).map Nd.av)])) (fun e c hk => Ev.nils (Ev.build ty69 st69 rfl (fun hg => ⟨_, _, _, rfl, (.t rfl), rfl, rfl, rfl, _, _, _, rfl, (.t rfl), rfl, rfl, rfl, rfl⟩)) ⟨.inl rfl, .inr ⟨rfl, 2, rfl⟩, .inl rfl, .inl rfl, trivial⟩) rfl (fun _ _ => rfl) (by first | exact .inr (fun _ _ => rfl) | exact .inl (by kernel_rfl)) ?_
        refine DE.bs (es := fun _ => [_]) Tryd.underlying25 ty69 (fun c => ⟨rfl, (.t rfl), rfl, rfl, trivial⟩) (fun _ => rfl) (by decide) rfl rfl (fun _ _ => rfl) (by first | exact .inr (fun _ _ => rfl) | exact .inl (by kernel_rfl)) ?_
        refine DE.eff1 (av := fun v => .lit v) rfl rfl (fun e c hk L_ hs Q h => ?_) ?_
        · have hk_10 := hk.not
          simp only [addE, hk_10, Nat.reduceAdd, Nat.reduceEqDiff, ↓reduceIte, cond_true, cond_false] at h ⊢
          first | (refine W.app 0 (.t (hs _ _ rfl)) rfl (.sl (.t (hs _ _ rfl)) (by first | (simp [AV.okc, shV]; done) | (intro e he; rw [List.mem_singleton.1 he]; rfl))) Tryd.underlying25 ni25 ty69 rfl rfl (by simp only [List.length_map, List.length_cons, List.length_nil]; omega) rfl ?_; exact h) | (refine W.app 1 (.t (hs _ _ rfl)) rfl (.sl (.t (hs _ _ rfl)) (by first | (simp [AV.okc, shV]; done) | (intro e he; rw [List.mem_singleton.1 he]; rfl))) Tryd.underlying25 ni25 ty69 rfl rfl (by simp only [List.length_map, List.length_cons, List.length_nil]; omega) rfl ?_; exact h) | (refine W.app 2 (.t (hs _ _ rfl)) rfl (.sl (.t (hs _ _ rfl)) (by first | (simp [AV.okc, shV]; done) | (intro e he; rw [List.mem_singleton.1 he]; rfl))) Tryd.underlying25 ni25 ty69 rfl rfl (by simp only [List.length_map, List.length_cons, List.length_nil]; omega) rfl ?_; exact h) | (refine W.app 3 (.t (hs _ _ rfl)) rfl (.sl (.t (hs _ _ rfl)) (by first | (simp [AV.okc, shV]; done) | (intro e he; rw [List.mem_singleton.1 he]; rfl))) Tryd.underlying25 ni25 ty69 rfl rfl (by simp only [List.length_map, List.length_cons, List.length_nil]; omega) rfl ?_; exact h) | (refine W.app 4 (.t (hs _ _ rfl)) rfl (.sl (.t (hs _ _ rfl)) (by first | (simp [AV.okc, shV]; done) | (intro e he; rw [List.mem_singleton.1 he]; rfl))) Tryd.underlying25 ni25 ty69 rfl rfl (by simp only [List.length_map, List.length_cons, List.length_nil]; omega) rfl ?_; exact h) | (refine W.app 0 (.t (hs _ _ rfl)) rfl (.arr 0 (.t (hs _ _ rfl)) rfl (by first | (simp [AV.okc, shV]; done) | (intro e he; rw [List.mem_singleton.1 he]; rfl))) Tryd.underlying25 ni25 ty69 rfl rfl (by simp only [List.length_map, List.length_cons, List.length_nil]; omega) rfl ?_; exact h) | (refine W.app 1 (.t (hs _ _ rfl)) rfl (.arr 0 (.t (hs _ _ rfl)) rfl (by first | (simp [AV.okc, shV]; done) | (intro e he; rw [List.mem_singleton.1 he]; rfl))) Tryd.underlying25 ni25 ty69 rfl rfl (by simp only [List.length_map, List.length_cons, List.length_nil]; omega) rfl ?_; exact h) | (refine W.app 2 (.t (hs _ _ rfl)) rfl (.arr 0 (.t (hs _ _ rfl)) rfl (by first | (simp [AV.okc, shV]; done) | (intro e he; rw [List.mem_singleton.1 he]; rfl))) Tryd.underlying25 ni25 ty69 rfl rfl (by simp only [List.length_map, List.length_cons, List.length_nil]; omega) rfl ?_; exact h) | (refine W.app 3 (.t (hs _ _ rfl)) rfl (.arr 0 (.t (hs _ _ rfl)) rfl (by first | (simp [AV.okc, shV]; done) | (intro e he; rw [List.mem_singleton.1 he]; rfl))) Tryd.underlying25 ni25 ty69 rfl rfl (by simp only [List.length_map, List.length_cons, List.length_nil]; omega) rfl ?_; exact h) | (refine W.app 4 (.t (hs _ _ rfl)) rfl (.arr 0 (.t (hs _ _ rfl)) rfl (by first | (simp [AV.okc, shV]; done) | (intro e he; rw [List.mem_singleton.1 he]; rfl))) Tryd.underlying25 ni25 ty69 rfl rfl (by simp only [List.length_map, List.length_cons, List.length_nil]; omega) rfl ?_; exact h) | (refine W.app 0 (.t (hs _ _ rfl)) rfl (.arr 1 (.t (hs _ _ rfl)) rfl (by first | (simp [AV.okc, shV]; done) | (intro e he; rw [List.mem_singleton.1 he]; rfl))) Tryd.underlying25 ni25 ty69 rfl rfl (by simp only [List.length_map, List.length_cons, List.length_nil]; omega) rfl ?_; exact h) | (refine W.app 1 (.t (hs _ _ rfl)) rfl (.arr 1 (.t (hs _ _ rfl)) rfl (by first | (simp [AV.okc, shV]; done) | (intro e he; rw [List.mem_singleton.1 he]; rfl))) Tryd.underlying25 ni25 ty69 rfl rfl (by simp only [List.length_map, List.length_cons, List.length_nil]; omega) rfl ?_; exact h) | (refine W.app 2 (.t (hs _ _ rfl)) rfl (.arr 1 (.t (hs _ _ rfl)) rfl (by first | (simp [AV.okc, shV]; done) | (intro e he; rw [List.mem_singleton.1 he]; rfl))) Tryd.underlying25 ni25 ty69 rfl rfl (by simp only [List.length_map, List.length_cons, List.length_nil]; omega) rfl ?_; exact h) | (refine W.app 3 (.t (hs _ _ rfl)) rfl (.arr 1 (.t (hs _ _ rfl)) rfl (by first | (simp [AV.okc, shV]; done) | (intro e he; rw [List.mem_singleton.1 he]; rfl))) Tryd.underlying25 ni25 ty69 rfl rfl (by simp only [List.length_map, List.length_cons, List.length_nil]; omega) rfl ?_; exact h) | (refine W.app 4 (.t (hs _ _ rfl)) rfl (.arr 1 (.t (hs _ _ rfl)) rfl (by first | (simp [AV.okc, shV]; done) | (intro e he; rw [List.mem_singleton.1 he]; rfl))) Tryd.underlying25 ni25 ty69 rfl rfl (by simp only [List.length_map, List.length_cons, List.length_nil]; omega) rfl ?_; exact h) | (refine W.app 0 (.t (hs _ _ rfl)) rfl (.arr 2 (.t (hs _ _ rfl)) rfl (by first | (simp [AV.okc, shV]; done) | (intro e he; rw [List.mem_singleton.1 he]; rfl))) Tryd.underlying25 ni25 ty69 rfl rfl (by simp only [List.length_map, List.length_cons, List.length_nil]; omega) rfl ?_; exact h) | (refine W.app 1 (.t (hs _ _ rfl)) rfl (.arr 2 (.t (hs _ _ rfl)) rfl (by first | (simp [AV.okc, shV]; done) | (intro e he; rw [List.mem_singleton.1 he]; rfl))) Tryd.underlying25 ni25 ty69 rfl rfl (by simp only [List.length_map, List.length_cons, List.length_nil]; omega) rfl ?_; exact h) | (refine W.app 2 (.t (hs _ _ rfl)) rfl (.arr 2 (.t (hs _ _ rfl)) rfl (by first | (simp [AV.okc, shV]; done) | (intro e he; rw [List.mem_singleton.1 he]; rfl))) Tryd.underlying25 ni25 ty69 rfl rfl (by simp only [List.length_map, List.length_cons, List.length_nil]; omega) rfl ?_; exact h) | (refine W.app 3 (.t (hs _ _ rfl)) rfl (.arr 2 (.t (hs _ _ rfl)) rfl (by first | (simp [AV.okc, shV]; done) | (intro e he; rw [List.mem_singleton.1 he]; rfl))) Tryd.underlying25 ni25 ty69 rfl rfl (by simp only [List.length_map, List.length_cons, List.length_nil]; omega) rfl ?_; exact h) | (refine W.app 4 (.t (hs _ _ rfl)) rfl (.arr 2 (.t (hs _ _ rfl)) rfl (by first | (simp [AV.okc, shV]; done) | (intro e he; rw [List.mem_singleton.1 he]; rfl))) Tryd.underlying25 ni25 ty69 rfl rfl (by simp only [List.length_map, List.length_cons, List.length_nil]; omega) rfl ?_; exact h) | (refine W.app 0 (.t (hs _ _ rfl)) rfl (.arr 3 (.t (hs _ _ rfl)) rfl (by first | (simp [AV.okc, shV]; done) | (intro e he; rw [List.mem_singleton.1 he]; rfl))) Tryd.underlying25 ni25 ty69 rfl rfl (by simp only [List.length_map, List.length_cons, List.length_nil]; omega) rfl ?_; exact h) | (refine W.app 1 (.t (hs _ _ rfl)) rfl (.arr 3 (.t (hs _ _ rfl)) rfl (by first | (simp [AV.okc, shV]; done) | (intro e he; rw [List.mem_singleton.1 he]; rfl))) Tryd.underlying25 ni25 ty69 rfl rfl (by simp only [List.length_map, List.length_cons, List.length_nil]; omega) rfl ?_; exact h) | (refine W.app 2 (.t (hs _ _ rfl)) rfl (.arr 3 (.t (hs _ _ rfl)) rfl (by first | (simp [AV.okc, shV]; done) | (intro e he; rw [List.mem_singleton.1 he]; rfl))) Tryd.underlying25 ni25 ty69 rfl rfl (by simp only [List.length_map, List.length_cons, List.length_nil]; omega) rfl ?_; exact h) | (refine W.app 3 (.t (hs _ _ rfl)) rfl (.arr 3 (.t (hs _ _ rfl)) rfl (by first | (simp [AV.okc, shV]; done) | (intro e he; rw [List.mem_singleton.1 he]; rfl))) Tryd.underlying25 ni25 ty69 rfl rfl (by simp only [List.length_map, List.length_cons, List.length_nil]; omega) rfl ?_; exact h) | (refine W.app 4 (.t (hs _ _ rfl)) rfl (.arr 3 (.t (hs _ _ rfl)) rfl (by first | (simp [AV.okc, shV]; done) | (intro e he; rw [List.mem_singleton.1 he]; rfl))) Tryd.underlying25 ni25 ty69 rfl rfl (by simp only [List.length_map, List.length_cons, List.length_nil]; omega) rfl ?_; exact h) | (refine W.app 0 (.t (hs _ _ rfl)) rfl (.arr 4 (.t (hs _ _ rfl)) rfl (by first | (simp [AV.okc, shV]; done) | (intro e he; rw [List.mem_singleton.1 he]; rfl))) Tryd.underlying25 ni25 ty69 rfl rfl (by simp only [List.length_map, List.length_cons, List.length_nil]; omega) rfl ?_; exact h) | (refine W.app 1 (.t (hs _ _ rfl)) rfl (.arr 4 (.t (hs _ _ rfl)) rfl (by first | (simp [AV.okc, shV]; done) | (intro e he; rw [List.mem_singleton.1 he]; rfl))) Tryd.underlying25 ni25 ty69 rfl rfl (by simp only [List.length_map, List.length_cons, List.length_nil]; omega) rfl ?_; exact h) | (refine W.app 2 (.t (hs _ _ rfl)) rfl (.arr 4 (.t (hs _ _ rfl)) rfl (by first | (simp [AV.okc, shV]; done) | (intro e he; rw [List.mem_singleton.1 he]; rfl))) Tryd.underlying25 ni25 ty69 rfl rfl (by simp only [List.length_map, List.length_cons, List.length_nil]; omega) rfl ?_; exact h) | (refine W.app 3 (.t (hs _ _ rfl)) rfl (.arr 4 (.t (hs _ _ rfl)) rfl (by first | (simp [AV.okc, shV]; done) | (intro e he; rw [List.mem_singleton.1 he]; rfl))) Tryd.underlying25 ni25 ty69 rfl rfl (by simp only [List.length_map, List.length_cons, List.length_nil]; omega) rfl ?_; exact h) | (refine W.app 4 (.t (hs _ _ rfl)) rfl (.arr 4 (.t (hs _ _ rfl)) rfl (by first | (simp [AV.okc, shV]; done) | (intro e he; rw [List.mem_singleton.1 he]; rfl))) Tryd.underlying25 ni25 ty69 rfl rfl (by simp only [List.length_map, List.length_cons, List.length_nil]; omega) rfl ?_; exact h)
        refine DE.q (fun e c hk => (Ev.assign (.t rfl))) rfl (fun _ _ => rfl) (by first | exact .inr (fun _ _ => rfl) | exact .inl (by kernel_rfl)) ?_
        refine DE.nil (fun v52 e_ he_ => ?_)
        simp only [he_ 10 (by decide), cond_true, cond_false]
        refine W.then ?_
        refine W.region ?_
        refine W.q (Ev.move (.t rfl)) rfl ?_
        refine W.q (Ev.move (.t rfl)) rfl ?_
        refine W.q (Ev.subsl (lo := some (.tmp 54)) (hi := none) (.t rfl) Tryd.underlying29 ty49 (.t rfl) rfl (fun _ => by first | omega | (simp; omega))) rfl ?_
        refine W.is (t := 55) (g := true) (av' := .sl 2 (((r :: tl).drop k).map rnav)) rfl (congrArg (AV.sl 2) (by rw [List.take_of_length_le (by omega), List.map_drop]; rfl)) ?_
        refine W.q (Ev.assign (.t rfl)) rfl ?_
        refine W.nil ?_
        refine W.blk_normal ?_
        refine W.then ?_
        first
        | (refine W.reach (D := []) (tl, out ++ [Nd.mk [] [] r.1 []], v25) ⟨rfl, rfl, rfl, trivial⟩ (by rw [Nd.map_snoc]; exact .refl _) ⟨⟨?_, ?_, ?_, ?_⟩, ?_⟩
           · show (out ++ _) ++ _ = _; rw [← hi1, hns, List.append_assoc]; rfl
           · show Mrk.wt d tl ≤ n; omega
           · show (out ++ [_]).length + tl.length ≤ _; rw [List.length_append, List.length_singleton]; omega
           · exact fun x hx => hrr x (List.mem_cons_of_mem _ hx)
           · show tl.length < (r :: tl).length; omega)
        | (refine W.reach (D := [_]) ((r :: tl).drop k, out ++ [Nd.mk m [] [] (Mrk.nst (d + 1) ((r :: tl).take k))], v52) ⟨rfl, rfl, rfl, trivial⟩ (by rw [Nd.map_snoc]; exact ((List.perm_middle (l₁ := [_, _])).trans <| List.Perm.cons _ <| List.Perm.cons _ <| List.Perm.cons _ <| .refl _)) ⟨⟨?_, ?_, ?_, ?_⟩, ?_⟩
           · show (out ++ _) ++ _ = _; rw [← hi1, hns, List.append_assoc]; rfl
           · show Mrk.wt d ((r :: tl).drop k) ≤ n; omega
           · show (out ++ [_]).length + ((r :: tl).drop k).length ≤ _; rw [List.length_append, List.length_singleton]; omega
           · exact fun x hx => hrr x (List.mem_of_mem_drop hx)
           · show ((r :: tl).drop k).length < (r :: tl).length; omega)
      · have hlt0 := of_decide_eq_false hc_t39
        rw [if_neg hlt0] at hk
        refine W.is (t := 7) (g := true) (av' := .int (k : Int)) rfl (congrArg AV.int (by omega)) ?_
        refine W.skip ?_
        refine W.then ?_
        refine W.seq ?_
        refine W.drawnE (ι := Value) (fun ee c => [.box b3 3 [.int (d : Int)], .box b6 9 [.str m], bif ee 10 then ME.arr c 69 4 (out.map Nd.av ++ [(.agg [.str m, .sl 2 [], .str [], .sl 4 ((Mrk.nst (d + 1) ((r :: tl).take k)).map Nd.av)])]) else ME.arr v 69 4 (out.map Nd.av)]) 10 v (by kernel_rfl) (by kernel_rfl) rfl ?_
        refine DE.q (fun e c hk => (Ev.move (.t rfl))) rfl (fun _ _ => rfl) (by first | exact .inr (fun _ _ => rfl) | exact .inl (by kernel_rfl)) ?_
        first | refine DE.q (fun e c hk => (Ev.lde1 (.t rfl) ag9)) rfl (fun _ _ => rfl) (by first | exact .inr (fun _ _ => rfl) | exact .inl (by kernel_rfl)) ?_ | refine DE.q (fun e c hk => (Ev.ldb1 0 (.t rfl) rfl ag9 rfl)) rfl (fun _ _ => rfl) (by first | exact .inr (fun _ _ => rfl) | exact .inl (by kernel_rfl)) ?_ | refine DE.q (fun e c hk => (Ev.ldb1 1 (.t rfl) rfl ag9 rfl)) rfl (fun _ _ => rfl) (by first | exact .inr (fun _ _ => rfl) | exact .inl (by kernel_rfl)) ?_ | refine DE.q (fun e c hk => (Ev.ldb1 2 (.t rfl) rfl ag9 rfl)) rfl (fun _ _ => rfl) (by first | exact .inr (fun _ _ => rfl) | exact .inl (by kernel_rfl)) ?_ | refine DE.q (fun e c hk => (Ev.ldb1 3 (.t rfl) rfl ag9 rfl)) rfl (fun _ _ => rfl) (by first | exact .inr (fun _ _ => rfl) | exact .inl (by kernel_rfl)) ?_ | refine DE.q (fun e c hk => (Ev.ldb1 4 (.t rfl) rfl ag9 rfl)) rfl (fun _ _ => rfl) (by first | exact .inr (fun _ _ => rfl) | exact .inl (by kernel_rfl)) ?_
        refine DE.q (fun e c hk => (Ev.move (.t rfl))) rfl (fun _ _ => rfl) (by first | exact .inr (fun _ _ => rfl) | exact .inl (by kernel_rfl)) ?_
        refine DE.q (fun e c hk => (Ev.move (.t rfl))) rfl (fun _ _ => rfl) (by first | exact .inr (fun _ _ => rfl) | exact .inl (by kernel_rfl)) ?_
        refine DE.q (fun e c hk => Ev.takesl (n := k) (.t rfl) Tryd.underlying29 ty49 (.t rfl) rfl (fun _ => by omega)) rfl (fun _ _ => rfl) (by first | exact .inr (fun _ _ => rfl) | exact .inl (by kernel_rfl)) ?_
        first | refine DE.q (fun e c hk => (Ev.lde1 (.t rfl) ag3)) rfl (fun _ _ => rfl) (by first | exact .inr (fun _ _ => rfl) | exact .inl (by kernel_rfl)) ?_ | refine DE.q (fun e c hk => (Ev.ldb1 0 (.t rfl) rfl ag3 rfl)) rfl (fun _ _ => rfl) (by first | exact .inr (fun _ _ => rfl) | exact .inl (by kernel_rfl)) ?_ | refine DE.q (fun e c hk => (Ev.ldb1 1 (.t rfl) rfl ag3 rfl)) rfl (fun _ _ => rfl) (by first | exact .inr (fun _ _ => rfl) | exact .inl (by kernel_rfl)) ?_ | refine DE.q (fun e c hk => (Ev.ldb1 2 (.t rfl) rfl ag3 rfl)) rfl (fun _ _ => rfl) (by first | exact .inr (fun _ _ => rfl) | exact .inl (by kernel_rfl)) ?_ | refine DE.q (fun e c hk => (Ev.ldb1 3 (.t rfl) rfl ag3 rfl)) rfl (fun _ _ => rfl) (by first | exact .inr (fun _ _ => rfl) | exact .inl (by kernel_rfl)) ?_ | refine DE.q (fun e c hk => (Ev.ldb1 4 (.t rfl) rfl ag3 rfl)) rfl (fun _ _ => rfl) (by first | exact .inr (fun _ _ => rfl) | exact .inl (by kernel_rfl)) ?_
        first | refine DE.q (fun e c hk => (Ev.add (.t rfl) .k (fun _ => by omega))) rfl (fun _ _ => rfl) (by first | exact .inr (fun _ _ => rfl) | exact .inl (by kernel_rfl)) ?_ | refine DE.q (fun e c hk => (Ev.addw (.t rfl) .k)) rfl (fun _ _ => rfl) (by first | exact .inr (fun _ _ => rfl) | exact .inl (by kernel_rfl)) ?_
        refine DE.callp (fun c => hih) (fun c => ⟨(.t rfl), (.t rfl), trivial⟩) rfl (fun _ _ => rfl) (by first | exact .inr (fun _ _ => rfl) | exact .inl (by kernel_rfl)) ?_
        refine DE.q (av := fun _ => (.agg [.str m, .sl 2 [], .str [], .sl 4 ((Mrk.nst (d + 1) ((r :: tl).take k)).map Nd.av)])) (fun e c hk => Ev.nils (Ev.build ty69 st69 rfl (fun hg => ⟨_, _, _, rfl, (.t rfl), rfl, rfl, rfl, _, _, _, rfl, (.t rfl), rfl, rfl, rfl, rfl⟩)) ⟨.inl rfl, .inr ⟨rfl, 2, rfl⟩, .inl rfl, .inl rfl, trivial⟩) rfl (fun _ _ => rfl) (by first | exact .inr (fun _ _ => rfl) | exact .inl (by kernel_rfl)) ?_
        refine DE.bs (es := fun _ => [_]) Tryd.underlying25 ty69 (fun c => ⟨rfl, (.t rfl), rfl, rfl, trivial⟩) (fun _ => rfl) (by decide) rfl rfl (fun _ _ => rfl) (by first | exact .inr (fun _ _ => rfl) | exact .inl (by kernel_rfl)) ?_
        refine DE.eff1 (av := fun v => .lit v) rfl rfl (fun e c hk L_ hs Q h => ?_) ?_
        · have hk_10 := hk.not
          simp only [addE, hk_10, Nat.reduceAdd, Nat.reduceEqDiff, ↓reduceIte, cond_true, cond_false] at h ⊢
          first | (refine W.app 0 (.t (hs _ _ rfl)) rfl (.sl (.t (hs _ _ rfl)) (by first | (simp [AV.okc, shV]; done) | (intro e he; rw [List.mem_singleton.1 he]; rfl))) Tryd.underlying25 ni25 ty69 rfl rfl (by simp only [List.length_map, List.length_cons, List.length_nil]; omega) rfl ?_; exact h) | (refine W.app 1 (.t (hs _ _ rfl)) rfl (.sl (.t (hs _ _ rfl)) (by first | (simp [AV.okc, shV]; done) | (intro e he; rw [List.mem_singleton.1 he]; rfl))) Tryd.underlying25 ni25 ty69 rfl rfl (by simp only [List.length_map, List.length_cons, List.length_nil]; omega) rfl ?_; exact h) | (refine W.app 2 (.t (hs _ _ rfl)) rfl (.sl (.t (hs _ _ rfl)) (by first | (simp [AV.okc, shV]; done) | (intro e he; rw [List.mem_singleton.1 he]; rfl))) Tryd.underlying25 ni25 ty69 rfl rfl (by simp only [List.length_map, List.length_cons, List.length_nil]; omega) rfl ?_; exact h) | (refine W.app 3 (.t (hs _ _ rfl)) rfl (.sl (.t (hs _ _ rfl)) (by first | (simp [AV.okc, shV]; done) | (intro e he; rw [List.mem_singleton.1 he]; rfl))) Tryd.underlying25 ni25 ty69 rfl rfl (by simp only [List.length_map, List.length_cons, List.length_nil]; omega) rfl ?_; exact h) | (refine W.app 4 (.t (hs _ _ rfl)) rfl (.sl (.t (hs _ _ rfl)) (by first | (simp [AV.okc, shV]; done) | (intro e he; rw [List.mem_singleton.1 he]; rfl))) Tryd.underlying25 ni25 ty69 rfl rfl (by simp only [List.length_map, List.length_cons, List.length_nil]; omega) rfl ?_; exact h) | (refine W.app 0 (.t (hs _ _ rfl)) rfl (.arr 0 (.t (hs _ _ rfl)) rfl (by first | (simp [AV.okc, shV]; done) | (intro e he; rw [List.mem_singleton.1 he]; rfl))) Tryd.underlying25 ni25 ty69 rfl rfl (by simp only [List.length_map, List.length_cons, List.length_nil]; omega) rfl ?_; exact h) | (refine W.app 1 (.t (hs _ _ rfl)) rfl (.arr 0 (.t (hs _ _ rfl)) rfl (by first | (simp [AV.okc, shV]; done) | (intro e he; rw [List.mem_singleton.1 he]; rfl))) Tryd.underlying25 ni25 ty69 rfl rfl (by simp only [List.length_map, List.length_cons, List.length_nil]; omega) rfl ?_; exact h) | (refine W.app 2 (.t (hs _ _ rfl)) rfl (.arr 0 (.t (hs _ _ rfl)) rfl (by first | (simp [AV.okc, shV]; done) | (intro e he; rw [List.mem_singleton.1 he]; rfl))) Tryd.underlying25 ni25 ty69 rfl rfl (by simp only [List.length_map, List.length_cons, List.length_nil]; omega) rfl ?_; exact h) | (refine W.app 3 (.t (hs _ _ rfl)) rfl (.arr 0 (.t (hs _ _ rfl)) rfl (by first | (simp [AV.okc, shV]; done) | (intro e he; rw [List.mem_singleton.1 he]; rfl))) Tryd.underlying25 ni25 ty69 rfl rfl (by simp only [List.length_map, List.length_cons, List.length_nil]; omega) rfl ?_; exact h) | (refine W.app 4 (.t (hs _ _ rfl)) rfl (.arr 0 (.t (hs _ _ rfl)) rfl (by first | (simp [AV.okc, shV]; done) | (intro e he; rw [List.mem_singleton.1 he]; rfl))) Tryd.underlying25 ni25 ty69 rfl rfl (by simp only [List.length_map, List.length_cons, List.length_nil]; omega) rfl ?_; exact h) | (refine W.app 0 (.t (hs _ _ rfl)) rfl (.arr 1 (.t (hs _ _ rfl)) rfl (by first | (simp [AV.okc, shV]; done) | (intro e he; rw [List.mem_singleton.1 he]; rfl))) Tryd.underlying25 ni25 ty69 rfl rfl (by simp only [List.length_map, List.length_cons, List.length_nil]; omega) rfl ?_; exact h) | (refine W.app 1 (.t (hs _ _ rfl)) rfl (.arr 1 (.t (hs _ _ rfl)) rfl (by first | (simp [AV.okc, shV]; done) | (intro e he; rw [List.mem_singleton.1 he]; rfl))) Tryd.underlying25 ni25 ty69 rfl rfl (by simp only [List.length_map, List.length_cons, List.length_nil]; omega) rfl ?_; exact h) | (refine W.app 2 (.t (hs _ _ rfl)) rfl (.arr 1 (.t (hs _ _ rfl)) rfl (by first | (simp [AV.okc, shV]; done) | (intro e he; rw [List.mem_singleton.1 he]; rfl))) Tryd.underlying25 ni25 ty69 rfl rfl (by simp only [List.length_map, List.length_cons, List.length_nil]; omega) rfl ?_; exact h) | (refine W.app 3 (.t (hs _ _ rfl)) rfl (.arr 1 (.t (hs _ _ rfl)) rfl (by first | (simp [AV.okc, shV]; done) | (intro e he; rw [List.mem_singleton.1 he]; rfl))) Tryd.underlying25 ni25 ty69 rfl rfl (by simp only [List.length_map, List.length_cons, List.length_nil]; omega) rfl ?_; exact h) | (refine W.app 4 (.t (hs _ _ rfl)) rfl (.arr 1 (.t (hs _ _ rfl)) rfl (by first | (simp [AV.okc, shV]; done) | (intro e he; rw [List.mem_singleton.1 he]; rfl))) Tryd.underlying25 ni25 ty69 rfl rfl (by simp only [List.length_map, List.length_cons, List.length_nil]; omega) rfl ?_; exact h) | (refine W.app 0 (.t (hs _ _ rfl)) rfl (.arr 2 (.t (hs _ _ rfl)) rfl (by first | (simp [AV.okc, shV]; done) | (intro e he; rw [List.mem_singleton.1 he]; rfl))) Tryd.underlying25 ni25 ty69 rfl rfl (by simp only [List.length_map, List.length_cons, List.length_nil]; omega) rfl ?_; exact h) | (refine W.app 1 (.t (hs _ _ rfl)) rfl (.arr 2 (.t (hs _ _ rfl)) rfl (by first | (simp [AV.okc, shV]; done) | (intro e he; rw [List.mem_singleton.1 he]; rfl))) Tryd.underlying25 ni25 ty69 rfl rfl (by simp only [List.length_map, List.length_cons, List.length_nil]; omega) rfl ?_; exact h) | (refine W.app 2 (.t (hs _ _ rfl)) rfl (.arr 2 (.t (hs _ _ rfl)) rfl (by first | (simp [AV.okc, shV]; done) | (intro e he; rw [List.mem_singleton.1 he]; rfl))) Tryd.underlying25 ni25 ty69 rfl rfl (by simp only [List.length_map, List.length_cons, List.length_nil]; omega) rfl ?_; exact h) | (refine W.app 3 (.t (hs _ _ rfl)) rfl (.arr 2 (.t (hs _ _ rfl)) rfl (by first | (simp [AV.okc, shV]; done) | (intro e he; rw [List.mem_singleton.1 he]; rfl))) Tryd.underlying25 ni25 ty69 rfl rfl (by simp only [List.length_map, List.length_cons, List.length_nil]; omega) rfl ?_; exact h) | (refine W.app 4 (.t (hs _ _ rfl)) rfl (.arr 2 (.t (hs _ _ rfl)) rfl (by first | (simp [AV.okc, shV]; done) | (intro e he; rw [List.mem_singleton.1 he]; rfl))) Tryd.underlying25 ni25 ty69 rfl rfl (by simp only [List.length_map, List.length_cons, List.length_nil]; omega) rfl ?_; exact h) | (refine W.app 0 (.t (hs _ _ rfl)) rfl (.arr 3 (.t (hs _ _ rfl)) rfl (by first | (simp [AV.okc, shV]; done) | (intro e he; rw [List.mem_singleton.1 he]; rfl))) Tryd.underlying25 ni25 ty69 rfl rfl (by simp only [List.length_map, List.length_cons, List.length_nil]; omega) rfl ?_; exact h) | (refine W.app 1 (.t (hs _ _ rfl)) rfl (.arr 3 (.t (hs _ _ rfl)) rfl (by first | (simp [AV.okc, shV]; done) | (intro e he; rw [List.mem_singleton.1 he]; rfl))) Tryd.underlying25 ni25 ty69 rfl rfl (by simp only [List.length_map, List.length_cons, List.length_nil]; omega) rfl ?_; exact h) | (refine W.app 2 (.t (hs _ _ rfl)) rfl (.arr 3 (.t (hs _ _ rfl)) rfl (by first | (simp [AV.okc, shV]; done) | (intro e he; rw [List.mem_singleton.1 he]; rfl))) Tryd.underlying25 ni25 ty69 rfl rfl (by simp only [List.length_map, List.length_cons, List.length_nil]; omega) rfl ?_; exact h) | (refine W.app 3 (.t (hs _ _ rfl)) rfl (.arr 3 (.t (hs _ _ rfl)) rfl (by first | (simp [AV.okc, shV]; done) | (intro e he; rw [List.mem_singleton.1 he]; rfl))) Tryd.underlying25 ni25 ty69 rfl rfl (by simp only [List.length_map, List.length_cons, List.length_nil]; omega) rfl ?_; exact h) | (refine W.app 4 (.t (hs _ _ rfl)) rfl (.arr 3 (.t (hs _ _ rfl)) rfl (by first | (simp [AV.okc, shV]; done) | (intro e he; rw [List.mem_singleton.1 he]; rfl))) Tryd.underlying25 ni25 ty69 rfl rfl (by simp only [List.length_map, List.length_cons, List.length_nil]; omega) rfl ?_; exact h) | (refine W.app 0 (.t (hs _ _ rfl)) rfl (.arr 4 (.t (hs _ _ rfl)) rfl (by first | (simp [AV.okc, shV]; done) | (intro e he; rw [List.mem_singleton.1 he]; rfl))) Tryd.underlying25 ni25 ty69 rfl rfl (by simp only [List.length_map, List.length_cons, List.length_nil]; omega) rfl ?_; exact h) | (refine W.app 1 (.t (hs _ _ rfl)) rfl (.arr 4 (.t (hs _ _ rfl)) rfl (by first | (simp [AV.okc, shV]; done) | (intro e he; rw [List.mem_singleton.1 he]; rfl))) Tryd.underlying25 ni25 ty69 rfl rfl (by simp only [List.length_map, List.length_cons, List.length_nil]; omega) rfl ?_; exact h) | (refine W.app 2 (.t (hs _ _ rfl)) rfl (.arr 4 (.t (hs _ _ rfl)) rfl (by first | (simp [AV.okc, shV]; done) | (intro e he; rw [List.mem_singleton.1 he]; rfl))) Tryd.underlying25 ni25 ty69 rfl rfl (by simp only [List.length_map, List.length_cons, List.length_nil]; omega) rfl ?_; exact h) | (refine W.app 3 (.t (hs _ _ rfl)) rfl (.arr 4 (.t (hs _ _ rfl)) rfl (by first | (simp [AV.okc, shV]; done) | (intro e he; rw [List.mem_singleton.1 he]; rfl))) Tryd.underlying25 ni25 ty69 rfl rfl (by simp only [List.length_map, List.length_cons, List.length_nil]; omega) rfl ?_; exact h) | (refine W.app 4 (.t (hs _ _ rfl)) rfl (.arr 4 (.t (hs _ _ rfl)) rfl (by first | (simp [AV.okc, shV]; done) | (intro e he; rw [List.mem_singleton.1 he]; rfl))) Tryd.underlying25 ni25 ty69 rfl rfl (by simp only [List.length_map, List.length_cons, List.length_nil]; omega) rfl ?_; exact h)
        refine DE.q (fun e c hk => (Ev.assign (.t rfl))) rfl (fun _ _ => rfl) (by first | exact .inr (fun _ _ => rfl) | exact .inl (by kernel_rfl)) ?_
        refine DE.nil (fun v52 e_ he_ => ?_)
        simp only [he_ 10 (by decide), cond_true, cond_false]
        refine W.then ?_
        refine W.region ?_
        refine W.q (Ev.move (.t rfl)) rfl ?_
        refine W.q (Ev.move (.t rfl)) rfl ?_
        refine W.q (Ev.subsl (lo := some (.tmp 54)) (hi := none) (.t rfl) Tryd.underlying29 ty49 (.t rfl) rfl (fun _ => by first | omega | (simp; omega))) rfl ?_
        refine W.is (t := 55) (g := true) (av' := .sl 2 (((r :: tl).drop k).map rnav)) rfl (congrArg (AV.sl 2) (by rw [List.take_of_length_le (by omega), List.map_drop]; rfl)) ?_
        refine W.q (Ev.assign (.t rfl)) rfl ?_
        refine W.nil ?_
        refine W.blk_normal ?_
        refine W.then ?_
        first
        | (refine W.reach (D := []) (tl, out ++ [Nd.mk [] [] r.1 []], v25) ⟨rfl, rfl, rfl, trivial⟩ (by rw [Nd.map_snoc]; exact .refl _) ⟨⟨?_, ?_, ?_, ?_⟩, ?_⟩
           · show (out ++ _) ++ _ = _; rw [← hi1, hns, List.append_assoc]; rfl
           · show Mrk.wt d tl ≤ n; omega
           · show (out ++ [_]).length + tl.length ≤ _; rw [List.length_append, List.length_singleton]; omega
           · exact fun x hx => hrr x (List.mem_cons_of_mem _ hx)
           · show tl.length < (r :: tl).length; omega)
        | (refine W.reach (D := [_]) ((r :: tl).drop k, out ++ [Nd.mk m [] [] (Mrk.nst (d + 1) ((r :: tl).take k))], v52) ⟨rfl, rfl, rfl, trivial⟩ (by rw [Nd.map_snoc]; exact ((List.perm_middle (l₁ := [_, _])).trans <| List.Perm.cons _ <| List.Perm.cons _ <| List.Perm.cons _ <| .refl _)) ⟨⟨?_, ?_, ?_, ?_⟩, ?_⟩
           · show (out ++ _) ++ _ = _; rw [← hi1, hns, List.append_assoc]; rfl
           · show Mrk.wt d ((r :: tl).drop k) ≤ n; omega
           · show (out ++ [_]).length + ((r :: tl).drop k).length ≤ _; rw [List.length_append, List.length_singleton]; omega
           · exact fun x hx => hrr x (List.mem_of_mem_drop hx)
           · show ((r :: tl).drop k).length < (r :: tl).length; omega)

theorem c_nest (d : Nat) (l : List Rn) (hl : l.length ≤ 1000) (hd : d ≤ 1001) (hr : ∀ r ∈ l, d ≤ r.2.length ∧ r.2.length ≤ 1000) : FnP Tryd.prog 29 [.sl 2 (l.map rnav), .int (d : Int)] (.sl 4 ((Mrk.nst d l).map Nd.av)) := by
  suffices H : ∀ (n d : Nat) (l : List Rn), Mrk.wt d l = n → l.length ≤ 1000 → d ≤ 1001 → (∀ r ∈ l, d ≤ r.2.length ∧ r.2.length ≤ 1000) → FnP Tryd.prog 29 [.sl 2 (l.map rnav), .int (d : Int)] (.sl 4 ((Mrk.nst d l).map Nd.av)) from H _ d l rfl hl hd hr
  intro n
  induction n using Nat.strongRecOn with
  | _ n ih => exact fun d l hw hl hd hr => c_nest_step n (fun d l h1 h2 h3 h4 => ih _ h1 d l rfl h2 h3 h4) d l hw hl hd hr

end WMNest

end Go.Proofs.YtlglnmafddnmmaaDoor
end

section
set_option linter.unusedVariables false
set_option linter.unusedSimpArgs false
set_option maxRecDepth 100000
namespace Go.Proofs.YtlglnmafddnmmaaDoor
open Go.Vl

namespace WName

theorem c_indexFunc (s : List UInt8) (hs : s.length ≤ 17592186044416) (g : Nat) (caps : List Value) (M0 : List ME) (p : Int → Bool) (hg : ∀ r : Nat, FnC Tryd.prog g ([.lit (.int .i32 (r : Int))] ++ caps.map .lit) M0 (fun r' M => r' = .bool (p r) ∧ M = M0)) (tr : Bool) : FnC Tryd.prog 95 [.str s, .lit (.func (.func g) #[] caps.toArray), .bool tr] M0 (fun r M => M = M0 ∧ ∃ k : Int, r = .int k ∧ decide (0 ≤ k) = (runes s).any fun r => p r == tr) :=  by
  refine FnC.mk Tryd.func95 (by kernel_rfl) rfl Tryd.ntmps95 rfl (fun w0 F => ?_)
  refine W.seq ?_
  refine W.region ?_
  refine W.q (Ev.assign .k) rfl ?_
  refine W.nil ?_
  refine W.then ?_
  refine W.seq ?_
  refine W.seq ?_
  refine W.region ?_
  refine W.q (Ev.move (.t rfl)) rfl ?_
  refine W.rng (.t rfl) Tryd.underlying9 rfl ?_
  intro b10
  refine W.nil ?_
  refine W.then ?_
  refine W.block ?_
  refine W.loop (D := []) (ι := Nat) (fun q => [(10, true, .lit (.pointer (some ⟨b10, 0, none⟩))), (1, true, .lit (.func (.func g) #[] caps.toArray)), (2, true, .bool tr)]) (fun q => .obj b10 (.stringIter ⟨s.toArray⟩ q) :: M0) (fun q => q ≤ s.length ∧ ((runes s).any fun r => p r == tr) = ((runes (s.drop q)).any fun r => p r == tr)) (fun q => s.length - q) 0 ⟨rfl, rfl, rfl, trivial⟩ (by rw [List.append_nil]) ⟨Nat.zero_le _, by simp⟩ ?_
  rintro q ⟨hp1, hp2⟩
  dsimp only at hp1 hp2 ⊢
  have hle := dec_le (s.drop q)
  by_cases hp : q < s.length
  · have hw := dec_width (s.drop q) (by intro e; have := congrArg List.length e; simp at this; omega)
    rw [List.length_drop] at hw
    rw [runes_drop s q hp, List.any_cons] at hp2
    refine W.seq ?_
    refine W.region ?_
    first | refine W.nxtT 0 (.t rfl) rfl (by omega) rfl ?_ | refine W.nxtF 0 (.t rfl) rfl (by omega) rfl ?_ | refine W.nxtT 1 (.t rfl) rfl (by omega) rfl ?_ | refine W.nxtF 1 (.t rfl) rfl (by omega) rfl ?_ | refine W.nxtT 2 (.t rfl) rfl (by omega) rfl ?_ | refine W.nxtF 2 (.t rfl) rfl (by omega) rfl ?_ | refine W.nxtT 3 (.t rfl) rfl (by omega) rfl ?_ | refine W.nxtF 3 (.t rfl) rfl (by omega) rfl ?_
    refine W.q (Ev.extract (.t rfl) rfl) rfl ?_
    refine W.nil ?_
    refine W.then ?_
    refine W.seq ?_
    refine W.condT (.t rfl) ?_
    refine W.skip ?_
    refine W.then ?_
    refine W.block ?_
    refine W.seq ?_
    refine W.region ?_
    refine W.q (Ev.extract (.t rfl) rfl) rfl ?_
    refine W.q (Ev.extract (.t rfl) rfl) rfl ?_
    refine W.q (Ev.assign (.t rfl)) rfl ?_
    refine W.q (Ev.assign (.t rfl)) rfl ?_
    refine W.nil ?_
    refine W.then ?_
    refine W.seq ?_
    refine W.region ?_
    refine W.q (Ev.move (.t rfl)) rfl ?_
    refine W.q (Ev.move (.t rfl)) rfl ?_
    refine W.callv (caps := caps) (avs := [_]) (hg (dec (s.drop q)).1) (.t rfl) ⟨(.t rfl), trivial⟩ rfl (List.perm_append_comm (l₁ := [_])) rfl ?_
    rintro _ M' ⟨rfl, hM⟩
    rw [hM]
    refine W.q (Ev.move (.t rfl)) rfl ?_
    refine W.q (Ev.eqb (.t rfl) (.t rfl) Tryd.underlying4) rfl ?_
    refine W.nil ?_
    refine W.then ?_
    refine W.cond (.t rfl) (fun hc_t19 => ?_) (fun hc_t19 => ?_)
    · refine W.seq ?_
      refine W.region ?_
      refine W.q (Ev.move (.t rfl)) rfl ?_
      refine W.q (Ev.assign (.t rfl)) rfl ?_
      refine W.nil ?_
      refine W.then ?_
      refine W.ret ?_
      refine W.blk_ret ?_
      refine W.then_ret ?_
      refine W.blk_ret ?_
      refine W.then_ret ?_
      refine W.retn (M' := M0) (D := [_]) (rs := [.tmp 6]) (avs := [_]) Tryd.results95 ⟨rfl, trivial⟩ rfl (by first | exact .refl _ | exact List.perm_append_comm (l₁ := [_])) ?_
      refine ⟨rfl, _, rfl, ?_⟩
      rw [hp2]
      first | (rw [hc_t19, Bool.true_or]; simp; done) | simp
    · refine W.skip ?_
      refine W.blk_normal ?_
      refine W.then ?_
      refine W.reach (D := []) (q + (dec (s.drop q)).2) ⟨rfl, rfl, rfl, trivial⟩ (by rw [List.append_nil]; exact List.perm_append_comm (l₂ := [_])) ⟨⟨by omega, ?_⟩, by show _ - _ < _ - _; omega⟩
      rw [hp2, hc_t19, Bool.false_or]
  · have hsd : s.drop q = [] := List.drop_of_length_le (by omega)
    rw [hsd, runes_nil] at hp2
    refine W.seq ?_
    refine W.region ?_
    first | refine W.nxtT 0 (.t rfl) rfl (by omega) rfl ?_ | refine W.nxtF 0 (.t rfl) rfl (by omega) rfl ?_ | refine W.nxtT 1 (.t rfl) rfl (by omega) rfl ?_ | refine W.nxtF 1 (.t rfl) rfl (by omega) rfl ?_ | refine W.nxtT 2 (.t rfl) rfl (by omega) rfl ?_ | refine W.nxtF 2 (.t rfl) rfl (by omega) rfl ?_ | refine W.nxtT 3 (.t rfl) rfl (by omega) rfl ?_ | refine W.nxtF 3 (.t rfl) rfl (by omega) rfl ?_
    refine W.q (Ev.extract (.t rfl) rfl) rfl ?_
    refine W.nil ?_
    refine W.then ?_
    refine W.seq ?_
    refine W.condF (.t rfl) ?_
    refine W.exit ?_
    refine W.then_exit ?_
    refine W.then_exit ?_
    refine W.blk_hit ?_
    refine W.then ?_
    refine W.seq ?_
    refine W.region ?_
    refine W.q (Ev.assign .k) rfl ?_
    refine W.nil ?_
    refine W.then ?_
    refine W.ret ?_
    refine W.retn (M' := M0) (D := [_]) (rs := [.tmp 6]) (avs := [_]) Tryd.results95 ⟨rfl, trivial⟩ rfl (by first | exact .refl _ | exact List.perm_append_comm (l₁ := [_])) ?_
    refine ⟨rfl, _, rfl, ?_⟩
    rw [hp2]
    first | (rw [hc_t19, Bool.true_or]; simp; done) | simp

theorem c_IndexFunc (s : List UInt8) (hs : s.length ≤ 17592186044416) (g : Nat) (caps : List Value) (M0 : List ME) (p : Int → Bool) (hg : ∀ r : Nat, FnC Tryd.prog g ([.lit (.int .i32 (r : Int))] ++ caps.map .lit) M0 (fun r' M => r' = .bool (p r) ∧ M = M0)) : FnC Tryd.prog 79 [.str s, .lit (.func (.func g) #[] caps.toArray)] M0 (fun r M => M = M0 ∧ ∃ k : Int, r = .int k ∧ decide (0 ≤ k) = (runes s).any fun r => p r) :=  by
  refine FnC.mk Tryd.func79 (by kernel_rfl) rfl Tryd.ntmps79 rfl (fun w0 F => ?_)
  refine W.seq ?_
  refine W.region ?_
  refine W.q (Ev.assign .k) rfl ?_
  refine W.nil ?_
  refine W.then ?_
  refine W.seq ?_
  refine W.region ?_
  refine W.q (Ev.move (.t rfl)) rfl ?_
  refine W.q (Ev.move (.t rfl)) rfl ?_
  refine W.call (c_indexFunc s hs g caps M0 p hg true) ⟨(.t rfl), (.t rfl), .k, trivial⟩ ((List.Perm.of_eq (List.append_nil _).symm)) rfl ?_
  rintro _ M' ⟨hM, k, rfl, hk⟩
  rw [hM, List.append_nil]
  refine W.q (Ev.assign (.t rfl)) rfl ?_
  refine W.nil ?_
  refine W.then ?_
  refine W.ret ?_
  refine W.retn (M' := M0) (D := []) (rs := [.tmp 4]) (avs := [_]) Tryd.results79 ⟨rfl, trivial⟩ rfl (List.Perm.of_eq (List.append_nil _).symm) ?_
  exact ⟨rfl, k, rfl, by rw [hk]; simp⟩

theorem c_ContainsFunc (s : List UInt8) (hs : s.length ≤ 17592186044416) (g : Nat) (caps : List Value) (M0 : List ME) (p : Int → Bool) (hg : ∀ r : Nat, FnC Tryd.prog g ([.lit (.int .i32 (r : Int))] ++ caps.map .lit) M0 (fun r' M => r' = .bool (p r) ∧ M = M0)) : FnC Tryd.prog 61 [.str s, .lit (.func (.func g) #[] caps.toArray)] M0 (fun r M => r = .bool ((runes s).any fun r => p r) ∧ M = M0) :=  by
  refine FnC.mk Tryd.func61 (by kernel_rfl) rfl Tryd.ntmps61 rfl (fun w0 F => ?_)
  refine W.seq ?_
  refine W.region ?_
  refine W.q (Ev.assign .k) rfl ?_
  refine W.nil ?_
  refine W.then ?_
  refine W.seq ?_
  refine W.region ?_
  refine W.q (Ev.move (.t rfl)) rfl ?_
  refine W.q (Ev.move (.t rfl)) rfl ?_
  refine W.call (c_IndexFunc s hs g caps M0 p hg) ⟨(.t rfl), (.t rfl), trivial⟩ ((List.Perm.of_eq (List.append_nil _).symm)) rfl ?_
  rintro _ M' ⟨hM, k, rfl, hk⟩
  rw [hM, List.append_nil]
  refine W.q (Ev.gei (.t rfl) .k) rfl ?_
  refine W.q (Ev.assign (.t rfl)) rfl ?_
  refine W.nil ?_
  refine W.then ?_
  refine W.ret ?_
  refine W.retn (M' := M0) (D := []) (rs := [.tmp 4]) (avs := [_]) Tryd.results61 ⟨rfl, trivial⟩ rfl (List.Perm.of_eq (List.append_nil _).symm) ?_
  exact ⟨congrArg AV.bool hk, rfl⟩

theorem c_Name1 (r : Int) : FnP Tryd.prog 62 [.lit (.int .i32 r)] (.bool (!(nameCh r))) :=  by
  refine FnC.mk Tryd.func62 (by kernel_rfl) rfl Tryd.ntmps62 rfl (fun w0 F => ?_)
  refine W.seq ?_
  refine W.region ?_
  refine W.q (Ev.assign .k) rfl ?_
  refine W.nil ?_
  refine W.then ?_
  refine W.seq ?_
  refine W.region ?_
  refine W.q (Ev.move (.t rfl)) rfl ?_
  refine W.q (Ev.gei (.t rfl) .k) rfl ?_
  refine W.q (Ev.move (.t rfl)) rfl ?_
  refine W.qgT rfl rfl (Ev.move (.t rfl)) rfl ?_
  refine W.qgT rfl rfl (Ev.lei (.c rfl) .k) rfl ?_
  refine W.q (Ev.and (.t rfl) ⟨_, _, rfl, rfl, by first | (simp; done) | (intro hg_ hp_; simp [hp_]; done) | (simp <;> omega; done) | (simp_all; done) | grind⟩) rfl ?_
  refine W.q (Ev.move (.t rfl)) rfl ?_
  refine W.qgF rfl rfl (Ev.move (.t rfl)) rfl ?_
  refine W.qgF rfl rfl (Ev.gei (.c rfl) .k) rfl ?_
  refine W.qgF rfl rfl (Ev.move (.c rfl)) rfl ?_
  refine W.qgT' rfl rfl (Ev.move (.t rfl)) rfl ?_
  refine W.qgT' rfl rfl (Ev.lei (.c rfl) .k) rfl ?_
  refine W.qgF rfl rfl (Ev.and (.c rfl) ⟨_, _, rfl, rfl, by first | (simp; done) | (intro hg_ hp_; simp [hp_]; done) | (simp <;> omega; done) | (simp_all; done) | grind⟩) rfl ?_
  refine W.q (Ev.or (.t rfl) ⟨_, _, rfl, rfl, by first | (simp; done) | (intro hg_ hp_; simp [hp_]; done) | (simp <;> omega; done) | (simp_all; done) | grind⟩) rfl ?_
  refine W.q (Ev.move (.t rfl)) rfl ?_
  refine W.qgF rfl rfl (Ev.move (.t rfl)) rfl ?_
  refine W.qgF rfl rfl (Ev.eqi (.c rfl) .k) rfl ?_
  refine W.q (Ev.or (.t rfl) ⟨_, _, rfl, rfl, by first | (simp; done) | (intro hg_ hp_; simp [hp_]; done) | (simp <;> omega; done) | (simp_all; done) | grind⟩) rfl ?_
  refine W.q (Ev.not (.t rfl)) rfl ?_
  refine W.q (Ev.assign (.t rfl)) rfl ?_
  refine W.nil ?_
  refine W.then ?_
  refine W.ret ?_
  refine W.retn (M' := []) (rs := [.tmp 2]) (avs := [_]) Tryd.results62 ⟨rfl, trivial⟩ rfl (.refl _) ?_
  exact ⟨congrArg AV.bool rfl, rfl⟩

theorem c_Name (s : List UInt8) (hs : s.length ≤ 17592186044416) : FnP Tryd.prog 39 [.str s] (.bool (nameOk s)) :=  by
  refine FnC.mk Tryd.func39 (by kernel_rfl) rfl Tryd.ntmps39 rfl (fun w0 F => ?_)
  refine W.seq ?_
  refine W.region ?_
  refine W.q (Ev.assign .k) rfl ?_
  refine W.nil ?_
  refine W.then ?_
  refine W.seq ?_
  refine W.seq ?_
  refine W.region ?_
  refine W.q (Ev.move (.t rfl)) rfl ?_
  refine W.q (Ev.eqs (.t rfl) .k) rfl ?_
  refine W.q (Ev.move (.t rfl)) rfl ?_
  refine W.qgF rfl rfl (Ev.move (.t rfl)) rfl ?_
  refine W.qgF rfl rfl (Ev.lens (.c rfl) Tryd.underlying9) rfl ?_
  refine W.qgF rfl rfl (Ev.gti (.c rfl) .k) rfl ?_
  refine W.q (Ev.or (.t rfl) ⟨_, _, rfl, rfl, by first | (simp; done) | (intro hg_ hp_; simp [hp_]; done) | (simp <;> omega; done) | (simp_all; done) | grind⟩) rfl ?_
  refine W.q (Ev.move (.t rfl)) rfl ?_
  refine W.qgF rfl rfl (Ev.move (.t rfl)) rfl ?_
  refine W.qgF rfl rfl (Ev.ats' (.c rfl) .k Tryd.underlying9 (fun hg => by have h0 : s ≠ [] := (by rintro rfl; simp at hg); have := List.length_pos_iff.2 h0; omega)) rfl ?_
  refine W.qgF rfl rfl (Ev.lti (.c rfl) .k) rfl ?_
  refine W.q (Ev.or (.t rfl) ⟨_, _, rfl, rfl, by first | (simp; done) | (intro hg_ hp_; simp [hp_]; done) | (simp <;> omega; done) | (simp_all; done) | grind⟩) rfl ?_
  refine W.q (Ev.move (.t rfl)) rfl ?_
  refine W.qgF rfl rfl (Ev.move (.t rfl)) rfl ?_
  refine W.qgF rfl rfl (Ev.ats' (.c rfl) .k Tryd.underlying9 (fun hg => by have h0 : s ≠ [] := (by rintro rfl; simp at hg); have := List.length_pos_iff.2 h0; omega)) rfl ?_
  refine W.qgF rfl rfl (Ev.gti (.c rfl) .k) rfl ?_
  refine W.q (Ev.or (.t rfl) ⟨_, _, rfl, rfl, by first | (simp; done) | (intro hg_ hp_; simp [hp_]; done) | (simp <;> omega; done) | (simp_all; done) | grind⟩) rfl ?_
  refine W.nil ?_
  refine W.then ?_
  refine W.cond (.t rfl) (fun hc_t19 => ?_) (fun hc_t19 => ?_)
  · have hq : nameOk s = false := by have h := hc_t19; rw [show Int.toNat 0 = 0 from rfl] at h; simp only [nameOk, h, Bool.not_true, Bool.false_and]
    refine W.seq ?_
    refine W.region ?_
    refine W.q (Ev.assign .k) rfl ?_
    refine W.nil ?_
    refine W.then ?_
    refine W.ret ?_
    refine W.then_ret ?_
    refine W.retn (M' := []) (rs := [.tmp 2]) (avs := [_]) Tryd.results39 ⟨rfl, trivial⟩ rfl (.refl _) ?_
    first | exact ⟨congrArg AV.bool hq.symm, rfl⟩ | exact ⟨congrArg AV.bool (by have h := hc_t19; rw [show Int.toNat 0 = 0 from rfl] at h; simp only [nameOk, h, Bool.not_false, Bool.true_and]), rfl⟩
  · refine W.skip ?_
    refine W.then ?_
    refine W.seq ?_
    refine W.region ?_
    refine W.q (Ev.move (.t rfl)) rfl ?_
    refine W.call (c_ContainsFunc s hs 62 [] [] (fun r => !(nameCh r)) (fun r => c_Name1 r)) ⟨(.t rfl), .f, trivial⟩ (.refl _) rfl ?_
    rintro _ _ ⟨rfl, rfl⟩
    refine W.q (Ev.not (.t rfl)) rfl ?_
    refine W.q (Ev.assign (.t rfl)) rfl ?_
    refine W.nil ?_
    refine W.then ?_
    refine W.ret ?_
    refine W.retn (M' := []) (rs := [.tmp 2]) (avs := [_]) Tryd.results39 ⟨rfl, trivial⟩ rfl (.refl _) ?_
    first | exact ⟨congrArg AV.bool hq.symm, rfl⟩ | exact ⟨congrArg AV.bool (by have h := hc_t19; rw [show Int.toNat 0 = 0 from rfl] at h; simp only [nameOk, h, Bool.not_false, Bool.true_and]), rfl⟩

end WName

end Go.Proofs.YtlglnmafddnmmaaDoor
end

section
set_option linter.unusedVariables false
set_option linter.unusedSimpArgs false
set_option maxRecDepth 100000
namespace Go.Proofs.YtlglnmafddnmmaaDoor
open Go.Vl

namespace WMCheck
theorem ty9 : Ty Tryd.prog 9 1 16 (.string ⟨#[]⟩) := Ty.of (by kernel_rfl)
theorem ty23 : Ty Tryd.prog 23 1 24 (.slice none 0 0) := Ty.of (by kernel_rfl)
theorem ag9 : IsAgg Tryd.prog 9 false := ⟨_, Tryd.underlying9, rfl⟩
theorem ag23 : IsAgg Tryd.prog 23 false := ⟨_, Tryd.underlying23, rfl⟩
theorem c_Check1 (m : List UInt8) (hm : m.length ≤ 1000) (b : Nat) : FnC Tryd.prog 59 [.str m, .lit (.pointer (some ⟨b, 0, none⟩))] [.box b 23 [.sl 1 (Mrk.odd.map AV.str)]] (fun x M => x = .bool (Mrk.badM m) ∧ M = [.box b 23 [.sl 1 (Mrk.odd.map AV.str)]]) :=  by
  refine FnC.mk Tryd.func59 (by kernel_rfl) rfl Tryd.ntmps59 rfl (fun w0 F => ?_)
  refine W.seq ?_
  refine W.region ?_
  refine W.q (Ev.assign .k) rfl ?_
  refine W.nil ?_
  refine W.then ?_
  refine W.seq ?_
  refine W.region ?_
  refine W.q (Ev.move (.t rfl)) rfl ?_
  refine W.callp (WName.c_Name m (by omega)) ⟨(.t rfl), trivial⟩ rfl ?_
  refine W.q (Ev.not (.t rfl)) rfl ?_
  refine W.q (Ev.move (.t rfl)) rfl ?_
  first | refine W.qgF rfl rfl (Ev.lde1 (.t rfl) ag23) rfl ?_ | refine W.qgF rfl rfl (Ev.ldb1 0 (.t rfl) rfl ag23 rfl) rfl ?_ | refine W.qgF rfl rfl (Ev.ldb1 1 (.t rfl) rfl ag23 rfl) rfl ?_ | refine W.qgF rfl rfl (Ev.ldb1 2 (.t rfl) rfl ag23 rfl) rfl ?_ | refine W.qgF rfl rfl (Ev.ldb1 3 (.t rfl) rfl ag23 rfl) rfl ?_
  refine W.qgF rfl rfl (Ev.move (.t rfl)) rfl ?_
  refine W.callgF (Min := []) (caps := []) (avs := [_, _]) rfl rfl (fun hg => WLib.c_Contains Mrk.odd m (by decide)) (fun hg => .f) (fun hg => ⟨(.i rfl (fun _ => hg)), (.i rfl (fun _ => hg)), trivial⟩) rfl (.refl _) rfl ?_
  refine W.q (Ev.or (.t rfl) ⟨_, _, rfl, rfl, by first | (simp; done) | (intro hg_ hp_; simp [hp_]; done) | (simp <;> omega; done) | (simp_all; done) | grind⟩) rfl ?_
  refine W.q (Ev.assign (.t rfl)) rfl ?_
  refine W.nil ?_
  refine W.then ?_
  refine W.ret ?_
  refine W.retn (M' := [.box b 23 _]) (D := []) (rs := [.tmp 3]) (avs := [_]) Tryd.results59 ⟨rfl, trivial⟩ rfl (.refl _) ?_
  exact ⟨rfl, rfl⟩

theorem c_Check (ms : List (List UInt8)) (hg : Mrk.good ms) (M0 : List ME) (hF : FnC Tryd.prog 58 [.str Mrk.oddT] M0 (fun r M => r = .sl 1 (Mrk.odd.map AV.str) ∧ M = M0)) : FnC Tryd.prog 37 [.sl 1 (ms.map AV.str)] M0 (fun r M => r = .int 0 ∧ M = M0) :=  by
  refine FnC.mk Tryd.func37 (by kernel_rfl) rfl Tryd.ntmps37 rfl (fun w0 F => ?_)
  have hml : (ms.map AV.str).length = ms.length := List.length_map ..
  have hlen := hg.len
  refine W.seq ?_
  refine W.region ?_
  refine W.q (Ev.assign .k) rfl ?_
  refine W.nil ?_
  refine W.then ?_
  refine W.seq ?_
  refine W.seq ?_
  refine W.region ?_
  refine W.q (Ev.move (.t rfl)) rfl ?_
  first | refine W.q (Ev.lensl (.t rfl) Tryd.underlying23) rfl ?_ | refine W.q (Ev.lenar (i := 0) (.t rfl) rfl Tryd.underlying23) rfl ?_ | refine W.q (Ev.lenar (i := 1) (.t rfl) rfl Tryd.underlying23) rfl ?_ | refine W.q (Ev.lenar (i := 2) (.t rfl) rfl Tryd.underlying23) rfl ?_ | refine W.q (Ev.lenar (i := 3) (.t rfl) rfl Tryd.underlying23) rfl ?_
  refine W.q (Ev.gti (.t rfl) .k) rfl ?_
  refine W.nil ?_
  refine W.then ?_
  refine W.is (t := 8) (g := true) (av' := .lit (.bool false)) rfl (congrArg (fun b => AV.lit (.bool b)) (by exact decide_eq_false (by omega))) ?_
  refine W.condF (.t rfl) ?_
  refine W.skip ?_
  refine W.then ?_
  refine W.seq ?_
  refine W.region ?_
  refine W.call (hF) ⟨.k, trivial⟩ ((List.Perm.of_eq (List.append_nil M0).symm)) rfl ?_
  rintro _ M' ⟨rfl, hM'⟩
  rw [hM', List.append_nil]
  refine W.alloc ty23 rfl rfl ?_
  intro b3
  first | refine W.stb 0 (.t rfl) (.t rfl) rfl ty23 rfl rfl rfl ?_ | refine W.stb 1 (.t rfl) (.t rfl) rfl ty23 rfl rfl rfl ?_ | refine W.stb 2 (.t rfl) (.t rfl) rfl ty23 rfl rfl rfl ?_ | refine W.stb 3 (.t rfl) (.t rfl) rfl ty23 rfl rfl rfl ?_
  refine W.nil ?_
  refine W.then ?_
  refine W.seq ?_
  refine W.seq ?_
  refine W.region ?_
  refine W.q (Ev.move (.t rfl)) rfl ?_
  refine W.q (Ev.mkfn (caps := [.tmp 3]) (vs := [_]) ⟨(.t rfl), trivial⟩) rfl ?_
  refine W.call (WMrkL.c_ContainsFuncS ms 59 [.pointer (some ⟨b3, 0, none⟩)] [.box b3 23 [.sl 1 (Mrk.odd.map AV.str)]] Mrk.badM (fun m hm => c_Check1 m (hg.short m hm) b3) (by omega)) ⟨(.t rfl), (.t rfl), trivial⟩ (.refl _) rfl ?_
  rintro _ _ ⟨rfl, rfl⟩
  refine W.nil ?_
  refine W.then ?_
  refine W.is (t := 12) (g := true) (av' := .lit (.bool false)) rfl (congrArg (fun b => AV.lit (.bool b)) (by exact hg.names)) ?_
  refine W.condF (.t rfl) ?_
  refine W.skip ?_
  refine W.then ?_
  refine W.seq ?_
  refine W.seq ?_
  refine W.region ?_
  refine W.q (Ev.move (.t rfl)) rfl ?_
  first | refine W.q (Ev.lensl (.t rfl) Tryd.underlying23) rfl ?_ | refine W.q (Ev.lenar (i := 0) (.t rfl) rfl Tryd.underlying23) rfl ?_ | refine W.q (Ev.lenar (i := 1) (.t rfl) rfl Tryd.underlying23) rfl ?_ | refine W.q (Ev.lenar (i := 2) (.t rfl) rfl Tryd.underlying23) rfl ?_ | refine W.q (Ev.lenar (i := 3) (.t rfl) rfl Tryd.underlying23) rfl ?_
  refine W.q (Ev.move .k) rfl ?_
  refine W.nil ?_
  refine W.then ?_
  refine W.block ?_
  refine W.loop (D := []) (ι := Nat) (fun i => [(15, true, .int (i : Int)), (14, true, .int ((ms.map AV.str).length : Int)), (13, true, .sl 1 (ms.map AV.str)), (0, true, .sl 1 (ms.map AV.str))]) (fun _ => .box b3 23 [.sl 1 (Mrk.odd.map AV.str)] :: M0) (fun i => i ≤ ms.length) (fun i => ms.length - i) 0 ⟨rfl, rfl, rfl, rfl, trivial⟩ (List.Perm.of_eq (List.append_nil _).symm) (Nat.zero_le _) ?_
  intro i hi
  dsimp only at hi ⊢
  rcases (show i < ms.length ∨ i = ms.length from by omega) with hlt | hend
  · have hga := getD_mapG AV.str [] ms i hlt
    have h1 := hg.one i hlt
    generalize ms.getD i [] = m at hga h1
    refine W.seq ?_
    refine W.region ?_
    refine W.q (Ev.lti (.t rfl) (.t rfl)) rfl ?_
    refine W.nil ?_
    refine W.then ?_
    refine W.seq ?_
    refine W.is (t := 16) (g := true) (av' := .lit (.bool true)) rfl (congrArg (fun b => AV.lit (.bool b)) (by exact decide_eq_true (by omega))) ?_
    refine W.condT (.t rfl) ?_
    refine W.skip ?_
    refine W.then ?_
    refine W.seq ?_
    refine W.block ?_
    refine W.seq ?_
    refine W.region ?_
    refine W.q (Ev.move (.t rfl)) rfl ?_
    refine W.q (Ev.at (E := 9) (.t rfl) (.t rfl) Tryd.underlying23 ty9 (fun _ => ⟨by omega, hga⟩) rfl rfl) rfl ?_
    first | refine W.q (Ev.lde1 (.t rfl) ag9) rfl ?_ | refine W.q (Ev.ldb1 0 (.t rfl) rfl ag9 rfl) rfl ?_ | refine W.q (Ev.ldb1 1 (.t rfl) rfl ag9 rfl) rfl ?_ | refine W.q (Ev.ldb1 2 (.t rfl) rfl ag9 rfl) rfl ?_ | refine W.q (Ev.ldb1 3 (.t rfl) rfl ag9 rfl) rfl ?_
    refine W.q (Ev.assign (.t rfl)) rfl ?_
    refine W.q (Ev.assign (.t rfl)) rfl ?_
    refine W.nil ?_
    refine W.then ?_
    refine W.seq ?_
    refine W.region ?_
    refine W.q (Ev.move (.t rfl)) rfl ?_
    refine W.q (Ev.move (.t rfl)) rfl ?_
    refine W.q (Ev.takesl (n := i) (.t rfl) Tryd.underlying23 ty9 (.t rfl) rfl (fun _ => by omega)) rfl ?_
    refine W.q (Ev.move (.t rfl)) rfl ?_
    refine W.callp (WLib.c_Contains (ms.take i) m (by rw [List.length_take]; omega)) ⟨(.t rfl), (.t rfl), trivial⟩ rfl ?_
    refine W.nil ?_
    refine W.then ?_
    refine W.is (t := 24) (g := true) (av' := .lit (.bool false)) rfl (congrArg (fun b => AV.lit (.bool b)) (by exact h1)) ?_
    refine W.condF (.t rfl) ?_
    refine W.skip ?_
    refine W.blk_normal ?_
    refine W.then ?_
    refine W.region ?_
    first | refine W.q (Ev.add (.t rfl) .k (fun _ => by omega)) rfl ?_ | refine W.q (Ev.addw (.t rfl) .k) rfl ?_
    refine W.q (Ev.move (.t rfl)) rfl ?_
    refine W.nil ?_
    refine W.then ?_
    refine W.reach (D := []) (i + 1) ⟨rfl, rfl, rfl, rfl, trivial⟩ (List.Perm.of_eq (List.append_nil _).symm) ⟨by show i + 1 ≤ _; omega, by show _ - (i + 1) < _; omega⟩
  · skip
    refine W.seq ?_
    refine W.region ?_
    refine W.q (Ev.lti (.t rfl) (.t rfl)) rfl ?_
    refine W.nil ?_
    refine W.then ?_
    refine W.seq ?_
    refine W.is (t := 16) (g := true) (av' := .lit (.bool false)) rfl (congrArg (fun b => AV.lit (.bool b)) (by exact decide_eq_false (by omega))) ?_
    refine W.condF (.t rfl) ?_
    refine W.exit ?_
    refine W.then_exit ?_
    refine W.then_exit ?_
    refine W.blk_hit ?_
    refine W.then ?_
    refine W.seq ?_
    refine W.region ?_
    refine W.q (Ev.assign .k) rfl ?_
    refine W.nil ?_
    refine W.then ?_
    refine W.ret ?_
    refine W.retn (M' := M0) (D := [_]) (rs := [.tmp 2]) (avs := [_]) Tryd.results37 ⟨rfl, trivial⟩ rfl (List.perm_append_comm (l₁ := [_])) ?_
    exact ⟨rfl, rfl⟩

theorem c_fault (ms : List (List UInt8)) (hg : Mrk.good ms) (l : List Rn) (hl : l.length ≤ 60) (M0 : List ME) (hF : FnC Tryd.prog 58 [.str Mrk.oddT] M0 (fun r M => r = .sl 1 (Mrk.odd.map AV.str) ∧ M = M0)) : FnC Tryd.prog 35 [.sl 1 (ms.map AV.str), .sl 2 (l.map rnav)] M0 (fun r M => r = .int 0 ∧ M = M0) :=  by
  refine FnC.mk Tryd.func35 (by kernel_rfl) rfl Tryd.ntmps35 rfl (fun w0 F => ?_)
  have hll : (l.map rnav).length = l.length := List.length_map ..
  refine W.seq ?_
  refine W.region ?_
  refine W.q (Ev.assign .k) rfl ?_
  refine W.nil ?_
  refine W.then ?_
  refine W.seq ?_
  refine W.seq ?_
  refine W.region ?_
  refine W.q (Ev.move (.t rfl)) rfl ?_
  refine W.call (c_Check ms hg M0 hF) ⟨(.t rfl), trivial⟩ ((List.Perm.of_eq (List.append_nil M0).symm)) rfl ?_
  rintro _ M' ⟨rfl, hM'⟩
  rw [hM', List.append_nil]
  refine W.q (Ev.assign (.t rfl)) rfl ?_
  refine W.nil ?_
  refine W.then ?_
  refine W.seq ?_
  refine W.region ?_
  refine W.q (Ev.move (.t rfl)) rfl ?_
  refine W.q (Ev.nei (.t rfl) .k) rfl ?_
  refine W.nil ?_
  refine W.then ?_
  refine W.is (t := 9) (g := true) (av' := .lit (.bool false)) rfl (congrArg (fun b => AV.lit (.bool b)) (by rfl)) ?_
  refine W.condF (.t rfl) ?_
  refine W.skip ?_
  refine W.then ?_
  refine W.seq ?_
  refine W.seq ?_
  refine W.region ?_
  refine W.q (Ev.move (.t rfl)) rfl ?_
  first | refine W.q (Ev.lensl (.t rfl) Tryd.underlying29) rfl ?_ | refine W.q (Ev.lenar (i := 0) (.t rfl) rfl Tryd.underlying29) rfl ?_ | refine W.q (Ev.lenar (i := 1) (.t rfl) rfl Tryd.underlying29) rfl ?_ | refine W.q (Ev.lenar (i := 2) (.t rfl) rfl Tryd.underlying29) rfl ?_ | refine W.q (Ev.lenar (i := 3) (.t rfl) rfl Tryd.underlying29) rfl ?_
  refine W.q (Ev.gti (.t rfl) .k) rfl ?_
  refine W.nil ?_
  refine W.then ?_
  refine W.is (t := 13) (g := true) (av' := .lit (.bool false)) rfl (congrArg (fun b => AV.lit (.bool b)) (by exact decide_eq_false (by omega))) ?_
  refine W.condF (.t rfl) ?_
  refine W.skip ?_
  refine W.then ?_
  refine W.seq ?_
  refine W.region ?_
  refine W.q (Ev.assign .k) rfl ?_
  refine W.nil ?_
  refine W.then ?_
  refine W.ret ?_
  refine W.retn (M' := M0) (D := []) (rs := [.tmp 4]) (avs := [_]) Tryd.results35 ⟨rfl, trivial⟩ rfl (List.Perm.of_eq (List.append_nil M0).symm) ?_
  exact ⟨rfl, rfl⟩

end WMCheck

end Go.Proofs.YtlglnmafddnmmaaDoor
end
