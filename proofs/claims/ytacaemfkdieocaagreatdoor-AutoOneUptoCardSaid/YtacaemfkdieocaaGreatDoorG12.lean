/-
  Merged: WRun WLet WReads WDrawX LawT WStep WPairs WFinal.
-/
import Derived.Test.YtacaemfkdieocaaGreatDoorG11
import Derived.Lib.LaidTab

section
set_option linter.unusedVariables false
set_option linter.unusedSimpArgs false
set_option maxRecDepth 100000
namespace Go.Proofs.YtacaemfkdieocaaGreatDoor
open Go.Vl

namespace WRun
theorem ty3 : Ty Tryz.prog 3 1 8 (.int .i64 0) := Ty.of (by kernel_rfl)
theorem ty22 : Ty Tryz.prog 22 1 24 (.slice none 0 0) := Ty.of (by kernel_rfl)
theorem ty25 : Ty Tryz.prog 25 1 24 (.slice none 0 0) := Ty.of (by kernel_rfl)
theorem ty28 : Ty Tryz.prog 28 2 48 (.agg #[.slice none 0 0, .slice none 0 0]) := Ty.of (by kernel_rfl)
theorem ag3 : IsAgg Tryz.prog 3 false := ⟨_, Tryz.underlying3, rfl⟩
theorem ag22 : IsAgg Tryz.prog 22 false := ⟨_, Tryz.underlying22, rfl⟩
theorem ag25 : IsAgg Tryz.prog 25 false := ⟨_, Tryz.underlying25, rfl⟩
theorem ag28 : IsAgg Tryz.prog 28 true := ⟨_, Tryz.underlying28, rfl⟩
theorem fa28_0 : FieldAt Tryz.prog 28 0 0 1 false := ⟨_, _, Tryz.underlying28, rfl, rfl, ty25.size, ag25, by decide⟩
theorem c_Run1 (n : Int) : FnP Tryz.prog 37 ([.int n] ++ ([] : List Value).map .lit) (.bool (decide (n < 0) || decide (8 ≤ n))) :=  by
  refine FnC.mk Tryz.func37 (by kernel_rfl) rfl Tryz.ntmps37 rfl (fun w0 F => ?_)
  refine W.seq ?_
  refine W.region ?_
  refine W.q (Ev.assign .k) rfl ?_
  refine W.nil ?_
  refine W.then ?_
  refine W.seq ?_
  refine W.region ?_
  refine W.q (Ev.move (.t rfl)) rfl ?_
  refine W.q (Ev.lti (.t rfl) .k) rfl ?_
  refine W.q (Ev.move (.t rfl)) rfl ?_
  refine W.qgF rfl rfl (Ev.move (.t rfl)) rfl ?_
  refine W.qgF rfl rfl (Ev.gei (.c rfl) .k) rfl ?_
  refine W.q (Ev.or (.t rfl) ⟨_, _, rfl, rfl, by ((simp; done))⟩) rfl ?_
  refine W.q (Ev.assign (.t rfl)) rfl ?_
  refine W.nil ?_
  refine W.then ?_
  refine W.ret ?_
  refine W.retn (M' := []) (rs := [.tmp 2]) (avs := [_]) Tryz.results37 ⟨rfl, trivial⟩ rfl (.refl _) ?_
  exact ⟨rfl, rfl⟩

theorem c_Run (a : Au) (hs : a.Shape) (hn : a.next.length ≤ 40) (w : List Int) (hw : w.length ≤ 40) (hwr : ∀ c ∈ w, 0 ≤ c ∧ c < 8) : FnP Tryz.prog 24 [.agg [.sl 1 (a.next.map pav), .sl 1 (a.final.map AV.bool)], .sl 1 (w.map AV.int)] (.tup [.int (a.run 0 w), .int 0]) :=  by
  refine FnC.mk Tryz.func24 (by kernel_rfl) rfl Tryz.ntmps24 rfl (fun w0 F => ?_)
  have hwl : (w.map AV.int).length = w.length := List.length_map ..
  have hpos := hs.pos
  have hnl : (a.next.map pav).length = a.next.length := List.length_map ..
  have hany : (w.any fun n => decide (n < 0) || decide (8 ≤ n)) = false := by rw [List.any_eq_false]; intro c hc; have := hwr c hc; simp; omega
  refine W.seq ?_
  refine W.region ?_
  refine W.box (.t rfl) rfl rfl ?_
  intro b2
  refine W.q (Ev.assign .k) rfl ?_
  refine W.q (Ev.assign .k) rfl ?_
  refine W.nil ?_
  refine W.then ?_
  refine W.seq ?_
  refine W.block ?_
  refine W.seq ?_
  refine W.region ?_
  (refine W.q (Ev.ldbn 0 (.t rfl) rfl ag28 ty28 rfl) rfl ?_)
  refine W.callp (WMay.c_May a hs hn) ⟨(.t rfl), trivial⟩ rfl ?_
  refine W.q (Ev.not (.t rfl)) rfl ?_
  refine W.q (Ev.assign (.t rfl)) rfl ?_
  refine W.nil ?_
  refine W.then ?_
  refine W.is (t := 9) (g := true) (av' := .lit (.bool false)) rfl (congrArg (fun b => AV.lit (.bool b)) (by rfl)) ?_
  refine W.condF (.t rfl) ?_
  refine W.seq ?_
  refine W.region ?_
  refine W.q (Ev.move (.t rfl)) rfl ?_
  (refine W.q (Ev.lensl (.t rfl) Tryz.underlying22) rfl ?_)
  refine W.q (Ev.gti (.t rfl) .k) rfl ?_
  refine W.q (Ev.assign (.t rfl)) rfl ?_
  refine W.nil ?_
  refine W.then ?_
  refine W.is (t := 13) (g := true) (av' := .lit (.bool false)) rfl (congrArg (fun b => AV.lit (.bool b)) (by simp; omega)) ?_
  refine W.condF (.t rfl) ?_
  refine W.seq ?_
  refine W.region ?_
  refine W.q (Ev.move (.t rfl)) rfl ?_
  refine W.call (WConts.c_ContainsFuncI w 37 [] [] (fun n => decide (n < 0) || decide (8 ≤ n)) (fun d _ => c_Run1 d) (by omega)) ⟨(.t rfl), .f, trivial⟩ (.refl _) rfl ?_
  rintro _ _ ⟨rfl, rfl⟩
  refine W.q (Ev.assign (.t rfl)) rfl ?_
  refine W.nil ?_
  refine W.then ?_
  refine W.is (t := 17) (g := true) (av' := .lit (.bool false)) rfl (congrArg (fun b => AV.lit (.bool b)) (by exact hany)) ?_
  refine W.condF (.t rfl) ?_
  refine W.skip ?_
  refine W.blk_normal ?_
  refine W.then ?_
  refine W.seq ?_
  refine W.region ?_
  refine W.q (Ev.assign .k) rfl ?_
  refine W.nil ?_
  refine W.then ?_
  refine W.seq ?_
  refine W.seq ?_
  refine W.region ?_
  refine W.q (Ev.move (.t rfl)) rfl ?_
  (refine W.q (Ev.lensl (.t rfl) Tryz.underlying22) rfl ?_)
  refine W.q (Ev.move .k) rfl ?_
  refine W.nil ?_
  refine W.then ?_
  refine W.block ?_
  refine W.loop (D := []) (ι := Nat) (fun i => [(22, true, .int (i : Int)), (21, true, .int ((w.map AV.int).length : Int)), (20, true, .sl 1 (w.map AV.int)), (6, true, .int (a.run 0 (w.take i))), (2, true, .lit (.pointer (some ⟨b2, 0, none⟩)))]) (fun _ => [.box b2 28 [.sl 1 (a.next.map pav), .sl 1 (a.final.map AV.bool)]]) (fun i => i ≤ w.length) (fun i => w.length - i) 0 ⟨rfl, rfl, rfl, rfl, rfl, trivial⟩ (.refl _) (Nat.zero_le _) ?_
  intro i hi
  dsimp only at hi ⊢
  rcases (show i < w.length ∨ i = w.length from by omega) with hlt | hend
  · have hgc := getD_map w i hlt
    have hc := hwr _ (getD_memG 0 w i hlt)
    have hrr := Au.run_range hs (w.take i) 0 (by decide) (by omega) fun y hy => hwr y (List.mem_of_mem_take hy)
    have hst : a.run 0 (w.take (i + 1)) = if 0 ≤ a.run 0 (w.take i) then a.to (a.run 0 (w.take i)) (w.getD i 0) else a.run 0 (w.take i) := by rw [take_getDG 0 w i hlt, Au.run_snoc]
    generalize w.getD i 0 = c0 at hgc hc hst
    generalize a.run 0 (w.take i) = r at hrr hst
    refine W.seq ?_
    refine W.region ?_
    refine W.q (Ev.lti (.t rfl) (.t rfl)) rfl ?_
    refine W.nil ?_
    refine W.then ?_
    refine W.seq ?_
    refine W.is (t := 23) (g := true) (av' := .lit (.bool true)) rfl (congrArg (fun b => AV.lit (.bool b)) (by simp; omega)) ?_
    refine W.condT (.t rfl) ?_
    refine W.skip ?_
    refine W.then ?_
    refine W.seq ?_
    refine W.block ?_
    refine W.seq ?_
    refine W.region ?_
    refine W.q (Ev.at (E := 3) (.t rfl) (.t rfl) Tryz.underlying22 ty3 (fun _ => ⟨by omega, hgc⟩) rfl rfl) rfl ?_
    (refine W.q (Ev.lde1 (.t rfl) ag3) rfl ?_)
    refine W.q (Ev.assign (.t rfl)) rfl ?_
    refine W.nil ?_
    refine W.then ?_
    refine W.seq ?_
    refine W.region ?_
    refine W.q (Ev.move (.t rfl)) rfl ?_
    refine W.q (Ev.gei (.t rfl) .k) rfl ?_
    refine W.nil ?_
    refine W.then ?_
    refine W.cond (.t rfl) (fun hc_t27 => ?_) (fun hc_t27 => ?_)
    · have h27 := of_decide_eq_true hc_t27
      have hgr := getD_mapG pav [] a.next r.toNat (by omega)
      have hrw := hs.row r.toNat (by omega)
      have hgx := getD_map (a.next.getD r.toNat []) c0.toNat (by omega)
      have hto := Au.to_get a r c0 (by omega)
      rw [if_pos h27, ← hto] at hst
      refine W.region ?_
      (refine W.q (Ev.fab (.t rfl) fa28_0) rfl ?_)
      (refine W.q (Ev.ldb1 0 (.t rfl) rfl ag25 rfl) rfl ?_)
      refine W.q (Ev.move (.t rfl)) rfl ?_
      refine W.q (Ev.at (E := 22) (.t rfl) (.t rfl) Tryz.underlying25 ty22 (fun _ => ⟨by omega, hgr⟩) rfl rfl) rfl ?_
      (refine W.q (Ev.lde1 (.t rfl) ag22) rfl ?_)
      refine W.q (Ev.move (.t rfl)) rfl ?_
      refine W.q (Ev.at (E := 3) (.t rfl) (.t rfl) Tryz.underlying22 ty3 (fun _ => ⟨by omega, hgx⟩) rfl rfl) rfl ?_
      (refine W.q (Ev.lde1 (.t rfl) ag3) rfl ?_)
      refine W.q (Ev.assign (.t rfl)) rfl ?_
      refine W.nil ?_
      refine W.blk_normal ?_
      refine W.then ?_
      refine W.region ?_
      (refine W.q (Ev.add (.t rfl) .k (fun _ => by omega)) rfl ?_)
      refine W.q (Ev.move (.t rfl)) rfl ?_
      refine W.nil ?_
      refine W.then ?_
      refine W.is (t := 6) (g := true) (av' := .int (a.run 0 (w.take (i + 1)))) rfl (congrArg AV.int hst.symm) ?_
      refine W.reach (D := []) (i + 1) ⟨rfl, rfl, rfl, rfl, rfl, trivial⟩ (.refl _) ⟨by show i + 1 ≤ _; omega, by show _ - (i + 1) < _; omega⟩
    · have h27 := of_decide_eq_false hc_t27
      rw [if_neg h27] at hst
      refine W.skip ?_
      refine W.blk_normal ?_
      refine W.then ?_
      refine W.region ?_
      (refine W.q (Ev.add (.t rfl) .k (fun _ => by omega)) rfl ?_)
      refine W.q (Ev.move (.t rfl)) rfl ?_
      refine W.nil ?_
      refine W.then ?_
      refine W.is (t := 6) (g := true) (av' := .int (a.run 0 (w.take (i + 1)))) rfl (congrArg AV.int hst.symm) ?_
      refine W.reach (D := []) (i + 1) ⟨rfl, rfl, rfl, rfl, rfl, trivial⟩ (.refl _) ⟨by show i + 1 ≤ _; omega, by show _ - (i + 1) < _; omega⟩
  · subst hend
    rw [List.take_length]
    refine W.seq ?_
    refine W.region ?_
    refine W.q (Ev.lti (.t rfl) (.t rfl)) rfl ?_
    refine W.nil ?_
    refine W.then ?_
    refine W.seq ?_
    refine W.is (t := 23) (g := true) (av' := .lit (.bool false)) rfl (congrArg (fun b => AV.lit (.bool b)) (by simp)) ?_
    refine W.condF (.t rfl) ?_
    refine W.exit ?_
    refine W.then_exit ?_
    refine W.then_exit ?_
    refine W.blk_hit ?_
    refine W.then ?_
    refine W.seq ?_
    refine W.region ?_
    refine W.q (Ev.move (.t rfl)) rfl ?_
    refine W.q (Ev.assign (.t rfl)) rfl ?_
    refine W.q (Ev.assign .k) rfl ?_
    refine W.nil ?_
    refine W.then ?_
    refine W.ret ?_
    refine W.retn (M' := []) (D := _) (rs := [.tmp 4, .tmp 5]) (avs := [_, _]) Tryz.results24 ⟨rfl, rfl, trivial⟩ rfl (.refl _) ?_
    exact ⟨rfl, rfl⟩

end WRun

end Go.Proofs.YtacaemfkdieocaaGreatDoor
end

section
set_option linter.unusedVariables false
set_option linter.unusedSimpArgs false
set_option maxRecDepth 100000
namespace Go.Proofs.YtacaemfkdieocaaGreatDoor
open Go.Vl

namespace WLet
theorem ty3 : Ty Tryz.prog 3 1 8 (.int .i64 0) := Ty.of (by kernel_rfl)
theorem ag3 : IsAgg Tryz.prog 3 false := ⟨_, Tryz.underlying3, rfl⟩
theorem c_sameInts (a b : List Int) (ha : a.length ≤ 1099511627776) : FnP Tryz.prog 22 [.sl 1 (a.map AV.int), .sl 1 (b.map AV.int)] (.bool (decide (a = b))) :=  by
  refine FnC.mk Tryz.func22 (by kernel_rfl) rfl Tryz.ntmps22 rfl (fun w0 F => ?_)
  have hla : (a.map AV.int).length = a.length := List.length_map ..
  have hlb : (b.map AV.int).length = b.length := List.length_map ..
  refine W.seq ?_
  refine W.region ?_
  refine W.q (Ev.assign .k) rfl ?_
  refine W.nil ?_
  refine W.then ?_
  refine W.seq ?_
  refine W.seq ?_
  refine W.region ?_
  refine W.q (Ev.move (.t rfl)) rfl ?_
  (refine W.q (Ev.lensl (.t rfl) Tryz.underlying22) rfl ?_)
  refine W.q (Ev.move (.t rfl)) rfl ?_
  (refine W.q (Ev.lensl (.t rfl) Tryz.underlying22) rfl ?_)
  refine W.q (Ev.nei (.t rfl) (.t rfl)) rfl ?_
  refine W.nil ?_
  refine W.then ?_
  refine W.cond (.t rfl) (fun hc_t10 => ?_) (fun hc_t10 => ?_)
  · have hne : a ≠ b := by rintro rfl; simp at hc_t10
    refine W.seq ?_
    refine W.region ?_
    refine W.q (Ev.assign .k) rfl ?_
    refine W.nil ?_
    refine W.then ?_
    refine W.ret ?_
    refine W.then_ret ?_
    refine W.retn (M' := []) (rs := [.tmp 4]) (avs := [_]) Tryz.results22 ⟨rfl, trivial⟩ rfl (.refl _) ?_
    (exact ⟨congrArg AV.bool (decide_eq_false hne).symm, rfl⟩)
  · have hlen : a.length = b.length := by simp at hc_t10; omega
    refine W.skip ?_
    refine W.then ?_
    refine W.seq ?_
    refine W.seq ?_
    refine W.region ?_
    refine W.q (Ev.assign .k) rfl ?_
    refine W.nil ?_
    refine W.then ?_
    refine W.block ?_
    refine W.loop (D := []) (ι := Nat) (fun i => [(5, true, .int (i : Int)), (0, true, .sl 1 (a.map AV.int)), (1, true, .sl 1 (b.map AV.int))]) (fun _ => []) (fun i => i ≤ a.length ∧ ∀ j, j < i → a[j]? = b[j]?) (fun i => a.length - i) 0 ⟨rfl, rfl, rfl, trivial⟩ (.refl _) ⟨Nat.zero_le _, by intro j hj; omega⟩ ?_
    rintro i ⟨hi1, hi2⟩
    dsimp only at hi1 hi2 ⊢
    refine W.seq ?_
    refine W.seq ?_
    refine W.region ?_
    refine W.q (Ev.move (.t rfl)) rfl ?_
    refine W.q (Ev.move (.t rfl)) rfl ?_
    (refine W.q (Ev.lensl (.t rfl) Tryz.underlying22) rfl ?_)
    refine W.q (Ev.lti (.t rfl) (.t rfl)) rfl ?_
    refine W.nil ?_
    refine W.then ?_
    refine W.cond (.t rfl) (fun hc_t14 => ?_) (fun hc_t14 => ?_)
    · have hlt : i < a.length := by simp at hc_t14; omega
      refine W.skip ?_
      refine W.then ?_
      refine W.seq ?_
      refine W.block ?_
      refine W.seq ?_
      refine W.drawn (by kernel_rfl) (by kernel_rfl) ?_
      have hga : (a.map AV.int)[i]? = some (AV.int a[i]) := by rw [List.getElem?_map, List.getElem?_eq_getElem hlt]; rfl
      have hgb : (b.map AV.int)[i]? = some (AV.int (b[i]'(by omega))) := by rw [List.getElem?_map, List.getElem?_eq_getElem (by omega)]; rfl
      refine DP.q (Ev.move (.t rfl)) rfl ?_
      refine DP.q (Ev.move (.t rfl)) rfl ?_
      refine DP.q (Ev.at (E := 3) (.t rfl) (.t rfl) Tryz.underlying22 ty3 (fun _ => ⟨by omega, hga⟩) rfl rfl) rfl ?_
      (refine DP.q (Ev.lde1 (.t rfl) ag3) rfl ?_)
      refine DP.q (Ev.move (.t rfl)) rfl ?_
      refine DP.q (Ev.move (.t rfl)) rfl ?_
      refine DP.q (Ev.at (E := 3) (.t rfl) (.t rfl) Tryz.underlying22 ty3 (fun _ => ⟨by omega, hgb⟩) rfl rfl) rfl ?_
      (refine DP.q (Ev.lde1 (.t rfl) ag3) rfl ?_)
      refine DP.q (Ev.nei (.t rfl) (.t rfl)) rfl ?_
      refine DP.nil ?_
      refine W.then ?_
      refine W.cond (.t rfl) (fun hc_t25 => ?_) (fun hc_t25 => ?_)
      · have hne : a ≠ b := by rintro rfl; simp at hc_t25
        refine W.seq ?_
        refine W.region ?_
        refine W.q (Ev.assign .k) rfl ?_
        refine W.nil ?_
        refine W.then ?_
        refine W.ret ?_
        refine W.blk_ret ?_
        refine W.then_ret ?_
        refine W.then_ret ?_
        refine W.blk_ret ?_
        refine W.then_ret ?_
        refine W.retn (M' := []) (rs := [.tmp 4]) (avs := [_]) Tryz.results22 ⟨rfl, trivial⟩ rfl (.refl _) ?_
        (exact ⟨congrArg AV.bool (decide_eq_false hne).symm, rfl⟩)
      · have hsame : a[i]? = b[i]? := by simp at hc_t25; rw [List.getElem?_eq_getElem hlt, List.getElem?_eq_getElem (by omega), hc_t25]
        refine W.skip ?_
        refine W.blk_normal ?_
        refine W.then ?_
        refine W.region ?_
        refine W.q (Ev.move (.t rfl)) rfl ?_
        (refine W.q (Ev.add (.t rfl) .k (fun _ => by omega)) rfl ?_)
        refine W.q (Ev.assign (.t rfl)) rfl ?_
        refine W.nil ?_
        refine W.then ?_
        refine W.reach (D := []) (i + 1) ⟨rfl, rfl, rfl, trivial⟩ (.refl _) ⟨⟨by omega, fun j hj => ?_⟩, by omega⟩
        rcases Nat.lt_or_ge j i with h | h
        · exact hi2 j h
        · obtain rfl : j = i := by omega
          exact hsame
    · have hge : i = a.length := by simp at hc_t14; omega
      have heq : a = b := List.ext_getElem? (fun j => by cases Nat.lt_or_ge j a.length with | inl h => exact hi2 j (by omega) | inr h => rw [List.getElem?_eq_none h, List.getElem?_eq_none (by omega)])
      refine W.exit ?_
      refine W.then_exit ?_
      refine W.then_exit ?_
      refine W.blk_hit ?_
      refine W.then ?_
      refine W.seq ?_
      refine W.region ?_
      refine W.q (Ev.assign .k) rfl ?_
      refine W.nil ?_
      refine W.then ?_
      refine W.ret ?_
      refine W.retn (M' := []) (rs := [.tmp 4]) (avs := [_]) Tryz.results22 ⟨rfl, trivial⟩ rfl (.refl _) ?_
      (exact ⟨congrArg AV.bool (decide_eq_true heq).symm, rfl⟩)

end WLet

end Go.Proofs.YtacaemfkdieocaaGreatDoor
end

section
set_option linter.unusedVariables false
set_option linter.unusedSimpArgs false
set_option maxRecDepth 100000
namespace Go.Proofs.YtacaemfkdieocaaGreatDoor
open Go.Vl

namespace WReads
theorem ty3 : Ty Tryz.prog 3 1 8 (.int .i64 0) := Ty.of (by kernel_rfl)
theorem ty4 : Ty Tryz.prog 4 1 1 (.bool false) := Ty.of (by kernel_rfl)
theorem ty22 : Ty Tryz.prog 22 1 24 (.slice none 0 0) := Ty.of (by kernel_rfl)
theorem ty25 : Ty Tryz.prog 25 1 24 (.slice none 0 0) := Ty.of (by kernel_rfl)
theorem ty26 : Ty Tryz.prog 26 1 24 (.slice none 0 0) := Ty.of (by kernel_rfl)
theorem ty28 : Ty Tryz.prog 28 2 48 (.agg #[.slice none 0 0, .slice none 0 0]) := Ty.of (by kernel_rfl)
theorem ag4 : IsAgg Tryz.prog 4 false := ⟨_, Tryz.underlying4, rfl⟩
theorem ag22 : IsAgg Tryz.prog 22 false := ⟨_, Tryz.underlying22, rfl⟩
theorem ag25 : IsAgg Tryz.prog 25 false := ⟨_, Tryz.underlying25, rfl⟩
theorem ag26 : IsAgg Tryz.prog 26 false := ⟨_, Tryz.underlying26, rfl⟩
theorem ag28 : IsAgg Tryz.prog 28 true := ⟨_, Tryz.underlying28, rfl⟩
theorem fa28_0 : FieldAt Tryz.prog 28 0 0 1 false := ⟨_, _, Tryz.underlying28, rfl, rfl, ty25.size, ag25, by decide⟩
theorem fa28_1 : FieldAt Tryz.prog 28 1 1 1 false := ⟨_, _, Tryz.underlying28, rfl, rfl, ty26.size, ag26, by decide⟩
theorem ni22 : NotInt Tryz.prog 22 := .inl ⟨_, Tryz.underlying22⟩
theorem c_reads (m : Au) (hs : m.Shape) (hn : m.next.length ≤ 40) (w : List Int) (hw : w.length ≤ 40) (hwr : ∀ c ∈ w, 0 ≤ c ∧ c < 8) : FnP Tryz.prog 12 [.agg [.sl 1 (m.next.map pav), .sl 1 (m.final.map AV.bool)], .sl 1 (w.map AV.int)] (.bool (Lg.dec (m.acc 0) w)) :=  by
  refine FnC.mk Tryz.func12 (by kernel_rfl) rfl Tryz.ntmps12 rfl (fun w0 F => ?_)
  have hwl : (w.map AV.int).length = w.length := List.length_map ..
  have hpos := hs.pos
  have hfin := hs.fin
  have hfl : (m.final.map AV.bool).length = m.final.length := List.length_map ..
  have hrr := Au.run_range hs w 0 (by decide) (by omega) hwr
  have hac := Au.acc_run (a := m) w 0 hwr
  have hrun := WRun.c_Run m hs hn w hw hwr
  obtain ⟨r, hr⟩ : ∃ r, m.run 0 w = r := ⟨_, rfl⟩
  rw [hr] at hrr hac hrun
  refine W.seq ?_
  refine W.region ?_
  refine W.box (.t rfl) rfl rfl ?_
  intro b2
  refine W.q (Ev.assign .k) rfl ?_
  refine W.nil ?_
  refine W.then ?_
  refine W.seq ?_
  refine W.drawnE (ι := Unit) (fun _ _ => _) 9 () (by kernel_rfl) (by kernel_rfl) rfl ?_
  (refine DE.q (fun e c hk => (Ev.ldbn 0 (.t rfl) rfl ag28 ty28 rfl)) rfl (fun _ _ => rfl) (by (exact .inr (fun _ _ => rfl))) ?_)
  refine DE.q (fun e c hk => (Ev.move (.t rfl))) rfl (fun _ _ => rfl) (by (exact .inr (fun _ _ => rfl))) ?_
  (refine DE.app0 (fun c => (by (exact .k))) (fun e c => .sl (.t rfl) (okc_ints w)) Tryz.underlying22 ni22 ty3 rfl rfl (by simp; omega) rfl (fun _ _ => rfl) ?_)
  refine DE.callp (fun c => hrun) (fun c => ⟨(.t rfl), (.t rfl), trivial⟩) rfl (fun _ _ => rfl) (by (exact .inr (fun _ _ => rfl))) ?_
  refine DE.q (fun e c hk => (Ev.move (.t rfl))) rfl (fun _ _ => rfl) (by (exact .inr (fun _ _ => rfl))) ?_
  refine DE.q (fun e c hk => (Ev.extract (.t rfl) rfl)) rfl (fun _ _ => rfl) (by (exact .inr (fun _ _ => rfl))) ?_
  refine DE.q (fun e c hk => (Ev.extract (.t rfl) rfl)) rfl (fun _ _ => rfl) (by (exact .inr (fun _ _ => rfl))) ?_
  refine DE.q (fun e c hk => (Ev.assign (.t rfl))) rfl (fun _ _ => rfl) (by (exact .inr (fun _ _ => rfl))) ?_
  refine DE.q (fun e c hk => (Ev.assign (.t rfl))) rfl (fun _ _ => rfl) (by (exact .inr (fun _ _ => rfl))) ?_
  refine DE.nil (fun c_ e_ he_ => ?_)
  dsimp only
  refine W.then ?_
  refine W.seq ?_
  refine W.region ?_
  refine W.q (Ev.move (.t rfl)) rfl ?_
  refine W.q (Ev.eqi (.t rfl) .k) rfl ?_
  refine W.q (Ev.move (.t rfl)) rfl ?_
  refine W.qgT rfl rfl (Ev.move (.t rfl)) rfl ?_
  refine W.qgT rfl rfl (Ev.gei (.c rfl) .k) rfl ?_
  refine W.q (Ev.and (.t rfl) ⟨_, _, rfl, rfl, by ((simp; done))⟩) rfl ?_
  refine W.q (Ev.move (.t rfl)) rfl ?_
  refine W.qgT rfl rfl (Ev.move (.t rfl)) rfl ?_
  (refine W.qgT rfl rfl (Ev.fab (.t rfl) fa28_1) rfl ?_)
  (refine W.qgT rfl rfl (Ev.ldb1 0 (.c rfl) rfl ag26 rfl) rfl ?_)
  (refine W.qgT rfl rfl (Ev.lensl (.c rfl) Tryz.underlying26) rfl ?_)
  refine W.qgT rfl rfl (Ev.lti (.c rfl) (.c rfl)) rfl ?_
  refine W.q (Ev.and (.t rfl) ⟨_, _, rfl, rfl, by ((simp; done))⟩) rfl ?_
  refine W.q (Ev.move (.t rfl)) rfl ?_
  (refine W.qgT rfl rfl (Ev.fab (.t rfl) fa28_1) rfl ?_)
  (refine W.qgT rfl rfl (Ev.ldb1 0 (.c rfl) rfl ag26 rfl) rfl ?_)
  refine W.qgT rfl rfl (Ev.move (.t rfl)) rfl ?_
  refine W.qgT rfl rfl (Ev.at (E := 4) (.c rfl) (.c rfl) Tryz.underlying26 ty4 (fun hg => ⟨by simp at hg; omega, getD_mapG AV.bool false m.final r.toNat (by simp at hg; omega)⟩) rfl rfl) rfl ?_
  (refine W.qgT rfl rfl (Ev.lde1 (.c rfl) ag4) rfl ?_)
  refine W.q (Ev.and (.t rfl) ⟨_, _, rfl, rfl, by ((simp; done))⟩) rfl ?_
  refine W.q (Ev.assign (.t rfl)) rfl ?_
  refine W.nil ?_
  refine W.then ?_
  refine W.ret ?_
  refine W.retn (M' := []) (D := _) (rs := [.tmp 4]) (avs := [_]) Tryz.results12 ⟨rfl, trivial⟩ rfl (.refl _) ?_
  refine ⟨congrArg AV.bool ?_, rfl⟩
  rw [Bool.eq_iff_iff, Lg.dec_iff, hac]
  simp
  omega

theorem c_sameAuto (a b : Au) (hsa : a.Shape) (hsb : b.Shape) (hna : a.next.length ≤ 40) (hnb : b.next.length ≤ 40) : FnP Tryz.prog 9 [.agg [.sl 1 (a.next.map pav), .sl 1 (a.final.map AV.bool)], .agg [.sl 1 (b.next.map pav), .sl 1 (b.final.map AV.bool)]] (.bool (Au.eqb a b)) :=  by
  refine FnC.mk Tryz.func9 (by kernel_rfl) rfl Tryz.ntmps9 rfl (fun w0 F => ?_)
  have hla : (a.next.map pav).length = a.next.length := List.length_map ..
  have hlb : (b.next.map pav).length = b.next.length := List.length_map ..
  have hfa : (a.final.map AV.bool).length = a.final.length := List.length_map ..
  have hfb : (b.final.map AV.bool).length = b.final.length := List.length_map ..
  have hfia := hsa.fin
  have hfib := hsb.fin
  refine W.seq ?_
  refine W.region ?_
  refine W.box (.t rfl) rfl rfl ?_
  intro b2
  refine W.box (.t rfl) rfl rfl ?_
  intro b3
  refine W.q (Ev.assign .k) rfl ?_
  refine W.nil ?_
  refine W.then ?_
  refine W.seq ?_
  refine W.seq ?_
  refine W.region ?_
  (refine W.q (Ev.fab (.t rfl) fa28_0) rfl ?_)
  (refine W.q (Ev.ldb1 1 (.t rfl) rfl ag25 rfl) rfl ?_)
  (refine W.q (Ev.lensl (.t rfl) Tryz.underlying25) rfl ?_)
  (refine W.q (Ev.fab (.t rfl) fa28_0) rfl ?_)
  (refine W.q (Ev.ldb1 0 (.t rfl) rfl ag25 rfl) rfl ?_)
  (refine W.q (Ev.lensl (.t rfl) Tryz.underlying25) rfl ?_)
  refine W.q (Ev.nei (.t rfl) (.t rfl)) rfl ?_
  refine W.q (Ev.move (.t rfl)) rfl ?_
  (refine W.qgF rfl rfl (Ev.fab (.t rfl) fa28_1) rfl ?_)
  (refine W.qgF rfl rfl (Ev.ldb1 1 (.c rfl) rfl ag26 rfl) rfl ?_)
  (refine W.qgF rfl rfl (Ev.lensl (.c rfl) Tryz.underlying26) rfl ?_)
  (refine W.qgF rfl rfl (Ev.fab (.t rfl) fa28_1) rfl ?_)
  (refine W.qgF rfl rfl (Ev.ldb1 0 (.c rfl) rfl ag26 rfl) rfl ?_)
  (refine W.qgF rfl rfl (Ev.lensl (.c rfl) Tryz.underlying26) rfl ?_)
  refine W.qgF rfl rfl (Ev.nei (.c rfl) (.c rfl)) rfl ?_
  refine W.q (Ev.or (.t rfl) ⟨_, _, rfl, rfl, by ((simp; done))⟩) rfl ?_
  refine W.nil ?_
  refine W.then ?_
  refine W.cond (.t rfl) (fun hc_t21 => ?_) (fun hc_t21 => ?_)
  · have hne : a.next.length ≠ b.next.length := by intro h; simp at hc_t21; omega
    have hnab : a ≠ b := fun h => hne (by rw [h])
    refine W.seq ?_
    refine W.region ?_
    refine W.q (Ev.assign .k) rfl ?_
    refine W.nil ?_
    refine W.then ?_
    refine W.ret ?_
    refine W.then_ret ?_
    refine W.retn (M' := []) (D := _) (rs := [.tmp 4]) (avs := [_]) Tryz.results9 ⟨rfl, trivial⟩ rfl (.refl _) ?_
    (exact ⟨congrArg AV.bool (Au.eqb_ne hnab).symm, rfl⟩)
  · have hlen : a.next.length = b.next.length := by simp at hc_t21; omega
    refine W.skip ?_
    refine W.then ?_
    refine W.seq ?_
    refine W.seq ?_
    refine W.region ?_
    refine W.q (Ev.assign .k) rfl ?_
    refine W.nil ?_
    refine W.then ?_
    refine W.block ?_
    refine W.loop (D := []) (ι := Nat) (fun i => [(5, true, .int (i : Int)), (2, true, .lit (.pointer (some ⟨b2, 0, none⟩))), (3, true, .lit (.pointer (some ⟨b3, 0, none⟩)))]) (fun _ => [.box b3 28 [.sl 1 (b.next.map pav), .sl 1 (b.final.map AV.bool)], .box b2 28 [.sl 1 (a.next.map pav), .sl 1 (a.final.map AV.bool)]]) (fun i => i ≤ a.next.length ∧ ∀ j, j < i → a.next.getD j [] = b.next.getD j [] ∧ a.final.getD j false = b.final.getD j false) (fun i => a.next.length - i) 0 ⟨rfl, rfl, rfl, trivial⟩ (.refl _) ⟨Nat.zero_le _, by intro j hj; omega⟩ ?_
    rintro i ⟨hi1, hi2⟩
    dsimp only at hi1 hi2 ⊢
    refine W.seq ?_
    refine W.seq ?_
    refine W.region ?_
    refine W.q (Ev.move (.t rfl)) rfl ?_
    (refine W.q (Ev.fab (.t rfl) fa28_0) rfl ?_)
    (refine W.q (Ev.ldb1 1 (.t rfl) rfl ag25 rfl) rfl ?_)
    (refine W.q (Ev.lensl (.t rfl) Tryz.underlying25) rfl ?_)
    refine W.q (Ev.lti (.t rfl) (.t rfl)) rfl ?_
    refine W.nil ?_
    refine W.then ?_
    refine W.cond (.t rfl) (fun hc_t26 => ?_) (fun hc_t26 => ?_)
    · have hlt : i < a.next.length := by simp at hc_t26; omega
      have hga := getD_mapG pav [] a.next i hlt
      have hgb := getD_mapG pav [] b.next i (by omega)
      have hha := getD_mapG AV.bool false a.final i (by omega)
      have hhb := getD_mapG AV.bool false b.final i (by omega)
      have hra : (a.next.getD i []).length = 8 := hsa.row i hlt
      refine W.skip ?_
      refine W.then ?_
      refine W.seq ?_
      refine W.block ?_
      refine W.seq ?_
      refine W.drawnE (ι := Unit) (fun _ _ => _) 25 () (by kernel_rfl) (by kernel_rfl) rfl ?_
      (refine DE.q (fun e c hk => (Ev.fab (.t rfl) fa28_0)) rfl (fun _ _ => rfl) (by (exact .inr (fun _ _ => rfl))) ?_)
      (refine DE.q (fun e c hk => (Ev.ldb1 1 (.t rfl) rfl ag25 rfl)) rfl (fun _ _ => rfl) (by (exact .inr (fun _ _ => rfl))) ?_)
      refine DE.q (fun e c hk => (Ev.move (.t rfl))) rfl (fun _ _ => rfl) (by (exact .inr (fun _ _ => rfl))) ?_
      refine DE.q (fun e c hk => Ev.at (E := 22) (.t rfl) (.t rfl) Tryz.underlying25 ty22 (fun _ => ⟨by omega, hga⟩) rfl rfl) rfl (fun _ _ => rfl) (by (exact .inr (fun _ _ => rfl))) ?_
      (refine DE.q (fun e c hk => (Ev.lde1 (.t rfl) ag22)) rfl (fun _ _ => rfl) (by (exact .inr (fun _ _ => rfl))) ?_)
      (refine DE.q (fun e c hk => (Ev.fab (.t rfl) fa28_0)) rfl (fun _ _ => rfl) (by (exact .inr (fun _ _ => rfl))) ?_)
      (refine DE.q (fun e c hk => (Ev.ldb1 0 (.t rfl) rfl ag25 rfl)) rfl (fun _ _ => rfl) (by (exact .inr (fun _ _ => rfl))) ?_)
      refine DE.q (fun e c hk => (Ev.move (.t rfl))) rfl (fun _ _ => rfl) (by (exact .inr (fun _ _ => rfl))) ?_
      refine DE.q (fun e c hk => Ev.at (E := 22) (.t rfl) (.t rfl) Tryz.underlying25 ty22 (fun _ => ⟨by omega, hgb⟩) rfl rfl) rfl (fun _ _ => rfl) (by (exact .inr (fun _ _ => rfl))) ?_
      (refine DE.q (fun e c hk => (Ev.lde1 (.t rfl) ag22)) rfl (fun _ _ => rfl) (by (exact .inr (fun _ _ => rfl))) ?_)
      refine DE.callp (fun c => WLet.c_sameInts (a.next.getD i []) (b.next.getD i []) (by omega)) (fun c => ⟨(.t rfl), (.t rfl), trivial⟩) rfl (fun _ _ => rfl) (by (exact .inr (fun _ _ => rfl))) ?_
      refine DE.q (fun e c hk => (Ev.not (.t rfl))) rfl (fun _ _ => rfl) (by (exact .inr (fun _ _ => rfl))) ?_
      refine DE.q (fun e c hk => (Ev.move (.t rfl))) rfl (fun _ _ => rfl) (by (exact .inr (fun _ _ => rfl))) ?_
      (refine DE.qg rfl (fun _ => rfl) (fun e c hk => (Ev.fab (.t rfl) fa28_1)) rfl (fun _ _ => rfl) (by (exact .inr (fun _ _ => rfl))) ?_)
      (refine DE.qg rfl (fun _ => rfl) (fun e c hk => (Ev.ldb1 1 (.c rfl) rfl ag26 rfl)) rfl (fun _ _ => rfl) (by (exact .inr (fun _ _ => rfl))) ?_)
      refine DE.qg rfl (fun _ => rfl) (fun e c hk => (Ev.move (.t rfl))) rfl (fun _ _ => rfl) (by (exact .inr (fun _ _ => rfl))) ?_
      refine DE.qg rfl (fun _ => rfl) (fun e c hk => Ev.at (E := 4) (.c rfl) (.c rfl) Tryz.underlying26 ty4 (fun _ => ⟨by omega, hha⟩) rfl rfl) rfl (fun _ _ => rfl) (by (exact .inr (fun _ _ => rfl))) ?_
      (refine DE.qg rfl (fun _ => rfl) (fun e c hk => (Ev.lde1 (.c rfl) ag4)) rfl (fun _ _ => rfl) (by (exact .inr (fun _ _ => rfl))) ?_)
      (refine DE.qg rfl (fun _ => rfl) (fun e c hk => (Ev.fab (.t rfl) fa28_1)) rfl (fun _ _ => rfl) (by (exact .inr (fun _ _ => rfl))) ?_)
      (refine DE.qg rfl (fun _ => rfl) (fun e c hk => (Ev.ldb1 0 (.c rfl) rfl ag26 rfl)) rfl (fun _ _ => rfl) (by (exact .inr (fun _ _ => rfl))) ?_)
      refine DE.qg rfl (fun _ => rfl) (fun e c hk => (Ev.move (.t rfl))) rfl (fun _ _ => rfl) (by (exact .inr (fun _ _ => rfl))) ?_
      refine DE.qg rfl (fun _ => rfl) (fun e c hk => Ev.at (E := 4) (.c rfl) (.c rfl) Tryz.underlying26 ty4 (fun _ => ⟨by omega, hhb⟩) rfl rfl) rfl (fun _ _ => rfl) (by (exact .inr (fun _ _ => rfl))) ?_
      (refine DE.qg rfl (fun _ => rfl) (fun e c hk => (Ev.lde1 (.c rfl) ag4)) rfl (fun _ _ => rfl) (by (exact .inr (fun _ _ => rfl))) ?_)
      refine DE.qg rfl (fun _ => rfl) (fun e c hk => (Ev.neb (.c rfl) (.c rfl) Tryz.underlying4)) rfl (fun _ _ => rfl) (by (exact .inr (fun _ _ => rfl))) ?_
      refine DE.q (fun e c hk => (Ev.or (.t rfl) ⟨_, _, rfl, rfl, by ((simp; done))⟩)) rfl (fun _ _ => rfl) (by (exact .inr (fun _ _ => rfl))) ?_
      refine DE.nil (fun c_ e_ he_ => ?_)
      dsimp only
      refine W.then ?_
      refine W.cond (.t rfl) (fun hc_t53 => ?_) (fun hc_t53 => ?_)
      · have hnab : a ≠ b := by rintro rfl; simp at hc_t53
        refine W.seq ?_
        refine W.region ?_
        refine W.q (Ev.assign .k) rfl ?_
        refine W.nil ?_
        refine W.then ?_
        refine W.ret ?_
        refine W.blk_ret ?_
        refine W.then_ret ?_
        refine W.then_ret ?_
        refine W.blk_ret ?_
        refine W.then_ret ?_
        refine W.retn (M' := []) (D := _) (rs := [.tmp 4]) (avs := [_]) Tryz.results9 ⟨rfl, trivial⟩ rfl (.refl _) ?_
        (exact ⟨congrArg AV.bool (Au.eqb_ne hnab).symm, rfl⟩)
      · have hsame : a.next.getD i [] = b.next.getD i [] ∧ a.final.getD i false = b.final.getD i false := by simp at hc_t53; simpa using hc_t53
        refine W.skip ?_
        refine W.blk_normal ?_
        refine W.then ?_
        refine W.region ?_
        refine W.q (Ev.move (.t rfl)) rfl ?_
        (refine W.q (Ev.add (.t rfl) .k (fun _ => by omega)) rfl ?_)
        refine W.q (Ev.assign (.t rfl)) rfl ?_
        refine W.nil ?_
        refine W.then ?_
        refine W.reach (D := []) (i + 1) ⟨rfl, rfl, rfl, trivial⟩ (.refl _) ⟨⟨by omega, fun j hj => ?_⟩, by omega⟩
        rcases Nat.lt_or_ge j i with h | h
        · exact hi2 j h
        · obtain rfl : j = i := by omega
          exact hsame
    · have hge : i = a.next.length := by simp at hc_t26; omega
      have heq : a = b := Au.eq_of hsa hsb hlen (by rw [← hge]; exact hi2)
      refine W.exit ?_
      refine W.then_exit ?_
      refine W.then_exit ?_
      refine W.blk_hit ?_
      refine W.then ?_
      refine W.seq ?_
      refine W.region ?_
      refine W.q (Ev.assign .k) rfl ?_
      refine W.nil ?_
      refine W.then ?_
      refine W.ret ?_
      refine W.retn (M' := []) (D := _) (rs := [.tmp 4]) (avs := [_]) Tryz.results9 ⟨rfl, trivial⟩ rfl (.refl _) ?_
      (exact ⟨congrArg AV.bool (Au.eqb_eq heq).symm, rfl⟩)

end WReads

end Go.Proofs.YtacaemfkdieocaaGreatDoor
end

section
set_option linter.unusedVariables false
set_option linter.unusedSimpArgs false
set_option maxRecDepth 100000
namespace Go.Proofs.YtacaemfkdieocaaGreatDoor
open Go.Vl

namespace WDrawX
theorem ty3 : Ty Tryz.prog 3 1 8 (.int .i64 0) := Ty.of (by kernel_rfl)
theorem ty9 : Ty Tryz.prog 9 1 16 (.string ⟨#[]⟩) := Ty.of (by kernel_rfl)
theorem ag3 : IsAgg Tryz.prog 3 false := ⟨_, Tryz.underlying3, rfl⟩
theorem ag9 : IsAgg Tryz.prog 9 false := ⟨_, Tryz.underlying9, rfl⟩
theorem c_ExprText_step (d : Nat) (hd : d ≤ 10) (ih : 2 ≤ d → ∀ l : List Int, l.length ≤ 1048576 → FnC Tryz.prog 6 [.sl 1 ((l).map AV.int), .int ((d - 1 : Nat) : Int)] [] (fun r M => M = [] ∧ ∃ (s : List It) (rest : List Int), r = .tup [.str (It.stx s), .sl 1 (rest.map AV.int)] ∧ Dx (d - 1) s ∧ rest.length ≤ (l).length)) (l : List Int) (hl : l.length ≤ 1048576) : FnC Tryz.prog 6 [.sl 1 ((l).map AV.int), .int ((d : Nat) : Int)] [] (fun r M => M = [] ∧ ∃ (s : List It) (rest : List Int), r = .tup [.str (It.stx s), .sl 1 (rest.map AV.int)] ∧ Dx (d) s ∧ rest.length ≤ (l).length) :=  by
  refine FnC.mk Tryz.func6 (by kernel_rfl) rfl Tryz.ntmps6 rfl (fun w0 F => ?_)
  have hll : (l.map AV.int).length = l.length := List.length_map ..
  have htb := tb_ge d
  refine W.seq ?_
  refine W.region ?_
  refine W.q (Ev.assign .k) rfl ?_
  refine W.q (Ev.assign .k) rfl ?_
  refine W.nil ?_
  refine W.then ?_
  refine W.seq ?_
  refine W.region ?_
  refine W.q (Ev.assign .k) rfl ?_
  refine W.nil ?_
  refine W.then ?_
  refine W.seq ?_
  refine W.seq ?_
  refine W.region ?_
  refine W.q (Ev.move (.t rfl)) rfl ?_
  (refine W.q (Ev.lensl (.t rfl) Tryz.underlying22) rfl ?_)
  refine W.q (Ev.gti (.t rfl) .k) rfl ?_
  refine W.nil ?_
  refine W.then ?_
  refine W.cond (.t rfl) (fun hc_t12 => ?_) (fun hc_t12 => ?_)
  · obtain ⟨x, l2, rfl⟩ : ∃ x l2, l = x :: l2 := List.exists_cons_of_ne_nil (by intro h; rw [h] at hc_t12; simp at hc_t12)
    have hl2l : l2.length ≤ (x :: l2).length := by simp
    rw [List.length_cons] at hl
    refine W.seq ?_
    refine W.region ?_
    refine W.q (Ev.move (.t rfl)) rfl ?_
    refine W.q (Ev.at (E := 3) (.t rfl) .k Tryz.underlying22 ty3 (e := .int x) (fun _ => ⟨by decide, rfl⟩) rfl rfl) rfl ?_
    (refine W.q (Ev.lde1 (.t rfl) ag3) rfl ?_)
    refine W.q (Ev.assign (.t rfl)) rfl ?_
    refine W.nil ?_
    refine W.then ?_
    refine W.region ?_
    refine W.q (Ev.move (.t rfl)) rfl ?_
    refine W.q (Ev.subsl (lo := some (.const (.int .i64 1))) (hi := none) (.t rfl) Tryz.underlying22 ty3 (Ov.k (g := true) (L := [])) rfl (fun _ => by ((simp; omega)))) rfl ?_
    refine W.q (Ev.assign (.t rfl)) rfl ?_
    refine W.nil ?_
    refine W.is (t := 0) (g := true) (av' := .sl 1 (l2.map AV.int)) rfl (congrArg (AV.sl 1) (by rw [List.take_of_length_le (by simp)]; rfl)) ?_
    refine W.then ?_
    refine W.seq ?_
    refine W.region ?_
    refine W.q (Ev.move (.t rfl)) rfl ?_
    refine W.callp (Base.c_Picked x 9 (by decide) (by decide)) ⟨(.t rfl), .k, trivial⟩ rfl ?_
    refine W.q (Ev.assign (.t rfl)) rfl ?_
    refine W.nil ?_
    obtain ⟨k9, hk9, lk9⟩ : ∃ k : Nat, x % 9 = (k : Int) ∧ k < 9 := ⟨(x % 9).toNat, by have := Int.emod_nonneg x (show (9 : Int) ≠ 0 by decide); omega, by have := Int.emod_lt_of_pos x (show (0 : Int) < 9 by decide); omega⟩
    refine W.is (t := 7) (g := true) (av' := .int (k9 : Int)) rfl (congrArg AV.int hk9) ?_
    refine W.then ?_
    refine W.seq ?_
    refine W.seq ?_
    refine W.region ?_
    refine W.q (Ev.move (.t rfl)) rfl ?_
    refine W.q (Ev.lei (.t rfl) .k) rfl ?_
    refine W.q (Ev.move (.t rfl)) rfl ?_
    refine W.qgF rfl rfl (Ev.move (.t rfl)) rfl ?_
    refine W.qgF rfl rfl (Ev.lti (.c rfl) .k) rfl ?_
    refine W.q (Ev.or (.t rfl) ⟨_, _, rfl, rfl, by ((simp; done))⟩) rfl ?_
    refine W.nil ?_
    refine W.then ?_
    refine W.cond (.t rfl) (fun hc_t25 => ?_) (fun hc_t25 => ?_)
    · obtain ⟨n1, hn1, ln1⟩ : ∃ k : Nat, IntKind.i64.wrap (x.tdiv 9) % 3 = (k : Int) ∧ k < 3 := ⟨(IntKind.i64.wrap (x.tdiv 9) % 3).toNat, by have := Int.emod_nonneg (IntKind.i64.wrap (x.tdiv 9)) (show (3 : Int) ≠ 0 by decide); omega, by have := Int.emod_lt_of_pos (IntKind.i64.wrap (x.tdiv 9)) (show (0 : Int) < 3 by decide); omega⟩
      obtain ⟨p1, hp1, lp1⟩ : ∃ k : Nat, IntKind.i64.wrap (x.tdiv 27) % 4 = (k : Int) ∧ k < 4 := ⟨(IntKind.i64.wrap (x.tdiv 27) % 4).toNat, by have := Int.emod_nonneg (IntKind.i64.wrap (x.tdiv 27)) (show (4 : Int) ≠ 0 by decide); omega, by have := Int.emod_lt_of_pos (IntKind.i64.wrap (x.tdiv 27)) (show (0 : Int) < 4 by decide); omega⟩
      have hL4 : ∀ k, k < 4 → ([[], [], [42], [63]].getD k [] : List UInt8).length ≤ 1 := by decide
      refine W.seq ?_
      refine W.drawnE (ι := Unit) (fun _ _ => _) 15 () (by kernel_rfl) (by kernel_rfl) rfl ?_
      refine DE.q (fun e c hk => (Ev.move (.t rfl))) rfl (fun _ _ => rfl) (by (exact .inr (fun _ _ => rfl))) ?_
      (refine DE.q (fun e c hk => (Ev.quo (.t rfl) .k (fun _ => by decide))) rfl (fun _ _ => rfl) (by (exact .inr (fun _ _ => rfl))) ?_)
      refine DE.callp (fun c => Base.c_Picked (IntKind.i64.wrap (x.tdiv 9)) 3 (by decide) (by decide)) (fun c => ⟨(.t rfl), .k, trivial⟩) rfl (fun _ _ => rfl) (by (exact .inr (fun _ _ => rfl))) ?_
      refine DE.q (fun e c hk => Ev.subs (lo := some (.tmp 28)) (hi := none) .k Tryz.underlying9 (.t rfl) rfl (fun _ => ⟨by omega, by show _ ≤ (3 : Int); omega, Int.le_refl _⟩)) rfl (fun _ _ => rfl) (by (exact .inr (fun _ _ => rfl))) ?_
      refine DE.q (fun e c hk => Ev.subs (lo := none) (hi := some (.const (.int .i64 1))) (.t rfl) Tryz.underlying9 rfl (Ov.k (g := true) (L := [])) (fun _ => ⟨by decide, by decide, by rw [hn1]; simp; omega⟩)) rfl (fun _ _ => rfl) (by (exact .inr (fun _ _ => rfl))) ?_
      refine DE.bs (es := fun _ => [_, _, _, _]) Tryz.underlying48 ty9 (fun c => ⟨rfl, .k, rfl, rfl, rfl, .k, rfl, rfl, rfl, .k, rfl, rfl, rfl, .k, rfl, rfl, trivial⟩) (fun _ => rfl) (by decide) rfl rfl (fun _ _ => rfl) (by (exact .inr (fun _ _ => rfl))) ?_
      refine DE.q (fun e c hk => (Ev.move (.t rfl))) rfl (fun _ _ => rfl) (by (exact .inr (fun _ _ => rfl))) ?_
      (refine DE.q (fun e c hk => (Ev.quo (.t rfl) .k (fun _ => by decide))) rfl (fun _ _ => rfl) (by (exact .inr (fun _ _ => rfl))) ?_)
      refine DE.callp (fun c => Base.c_Picked (IntKind.i64.wrap (x.tdiv 27)) 4 (by decide) (by decide)) (fun c => ⟨(.t rfl), .k, trivial⟩) rfl (fun _ _ => rfl) (by (exact .inr (fun _ _ => rfl))) ?_
      refine DE.q (fun e c hk => Ev.at (E := 9) (.t rfl) (.t rfl) Tryz.underlying48 ty9 (e := .str ([[], [], [42], [63]].getD p1 [])) (fun _ => ⟨by omega, by rw [hp1, Int.toNat_natCast]; exact getD_mapG AV.str [] [[], [], [42], [63]] p1 lp1⟩) rfl rfl) rfl (fun _ _ => rfl) (by (exact .inr (fun _ _ => rfl))) ?_
      (refine DE.q (fun e c hk => (Ev.lde1 (.t rfl) ag9)) rfl (fun _ _ => rfl) (by (exact .inr (fun _ _ => rfl))) ?_)
      refine DE.q (fun e c hk => Ev.cat (.t rfl) (.t rfl) (fun _ => by have h1 := hL4 p1 lp1; simp only [List.length_drop, List.length_take]; omega)) rfl (fun _ _ => rfl) (by (exact .inr (fun _ _ => rfl))) ?_
      refine DE.q (fun e c hk => (Ev.move (.t rfl))) rfl (fun _ _ => rfl) (by (exact .inr (fun _ _ => rfl))) ?_
      refine DE.q (fun e c hk => (Ev.assign (.t rfl))) rfl (fun _ _ => rfl) (by (exact .inr (fun _ _ => rfl))) ?_
      refine DE.q (fun e c hk => (Ev.assign (.t rfl))) rfl (fun _ _ => rfl) (by (exact .inr (fun _ _ => rfl))) ?_
      refine DE.nil (fun c_ e_ he_ => ?_)
      dsimp only
      refine W.then ?_
      refine W.ret ?_
      refine W.then_ret ?_
      refine W.retn (M' := []) (rs := [.tmp 4, .tmp 5]) (avs := [_, _]) Tryz.results6 ⟨rfl, rfl, trivial⟩ rfl (.refl _) ?_
      first
      | (refine ⟨rfl, [It.ch n1 (Dx.sf4 p1)], l2, congrArg (fun z => AV.tup [AV.str z, _]) ?_, Dx.leaf d n1 _ ln1 (Dx.sf4_in p1), hl2l⟩; rw [hn1]; exact Dx.leaf_tx n1 p1 ln1 lp1)
      | (refine ⟨rfl, s1 ++ s2, r2, congrArg (fun z => AV.tup [AV.str z, _]) ?_, Dx.cat hd2 hs1 hs2, ?_⟩; exact (It.stx_append s1 s2).symm; (first | exact hl2l | omega | (simp only [List.length_cons] at *; omega)))
      | (refine ⟨rfl, [It.gr s1 [s2] []], r2, congrArg (fun z => AV.tup [AV.str z, _]) ?_, Dx.alt hd2 hs1 hs2 [] (.inl rfl), ?_⟩; exact Dx.alt_tx s1 s2; (first | exact hl2l | omega | (simp only [List.length_cons] at *; omega)))
      | (refine ⟨rfl, [It.gr s1 [s2] [0]], r2, congrArg (fun z => AV.tup [AV.str z, _]) ?_, Dx.alt hd2 hs1 hs2 [0] (.inr rfl), ?_⟩; exact Dx.alts_tx s1 s2; (first | exact hl2l | omega | (simp only [List.length_cons] at *; omega)))
      | (refine ⟨rfl, [It.gr (s1 ++ s2) [] [q1 + 1]], r2, congrArg (fun z => AV.tup [AV.str z, _]) ?_, Dx.grp hd2 hs1 hs2 (q1 + 1) (by omega), ?_⟩; exact Dx.grp_tx s1 s2 q1 lq1; (first | exact hl2l | omega | (simp only [List.length_cons] at *; omega)))
    · have h25 := hc_t25
      simp only [Bool.or_eq_false_iff, decide_eq_false_iff_not] at h25
      have hd2 : 2 ≤ d := by omega
      obtain ⟨q1, hq1, lq1⟩ : ∃ k : Nat, IntKind.i64.wrap (x.tdiv 9) % 2 = (k : Int) ∧ k < 2 := ⟨(IntKind.i64.wrap (x.tdiv 9) % 2).toNat, by have := Int.emod_nonneg (IntKind.i64.wrap (x.tdiv 9)) (show (2 : Int) ≠ 0 by decide); omega, by have := Int.emod_lt_of_pos (IntKind.i64.wrap (x.tdiv 9)) (show (0 : Int) < 2 by decide); omega⟩
      have hL2 : ∀ k, k < 2 → ([[43], [63]].getD k [] : List UInt8).length ≤ 1 := by decide
      refine W.skip ?_
      refine W.then ?_
      refine W.seq ?_
      refine W.region ?_
      refine W.q (Ev.move (.t rfl)) rfl ?_
      refine W.q (Ev.move (.t rfl)) rfl ?_
      refine W.q (Ev.sub (.t rfl) .k (fun _ => by omega)) rfl ?_
      refine W.is (t := 42) (g := true) (av' := .int ((d - 1 : Nat) : Int)) rfl (congrArg AV.int (by omega)) ?_
      refine W.call (ih hd2 l2 (by omega)) ⟨(.t rfl), (.t rfl), trivial⟩ (.refl _) rfl ?_
      rintro _ _ ⟨rfl, s1, r1, rfl, hs1, hr1⟩
      refine W.q (Ev.move (.t rfl)) rfl ?_
      refine W.q (Ev.extract (.t rfl) rfl) rfl ?_
      refine W.q (Ev.extract (.t rfl) rfl) rfl ?_
      refine W.q (Ev.assign (.t rfl)) rfl ?_
      refine W.q (Ev.assign (.t rfl)) rfl ?_
      refine W.nil ?_
      refine W.then ?_
      refine W.seq ?_
      refine W.region ?_
      refine W.q (Ev.move (.t rfl)) rfl ?_
      refine W.q (Ev.move (.t rfl)) rfl ?_
      refine W.q (Ev.sub (.t rfl) .k (fun _ => by omega)) rfl ?_
      refine W.is (t := 49) (g := true) (av' := .int ((d - 1 : Nat) : Int)) rfl (congrArg AV.int (by omega)) ?_
      refine W.call (ih hd2 r1 (by omega)) ⟨(.t rfl), (.t rfl), trivial⟩ (.refl _) rfl ?_
      rintro _ _ ⟨rfl, s2, r2, rfl, hs2, hr2⟩
      have hl1 := hs1.len
      have hl2 := hs2.len
      have htd := (tb_step d hd2).1
      have htm := tb_small d hd
      refine W.q (Ev.move (.t rfl)) rfl ?_
      refine W.q (Ev.extract (.t rfl) rfl) rfl ?_
      refine W.q (Ev.extract (.t rfl) rfl) rfl ?_
      refine W.q (Ev.assign (.t rfl)) rfl ?_
      refine W.q (Ev.assign (.t rfl)) rfl ?_
      refine W.nil ?_
      refine W.then ?_
      refine W.seq ?_
      refine W.block ?_
      refine W.seq ?_
      refine W.region ?_
      refine W.q (Ev.move (.t rfl)) rfl ?_
      refine W.q (Ev.lti (.t rfl) .k) rfl ?_
      refine W.q (Ev.assign (.t rfl)) rfl ?_
      refine W.nil ?_
      refine W.then ?_
      refine W.cond (.t rfl) (fun hc_t53 => ?_) (fun hc_t53 => ?_)
      · refine W.seq ?_
        refine W.region ?_
        refine W.q (Ev.move (.t rfl)) rfl ?_
        refine W.q (Ev.move (.t rfl)) rfl ?_
        refine W.q (Ev.cat (.t rfl) (.t rfl) (fun _ => by (omega))) rfl ?_
        refine W.q (Ev.move (.t rfl)) rfl ?_
        refine W.q (Ev.assign (.t rfl)) rfl ?_
        refine W.q (Ev.assign (.t rfl)) rfl ?_
        refine W.nil ?_
        refine W.then ?_
        refine W.ret ?_
        refine W.blk_ret ?_
        refine W.then_ret ?_
        refine W.retn (M' := []) (rs := [.tmp 4, .tmp 5]) (avs := [_, _]) Tryz.results6 ⟨rfl, rfl, trivial⟩ rfl (.refl _) ?_
        first
        | (refine ⟨rfl, [It.ch n1 (Dx.sf4 p1)], l2, congrArg (fun z => AV.tup [AV.str z, _]) ?_, Dx.leaf d n1 _ ln1 (Dx.sf4_in p1), hl2l⟩; rw [hn1]; exact Dx.leaf_tx n1 p1 ln1 lp1)
        | (refine ⟨rfl, s1 ++ s2, r2, congrArg (fun z => AV.tup [AV.str z, _]) ?_, Dx.cat hd2 hs1 hs2, ?_⟩; exact (It.stx_append s1 s2).symm; ((omega)))
        | (refine ⟨rfl, [It.gr s1 [s2] []], r2, congrArg (fun z => AV.tup [AV.str z, _]) ?_, Dx.alt hd2 hs1 hs2 [] (.inl rfl), ?_⟩; exact Dx.alt_tx s1 s2; (first | exact hl2l | omega | (simp only [List.length_cons] at *; omega)))
        | (refine ⟨rfl, [It.gr s1 [s2] [0]], r2, congrArg (fun z => AV.tup [AV.str z, _]) ?_, Dx.alt hd2 hs1 hs2 [0] (.inr rfl), ?_⟩; exact Dx.alts_tx s1 s2; (first | exact hl2l | omega | (simp only [List.length_cons] at *; omega)))
        | (refine ⟨rfl, [It.gr (s1 ++ s2) [] [q1 + 1]], r2, congrArg (fun z => AV.tup [AV.str z, _]) ?_, Dx.grp hd2 hs1 hs2 (q1 + 1) (by omega), ?_⟩; exact Dx.grp_tx s1 s2 q1 lq1; (first | exact hl2l | omega | (simp only [List.length_cons] at *; omega)))
      · refine W.seq ?_
        refine W.region ?_
        refine W.q (Ev.move (.t rfl)) rfl ?_
        refine W.q (Ev.eqi (.t rfl) .k) rfl ?_
        refine W.q (Ev.assign (.t rfl)) rfl ?_
        refine W.nil ?_
        refine W.then ?_
        refine W.cond (.t rfl) (fun hc_t60 => ?_) (fun hc_t60 => ?_)
        · refine W.seq ?_
          refine W.region ?_
          refine W.q (Ev.move (.t rfl)) rfl ?_
          refine W.q (Ev.cat .k (.t rfl) (fun _ => by ((simp [-List.length_flatMap]; omega)))) rfl ?_
          refine W.q (Ev.cat (.t rfl) .k (fun _ => by ((simp [-List.length_flatMap]; omega)))) rfl ?_
          refine W.q (Ev.move (.t rfl)) rfl ?_
          refine W.q (Ev.cat (.t rfl) (.t rfl) (fun _ => by ((simp [-List.length_flatMap]; omega)))) rfl ?_
          refine W.q (Ev.cat (.t rfl) .k (fun _ => by ((simp [-List.length_flatMap]; omega)))) rfl ?_
          refine W.q (Ev.move (.t rfl)) rfl ?_
          refine W.q (Ev.assign (.t rfl)) rfl ?_
          refine W.q (Ev.assign (.t rfl)) rfl ?_
          refine W.nil ?_
          refine W.then ?_
          refine W.ret ?_
          refine W.blk_ret ?_
          refine W.then_ret ?_
          refine W.retn (M' := []) (rs := [.tmp 4, .tmp 5]) (avs := [_, _]) Tryz.results6 ⟨rfl, rfl, trivial⟩ rfl (.refl _) ?_
          first
          | (refine ⟨rfl, [It.ch n1 (Dx.sf4 p1)], l2, congrArg (fun z => AV.tup [AV.str z, _]) ?_, Dx.leaf d n1 _ ln1 (Dx.sf4_in p1), hl2l⟩; rw [hn1]; exact Dx.leaf_tx n1 p1 ln1 lp1)
          | (refine ⟨rfl, s1 ++ s2, r2, congrArg (fun z => AV.tup [AV.str z, _]) ?_, Dx.cat hd2 hs1 hs2, ?_⟩; exact (It.stx_append s1 s2).symm; (first | exact hl2l | omega | (simp only [List.length_cons] at *; omega)))
          | (refine ⟨rfl, [It.gr s1 [s2] []], r2, congrArg (fun z => AV.tup [AV.str z, _]) ?_, Dx.alt hd2 hs1 hs2 [] (.inl rfl), ?_⟩; exact Dx.alt_tx s1 s2; ((omega)))
          | (refine ⟨rfl, [It.gr s1 [s2] [0]], r2, congrArg (fun z => AV.tup [AV.str z, _]) ?_, Dx.alt hd2 hs1 hs2 [0] (.inr rfl), ?_⟩; exact Dx.alts_tx s1 s2; (first | exact hl2l | omega | (simp only [List.length_cons] at *; omega)))
          | (refine ⟨rfl, [It.gr (s1 ++ s2) [] [q1 + 1]], r2, congrArg (fun z => AV.tup [AV.str z, _]) ?_, Dx.grp hd2 hs1 hs2 (q1 + 1) (by omega), ?_⟩; exact Dx.grp_tx s1 s2 q1 lq1; (first | exact hl2l | omega | (simp only [List.length_cons] at *; omega)))
        · refine W.seq ?_
          refine W.region ?_
          refine W.q (Ev.move (.t rfl)) rfl ?_
          refine W.q (Ev.eqi (.t rfl) .k) rfl ?_
          refine W.q (Ev.assign (.t rfl)) rfl ?_
          refine W.nil ?_
          refine W.then ?_
          refine W.cond (.t rfl) (fun hc_t70 => ?_) (fun hc_t70 => ?_)
          · refine W.seq ?_
            refine W.region ?_
            refine W.q (Ev.move (.t rfl)) rfl ?_
            refine W.q (Ev.cat .k (.t rfl) (fun _ => by ((simp [-List.length_flatMap]; omega)))) rfl ?_
            refine W.q (Ev.cat (.t rfl) .k (fun _ => by ((simp [-List.length_flatMap]; omega)))) rfl ?_
            refine W.q (Ev.move (.t rfl)) rfl ?_
            refine W.q (Ev.cat (.t rfl) (.t rfl) (fun _ => by ((simp [-List.length_flatMap]; omega)))) rfl ?_
            refine W.q (Ev.cat (.t rfl) .k (fun _ => by ((simp [-List.length_flatMap]; omega)))) rfl ?_
            refine W.q (Ev.move (.t rfl)) rfl ?_
            refine W.q (Ev.assign (.t rfl)) rfl ?_
            refine W.q (Ev.assign (.t rfl)) rfl ?_
            refine W.nil ?_
            refine W.then ?_
            refine W.ret ?_
            refine W.blk_ret ?_
            refine W.then_ret ?_
            refine W.retn (M' := []) (rs := [.tmp 4, .tmp 5]) (avs := [_, _]) Tryz.results6 ⟨rfl, rfl, trivial⟩ rfl (.refl _) ?_
            first
            | (refine ⟨rfl, [It.ch n1 (Dx.sf4 p1)], l2, congrArg (fun z => AV.tup [AV.str z, _]) ?_, Dx.leaf d n1 _ ln1 (Dx.sf4_in p1), hl2l⟩; rw [hn1]; exact Dx.leaf_tx n1 p1 ln1 lp1)
            | (refine ⟨rfl, s1 ++ s2, r2, congrArg (fun z => AV.tup [AV.str z, _]) ?_, Dx.cat hd2 hs1 hs2, ?_⟩; exact (It.stx_append s1 s2).symm; (first | exact hl2l | omega | (simp only [List.length_cons] at *; omega)))
            | (refine ⟨rfl, [It.gr s1 [s2] []], r2, congrArg (fun z => AV.tup [AV.str z, _]) ?_, Dx.alt hd2 hs1 hs2 [] (.inl rfl), ?_⟩; exact Dx.alt_tx s1 s2; (first | exact hl2l | omega | (simp only [List.length_cons] at *; omega)))
            | (refine ⟨rfl, [It.gr s1 [s2] [0]], r2, congrArg (fun z => AV.tup [AV.str z, _]) ?_, Dx.alt hd2 hs1 hs2 [0] (.inr rfl), ?_⟩; exact Dx.alts_tx s1 s2; ((omega)))
            | (refine ⟨rfl, [It.gr (s1 ++ s2) [] [q1 + 1]], r2, congrArg (fun z => AV.tup [AV.str z, _]) ?_, Dx.grp hd2 hs1 hs2 (q1 + 1) (by omega), ?_⟩; exact Dx.grp_tx s1 s2 q1 lq1; (first | exact hl2l | omega | (simp only [List.length_cons] at *; omega)))
          · refine W.skip ?_
            refine W.blk_normal ?_
            refine W.then ?_
            refine W.seq ?_
            refine W.region ?_
            refine W.q (Ev.move (.t rfl)) rfl ?_
            refine W.q (Ev.cat .k (.t rfl) (fun _ => by ((simp [-List.length_flatMap]; omega)))) rfl ?_
            refine W.q (Ev.move (.t rfl)) rfl ?_
            refine W.q (Ev.cat (.t rfl) (.t rfl) (fun _ => by ((simp [-List.length_flatMap]; omega)))) rfl ?_
            refine W.q (Ev.cat (.t rfl) .k (fun _ => by ((simp [-List.length_flatMap]; omega)))) rfl ?_
            refine W.bs (es := [_, _]) Tryz.underlying48 ty9 ⟨rfl, .k, rfl, rfl, rfl, .k, rfl, rfl, trivial⟩ rfl (by decide) rfl rfl ?_
            refine W.q (Ev.move (.t rfl)) rfl ?_
            (refine W.q (Ev.quo (.t rfl) .k (fun _ => by decide)) rfl ?_)
            refine W.callp (Base.c_Picked (IntKind.i64.wrap (x.tdiv 9)) 2 (by decide) (by decide)) ⟨(.t rfl), .k, trivial⟩ rfl ?_
            refine W.q (Ev.at (E := 9) (.t rfl) (.t rfl) Tryz.underlying48 ty9 (e := .str ([[43], [63]].getD q1 [])) (fun _ => ⟨by omega, by rw [hq1, Int.toNat_natCast]; exact getD_mapG AV.str [] [[43], [63]] q1 lq1⟩) rfl rfl) rfl ?_
            (refine W.q (Ev.lde1 (.t rfl) ag9) rfl ?_)
            refine W.q (Ev.cat (.t rfl) (.t rfl) (fun _ => by have h1 := hL2 q1 lq1; simp only [List.length_append, List.length_cons, List.length_nil]; omega)) rfl ?_
            refine W.q (Ev.move (.t rfl)) rfl ?_
            refine W.q (Ev.assign (.t rfl)) rfl ?_
            refine W.q (Ev.assign (.t rfl)) rfl ?_
            refine W.nil ?_
            refine W.then ?_
            refine W.ret ?_
            refine W.retn (M' := []) (rs := [.tmp 4, .tmp 5]) (avs := [_, _]) Tryz.results6 ⟨rfl, rfl, trivial⟩ rfl (.refl _) ?_
            first
            | (refine ⟨rfl, [It.ch n1 (Dx.sf4 p1)], l2, congrArg (fun z => AV.tup [AV.str z, _]) ?_, Dx.leaf d n1 _ ln1 (Dx.sf4_in p1), hl2l⟩; rw [hn1]; exact Dx.leaf_tx n1 p1 ln1 lp1)
            | (refine ⟨rfl, s1 ++ s2, r2, congrArg (fun z => AV.tup [AV.str z, _]) ?_, Dx.cat hd2 hs1 hs2, ?_⟩; exact (It.stx_append s1 s2).symm; (first | exact hl2l | omega | (simp only [List.length_cons] at *; omega)))
            | (refine ⟨rfl, [It.gr s1 [s2] []], r2, congrArg (fun z => AV.tup [AV.str z, _]) ?_, Dx.alt hd2 hs1 hs2 [] (.inl rfl), ?_⟩; exact Dx.alt_tx s1 s2; (first | exact hl2l | omega | (simp only [List.length_cons] at *; omega)))
            | (refine ⟨rfl, [It.gr s1 [s2] [0]], r2, congrArg (fun z => AV.tup [AV.str z, _]) ?_, Dx.alt hd2 hs1 hs2 [0] (.inr rfl), ?_⟩; exact Dx.alts_tx s1 s2; (first | exact hl2l | omega | (simp only [List.length_cons] at *; omega)))
            | (refine ⟨rfl, [It.gr (s1 ++ s2) [] [q1 + 1]], r2, congrArg (fun z => AV.tup [AV.str z, _]) ?_, Dx.grp hd2 hs1 hs2 (q1 + 1) (by omega), ?_⟩; exact Dx.grp_tx s1 s2 q1 lq1; ((omega)))
  · obtain ⟨x, hx⟩ : ∃ x : Int, x = 0 := ⟨0, rfl⟩
    refine W.is (t := 6) (g := true) (av' := .int x) rfl (congrArg AV.int hx.symm) ?_
    obtain ⟨l2, hl2⟩ : ∃ l2 : List Int, l2 = l := ⟨l, rfl⟩
    refine W.is (t := 0) (g := true) (av' := .sl 1 (l2.map AV.int)) rfl (by rw [hl2]) ?_
    have hl2l : l2.length ≤ l.length := by rw [hl2]; exact Nat.le_refl _
    refine W.skip ?_
    refine W.then ?_
    refine W.seq ?_
    refine W.region ?_
    refine W.q (Ev.move (.t rfl)) rfl ?_
    refine W.callp (Base.c_Picked x 9 (by decide) (by decide)) ⟨(.t rfl), .k, trivial⟩ rfl ?_
    refine W.q (Ev.assign (.t rfl)) rfl ?_
    refine W.nil ?_
    obtain ⟨k9, hk9, lk9⟩ : ∃ k : Nat, x % 9 = (k : Int) ∧ k < 9 := ⟨(x % 9).toNat, by have := Int.emod_nonneg x (show (9 : Int) ≠ 0 by decide); omega, by have := Int.emod_lt_of_pos x (show (0 : Int) < 9 by decide); omega⟩
    refine W.is (t := 7) (g := true) (av' := .int (k9 : Int)) rfl (congrArg AV.int hk9) ?_
    refine W.then ?_
    refine W.seq ?_
    refine W.seq ?_
    refine W.region ?_
    refine W.q (Ev.move (.t rfl)) rfl ?_
    refine W.q (Ev.lei (.t rfl) .k) rfl ?_
    refine W.q (Ev.move (.t rfl)) rfl ?_
    refine W.qgF rfl rfl (Ev.move (.t rfl)) rfl ?_
    refine W.qgF rfl rfl (Ev.lti (.c rfl) .k) rfl ?_
    refine W.q (Ev.or (.t rfl) ⟨_, _, rfl, rfl, by ((simp; done))⟩) rfl ?_
    refine W.nil ?_
    refine W.then ?_
    refine W.cond (.t rfl) (fun hc_t25 => ?_) (fun hc_t25 => ?_)
    · obtain ⟨n1, hn1, ln1⟩ : ∃ k : Nat, IntKind.i64.wrap (x.tdiv 9) % 3 = (k : Int) ∧ k < 3 := ⟨(IntKind.i64.wrap (x.tdiv 9) % 3).toNat, by have := Int.emod_nonneg (IntKind.i64.wrap (x.tdiv 9)) (show (3 : Int) ≠ 0 by decide); omega, by have := Int.emod_lt_of_pos (IntKind.i64.wrap (x.tdiv 9)) (show (0 : Int) < 3 by decide); omega⟩
      obtain ⟨p1, hp1, lp1⟩ : ∃ k : Nat, IntKind.i64.wrap (x.tdiv 27) % 4 = (k : Int) ∧ k < 4 := ⟨(IntKind.i64.wrap (x.tdiv 27) % 4).toNat, by have := Int.emod_nonneg (IntKind.i64.wrap (x.tdiv 27)) (show (4 : Int) ≠ 0 by decide); omega, by have := Int.emod_lt_of_pos (IntKind.i64.wrap (x.tdiv 27)) (show (0 : Int) < 4 by decide); omega⟩
      have hL4 : ∀ k, k < 4 → ([[], [], [42], [63]].getD k [] : List UInt8).length ≤ 1 := by decide
      refine W.seq ?_
      refine W.drawnE (ι := Unit) (fun _ _ => _) 15 () (by kernel_rfl) (by kernel_rfl) rfl ?_
      refine DE.q (fun e c hk => (Ev.move (.t rfl))) rfl (fun _ _ => rfl) (by (exact .inr (fun _ _ => rfl))) ?_
      (refine DE.q (fun e c hk => (Ev.quo (.t rfl) .k (fun _ => by decide))) rfl (fun _ _ => rfl) (by (exact .inr (fun _ _ => rfl))) ?_)
      refine DE.callp (fun c => Base.c_Picked (IntKind.i64.wrap (x.tdiv 9)) 3 (by decide) (by decide)) (fun c => ⟨(.t rfl), .k, trivial⟩) rfl (fun _ _ => rfl) (by (exact .inr (fun _ _ => rfl))) ?_
      refine DE.q (fun e c hk => Ev.subs (lo := some (.tmp 28)) (hi := none) .k Tryz.underlying9 (.t rfl) rfl (fun _ => ⟨by omega, by show _ ≤ (3 : Int); omega, Int.le_refl _⟩)) rfl (fun _ _ => rfl) (by (exact .inr (fun _ _ => rfl))) ?_
      refine DE.q (fun e c hk => Ev.subs (lo := none) (hi := some (.const (.int .i64 1))) (.t rfl) Tryz.underlying9 rfl (Ov.k (g := true) (L := [])) (fun _ => ⟨by decide, by decide, by rw [hn1]; simp; omega⟩)) rfl (fun _ _ => rfl) (by (exact .inr (fun _ _ => rfl))) ?_
      refine DE.bs (es := fun _ => [_, _, _, _]) Tryz.underlying48 ty9 (fun c => ⟨rfl, .k, rfl, rfl, rfl, .k, rfl, rfl, rfl, .k, rfl, rfl, rfl, .k, rfl, rfl, trivial⟩) (fun _ => rfl) (by decide) rfl rfl (fun _ _ => rfl) (by (exact .inr (fun _ _ => rfl))) ?_
      refine DE.q (fun e c hk => (Ev.move (.t rfl))) rfl (fun _ _ => rfl) (by (exact .inr (fun _ _ => rfl))) ?_
      (refine DE.q (fun e c hk => (Ev.quo (.t rfl) .k (fun _ => by decide))) rfl (fun _ _ => rfl) (by (exact .inr (fun _ _ => rfl))) ?_)
      refine DE.callp (fun c => Base.c_Picked (IntKind.i64.wrap (x.tdiv 27)) 4 (by decide) (by decide)) (fun c => ⟨(.t rfl), .k, trivial⟩) rfl (fun _ _ => rfl) (by (exact .inr (fun _ _ => rfl))) ?_
      refine DE.q (fun e c hk => Ev.at (E := 9) (.t rfl) (.t rfl) Tryz.underlying48 ty9 (e := .str ([[], [], [42], [63]].getD p1 [])) (fun _ => ⟨by omega, by rw [hp1, Int.toNat_natCast]; exact getD_mapG AV.str [] [[], [], [42], [63]] p1 lp1⟩) rfl rfl) rfl (fun _ _ => rfl) (by (exact .inr (fun _ _ => rfl))) ?_
      (refine DE.q (fun e c hk => (Ev.lde1 (.t rfl) ag9)) rfl (fun _ _ => rfl) (by (exact .inr (fun _ _ => rfl))) ?_)
      refine DE.q (fun e c hk => Ev.cat (.t rfl) (.t rfl) (fun _ => by have h1 := hL4 p1 lp1; simp only [List.length_drop, List.length_take]; omega)) rfl (fun _ _ => rfl) (by (exact .inr (fun _ _ => rfl))) ?_
      refine DE.q (fun e c hk => (Ev.move (.t rfl))) rfl (fun _ _ => rfl) (by (exact .inr (fun _ _ => rfl))) ?_
      refine DE.q (fun e c hk => (Ev.assign (.t rfl))) rfl (fun _ _ => rfl) (by (exact .inr (fun _ _ => rfl))) ?_
      refine DE.q (fun e c hk => (Ev.assign (.t rfl))) rfl (fun _ _ => rfl) (by (exact .inr (fun _ _ => rfl))) ?_
      refine DE.nil (fun c_ e_ he_ => ?_)
      dsimp only
      refine W.then ?_
      refine W.ret ?_
      refine W.then_ret ?_
      refine W.retn (M' := []) (rs := [.tmp 4, .tmp 5]) (avs := [_, _]) Tryz.results6 ⟨rfl, rfl, trivial⟩ rfl (.refl _) ?_
      first
      | (refine ⟨rfl, [It.ch n1 (Dx.sf4 p1)], l2, congrArg (fun z => AV.tup [AV.str z, _]) ?_, Dx.leaf d n1 _ ln1 (Dx.sf4_in p1), hl2l⟩; rw [hn1]; exact Dx.leaf_tx n1 p1 ln1 lp1)
      | (refine ⟨rfl, s1 ++ s2, r2, congrArg (fun z => AV.tup [AV.str z, _]) ?_, Dx.cat hd2 hs1 hs2, ?_⟩; exact (It.stx_append s1 s2).symm; (first | exact hl2l | omega | (simp only [List.length_cons] at *; omega)))
      | (refine ⟨rfl, [It.gr s1 [s2] []], r2, congrArg (fun z => AV.tup [AV.str z, _]) ?_, Dx.alt hd2 hs1 hs2 [] (.inl rfl), ?_⟩; exact Dx.alt_tx s1 s2; (first | exact hl2l | omega | (simp only [List.length_cons] at *; omega)))
      | (refine ⟨rfl, [It.gr s1 [s2] [0]], r2, congrArg (fun z => AV.tup [AV.str z, _]) ?_, Dx.alt hd2 hs1 hs2 [0] (.inr rfl), ?_⟩; exact Dx.alts_tx s1 s2; (first | exact hl2l | omega | (simp only [List.length_cons] at *; omega)))
      | (refine ⟨rfl, [It.gr (s1 ++ s2) [] [q1 + 1]], r2, congrArg (fun z => AV.tup [AV.str z, _]) ?_, Dx.grp hd2 hs1 hs2 (q1 + 1) (by omega), ?_⟩; exact Dx.grp_tx s1 s2 q1 lq1; (first | exact hl2l | omega | (simp only [List.length_cons] at *; omega)))
    · have h25 := hc_t25
      simp only [Bool.or_eq_false_iff, decide_eq_false_iff_not] at h25
      have hd2 : 2 ≤ d := by omega
      obtain ⟨q1, hq1, lq1⟩ : ∃ k : Nat, IntKind.i64.wrap (x.tdiv 9) % 2 = (k : Int) ∧ k < 2 := ⟨(IntKind.i64.wrap (x.tdiv 9) % 2).toNat, by have := Int.emod_nonneg (IntKind.i64.wrap (x.tdiv 9)) (show (2 : Int) ≠ 0 by decide); omega, by have := Int.emod_lt_of_pos (IntKind.i64.wrap (x.tdiv 9)) (show (0 : Int) < 2 by decide); omega⟩
      have hL2 : ∀ k, k < 2 → ([[43], [63]].getD k [] : List UInt8).length ≤ 1 := by decide
      refine W.skip ?_
      refine W.then ?_
      refine W.seq ?_
      refine W.region ?_
      refine W.q (Ev.move (.t rfl)) rfl ?_
      refine W.q (Ev.move (.t rfl)) rfl ?_
      refine W.q (Ev.sub (.t rfl) .k (fun _ => by omega)) rfl ?_
      refine W.is (t := 42) (g := true) (av' := .int ((d - 1 : Nat) : Int)) rfl (congrArg AV.int (by omega)) ?_
      refine W.call (ih hd2 l2 (by omega)) ⟨(.t rfl), (.t rfl), trivial⟩ (.refl _) rfl ?_
      rintro _ _ ⟨rfl, s1, r1, rfl, hs1, hr1⟩
      refine W.q (Ev.move (.t rfl)) rfl ?_
      refine W.q (Ev.extract (.t rfl) rfl) rfl ?_
      refine W.q (Ev.extract (.t rfl) rfl) rfl ?_
      refine W.q (Ev.assign (.t rfl)) rfl ?_
      refine W.q (Ev.assign (.t rfl)) rfl ?_
      refine W.nil ?_
      refine W.then ?_
      refine W.seq ?_
      refine W.region ?_
      refine W.q (Ev.move (.t rfl)) rfl ?_
      refine W.q (Ev.move (.t rfl)) rfl ?_
      refine W.q (Ev.sub (.t rfl) .k (fun _ => by omega)) rfl ?_
      refine W.is (t := 49) (g := true) (av' := .int ((d - 1 : Nat) : Int)) rfl (congrArg AV.int (by omega)) ?_
      refine W.call (ih hd2 r1 (by omega)) ⟨(.t rfl), (.t rfl), trivial⟩ (.refl _) rfl ?_
      rintro _ _ ⟨rfl, s2, r2, rfl, hs2, hr2⟩
      have hl1 := hs1.len
      have hl2 := hs2.len
      have htd := (tb_step d hd2).1
      have htm := tb_small d hd
      refine W.q (Ev.move (.t rfl)) rfl ?_
      refine W.q (Ev.extract (.t rfl) rfl) rfl ?_
      refine W.q (Ev.extract (.t rfl) rfl) rfl ?_
      refine W.q (Ev.assign (.t rfl)) rfl ?_
      refine W.q (Ev.assign (.t rfl)) rfl ?_
      refine W.nil ?_
      refine W.then ?_
      refine W.seq ?_
      refine W.block ?_
      refine W.seq ?_
      refine W.region ?_
      refine W.q (Ev.move (.t rfl)) rfl ?_
      refine W.q (Ev.lti (.t rfl) .k) rfl ?_
      refine W.q (Ev.assign (.t rfl)) rfl ?_
      refine W.nil ?_
      refine W.then ?_
      refine W.cond (.t rfl) (fun hc_t53 => ?_) (fun hc_t53 => ?_)
      · refine W.seq ?_
        refine W.region ?_
        refine W.q (Ev.move (.t rfl)) rfl ?_
        refine W.q (Ev.move (.t rfl)) rfl ?_
        refine W.q (Ev.cat (.t rfl) (.t rfl) (fun _ => by (omega))) rfl ?_
        refine W.q (Ev.move (.t rfl)) rfl ?_
        refine W.q (Ev.assign (.t rfl)) rfl ?_
        refine W.q (Ev.assign (.t rfl)) rfl ?_
        refine W.nil ?_
        refine W.then ?_
        refine W.ret ?_
        refine W.blk_ret ?_
        refine W.then_ret ?_
        refine W.retn (M' := []) (rs := [.tmp 4, .tmp 5]) (avs := [_, _]) Tryz.results6 ⟨rfl, rfl, trivial⟩ rfl (.refl _) ?_
        first
        | (refine ⟨rfl, [It.ch n1 (Dx.sf4 p1)], l2, congrArg (fun z => AV.tup [AV.str z, _]) ?_, Dx.leaf d n1 _ ln1 (Dx.sf4_in p1), hl2l⟩; rw [hn1]; exact Dx.leaf_tx n1 p1 ln1 lp1)
        | (refine ⟨rfl, s1 ++ s2, r2, congrArg (fun z => AV.tup [AV.str z, _]) ?_, Dx.cat hd2 hs1 hs2, ?_⟩; exact (It.stx_append s1 s2).symm; ((omega)))
        | (refine ⟨rfl, [It.gr s1 [s2] []], r2, congrArg (fun z => AV.tup [AV.str z, _]) ?_, Dx.alt hd2 hs1 hs2 [] (.inl rfl), ?_⟩; exact Dx.alt_tx s1 s2; (first | exact hl2l | omega | (simp only [List.length_cons] at *; omega)))
        | (refine ⟨rfl, [It.gr s1 [s2] [0]], r2, congrArg (fun z => AV.tup [AV.str z, _]) ?_, Dx.alt hd2 hs1 hs2 [0] (.inr rfl), ?_⟩; exact Dx.alts_tx s1 s2; (first | exact hl2l | omega | (simp only [List.length_cons] at *; omega)))
        | (refine ⟨rfl, [It.gr (s1 ++ s2) [] [q1 + 1]], r2, congrArg (fun z => AV.tup [AV.str z, _]) ?_, Dx.grp hd2 hs1 hs2 (q1 + 1) (by omega), ?_⟩; exact Dx.grp_tx s1 s2 q1 lq1; (first | exact hl2l | omega | (simp only [List.length_cons] at *; omega)))
      · refine W.seq ?_
        refine W.region ?_
        refine W.q (Ev.move (.t rfl)) rfl ?_
        refine W.q (Ev.eqi (.t rfl) .k) rfl ?_
        refine W.q (Ev.assign (.t rfl)) rfl ?_
        refine W.nil ?_
        refine W.then ?_
        refine W.cond (.t rfl) (fun hc_t60 => ?_) (fun hc_t60 => ?_)
        · refine W.seq ?_
          refine W.region ?_
          refine W.q (Ev.move (.t rfl)) rfl ?_
          refine W.q (Ev.cat .k (.t rfl) (fun _ => by (omega))) rfl ?_
          refine W.q (Ev.cat (.t rfl) .k (fun _ => by (omega))) rfl ?_
          refine W.q (Ev.move (.t rfl)) rfl ?_
          refine W.q (Ev.cat (.t rfl) (.t rfl) (fun _ => by (omega))) rfl ?_
          refine W.q (Ev.cat (.t rfl) .k (fun _ => by (omega))) rfl ?_
          refine W.q (Ev.move (.t rfl)) rfl ?_
          refine W.q (Ev.assign (.t rfl)) rfl ?_
          refine W.q (Ev.assign (.t rfl)) rfl ?_
          refine W.nil ?_
          refine W.then ?_
          refine W.ret ?_
          refine W.blk_ret ?_
          refine W.then_ret ?_
          refine W.retn (M' := []) (rs := [.tmp 4, .tmp 5]) (avs := [_, _]) Tryz.results6 ⟨rfl, rfl, trivial⟩ rfl (.refl _) ?_
          first
          | (refine ⟨rfl, [It.ch n1 (Dx.sf4 p1)], l2, congrArg (fun z => AV.tup [AV.str z, _]) ?_, Dx.leaf d n1 _ ln1 (Dx.sf4_in p1), hl2l⟩; rw [hn1]; exact Dx.leaf_tx n1 p1 ln1 lp1)
          | (refine ⟨rfl, s1 ++ s2, r2, congrArg (fun z => AV.tup [AV.str z, _]) ?_, Dx.cat hd2 hs1 hs2, ?_⟩; exact (It.stx_append s1 s2).symm; (first | exact hl2l | omega | (simp only [List.length_cons] at *; omega)))
          | (refine ⟨rfl, [It.gr s1 [s2] []], r2, congrArg (fun z => AV.tup [AV.str z, _]) ?_, Dx.alt hd2 hs1 hs2 [] (.inl rfl), ?_⟩; exact Dx.alt_tx s1 s2; ((omega)))
          | (refine ⟨rfl, [It.gr s1 [s2] [0]], r2, congrArg (fun z => AV.tup [AV.str z, _]) ?_, Dx.alt hd2 hs1 hs2 [0] (.inr rfl), ?_⟩; exact Dx.alts_tx s1 s2; (first | exact hl2l | omega | (simp only [List.length_cons] at *; omega)))
          | (refine ⟨rfl, [It.gr (s1 ++ s2) [] [q1 + 1]], r2, congrArg (fun z => AV.tup [AV.str z, _]) ?_, Dx.grp hd2 hs1 hs2 (q1 + 1) (by omega), ?_⟩; exact Dx.grp_tx s1 s2 q1 lq1; (first | exact hl2l | omega | (simp only [List.length_cons] at *; omega)))
        · refine W.seq ?_
          refine W.region ?_
          refine W.q (Ev.move (.t rfl)) rfl ?_
          refine W.q (Ev.eqi (.t rfl) .k) rfl ?_
          refine W.q (Ev.assign (.t rfl)) rfl ?_
          refine W.nil ?_
          refine W.then ?_
          refine W.cond (.t rfl) (fun hc_t70 => ?_) (fun hc_t70 => ?_)
          · refine W.seq ?_
            refine W.region ?_
            refine W.q (Ev.move (.t rfl)) rfl ?_
            refine W.q (Ev.cat .k (.t rfl) (fun _ => by (omega))) rfl ?_
            refine W.q (Ev.cat (.t rfl) .k (fun _ => by (omega))) rfl ?_
            refine W.q (Ev.move (.t rfl)) rfl ?_
            refine W.q (Ev.cat (.t rfl) (.t rfl) (fun _ => by (omega))) rfl ?_
            refine W.q (Ev.cat (.t rfl) .k (fun _ => by (omega))) rfl ?_
            refine W.q (Ev.move (.t rfl)) rfl ?_
            refine W.q (Ev.assign (.t rfl)) rfl ?_
            refine W.q (Ev.assign (.t rfl)) rfl ?_
            refine W.nil ?_
            refine W.then ?_
            refine W.ret ?_
            refine W.blk_ret ?_
            refine W.then_ret ?_
            refine W.retn (M' := []) (rs := [.tmp 4, .tmp 5]) (avs := [_, _]) Tryz.results6 ⟨rfl, rfl, trivial⟩ rfl (.refl _) ?_
            first
            | (refine ⟨rfl, [It.ch n1 (Dx.sf4 p1)], l2, congrArg (fun z => AV.tup [AV.str z, _]) ?_, Dx.leaf d n1 _ ln1 (Dx.sf4_in p1), hl2l⟩; rw [hn1]; exact Dx.leaf_tx n1 p1 ln1 lp1)
            | (refine ⟨rfl, s1 ++ s2, r2, congrArg (fun z => AV.tup [AV.str z, _]) ?_, Dx.cat hd2 hs1 hs2, ?_⟩; exact (It.stx_append s1 s2).symm; (first | exact hl2l | omega | (simp only [List.length_cons] at *; omega)))
            | (refine ⟨rfl, [It.gr s1 [s2] []], r2, congrArg (fun z => AV.tup [AV.str z, _]) ?_, Dx.alt hd2 hs1 hs2 [] (.inl rfl), ?_⟩; exact Dx.alt_tx s1 s2; (first | exact hl2l | omega | (simp only [List.length_cons] at *; omega)))
            | (refine ⟨rfl, [It.gr s1 [s2] [0]], r2, congrArg (fun z => AV.tup [AV.str z, _]) ?_, Dx.alt hd2 hs1 hs2 [0] (.inr rfl), ?_⟩; exact Dx.alts_tx s1 s2; ((omega)))
            | (refine ⟨rfl, [It.gr (s1 ++ s2) [] [q1 + 1]], r2, congrArg (fun z => AV.tup [AV.str z, _]) ?_, Dx.grp hd2 hs1 hs2 (q1 + 1) (by omega), ?_⟩; exact Dx.grp_tx s1 s2 q1 lq1; (first | exact hl2l | omega | (simp only [List.length_cons] at *; omega)))
          · refine W.skip ?_
            refine W.blk_normal ?_
            refine W.then ?_
            refine W.seq ?_
            refine W.region ?_
            refine W.q (Ev.move (.t rfl)) rfl ?_
            refine W.q (Ev.cat .k (.t rfl) (fun _ => by (omega))) rfl ?_
            refine W.q (Ev.move (.t rfl)) rfl ?_
            refine W.q (Ev.cat (.t rfl) (.t rfl) (fun _ => by (omega))) rfl ?_
            refine W.q (Ev.cat (.t rfl) .k (fun _ => by (omega))) rfl ?_
            refine W.bs (es := [_, _]) Tryz.underlying48 ty9 ⟨rfl, .k, rfl, rfl, rfl, .k, rfl, rfl, trivial⟩ rfl (by decide) rfl rfl ?_
            refine W.q (Ev.move (.t rfl)) rfl ?_
            (refine W.q (Ev.quo (.t rfl) .k (fun _ => by decide)) rfl ?_)
            refine W.callp (Base.c_Picked (IntKind.i64.wrap (x.tdiv 9)) 2 (by decide) (by decide)) ⟨(.t rfl), .k, trivial⟩ rfl ?_
            refine W.q (Ev.at (E := 9) (.t rfl) (.t rfl) Tryz.underlying48 ty9 (e := .str ([[43], [63]].getD q1 [])) (fun _ => ⟨by omega, by rw [hq1, Int.toNat_natCast]; exact getD_mapG AV.str [] [[43], [63]] q1 lq1⟩) rfl rfl) rfl ?_
            (refine W.q (Ev.lde1 (.t rfl) ag9) rfl ?_)
            refine W.q (Ev.cat (.t rfl) (.t rfl) (fun _ => by have h1 := hL2 q1 lq1; simp only [List.length_append, List.length_cons, List.length_nil]; omega)) rfl ?_
            refine W.q (Ev.move (.t rfl)) rfl ?_
            refine W.q (Ev.assign (.t rfl)) rfl ?_
            refine W.q (Ev.assign (.t rfl)) rfl ?_
            refine W.nil ?_
            refine W.then ?_
            refine W.ret ?_
            refine W.retn (M' := []) (rs := [.tmp 4, .tmp 5]) (avs := [_, _]) Tryz.results6 ⟨rfl, rfl, trivial⟩ rfl (.refl _) ?_
            first
            | (refine ⟨rfl, [It.ch n1 (Dx.sf4 p1)], l2, congrArg (fun z => AV.tup [AV.str z, _]) ?_, Dx.leaf d n1 _ ln1 (Dx.sf4_in p1), hl2l⟩; rw [hn1]; exact Dx.leaf_tx n1 p1 ln1 lp1)
            | (refine ⟨rfl, s1 ++ s2, r2, congrArg (fun z => AV.tup [AV.str z, _]) ?_, Dx.cat hd2 hs1 hs2, ?_⟩; exact (It.stx_append s1 s2).symm; (first | exact hl2l | omega | (simp only [List.length_cons] at *; omega)))
            | (refine ⟨rfl, [It.gr s1 [s2] []], r2, congrArg (fun z => AV.tup [AV.str z, _]) ?_, Dx.alt hd2 hs1 hs2 [] (.inl rfl), ?_⟩; exact Dx.alt_tx s1 s2; (first | exact hl2l | omega | (simp only [List.length_cons] at *; omega)))
            | (refine ⟨rfl, [It.gr s1 [s2] [0]], r2, congrArg (fun z => AV.tup [AV.str z, _]) ?_, Dx.alt hd2 hs1 hs2 [0] (.inr rfl), ?_⟩; exact Dx.alts_tx s1 s2; (first | exact hl2l | omega | (simp only [List.length_cons] at *; omega)))
            | (refine ⟨rfl, [It.gr (s1 ++ s2) [] [q1 + 1]], r2, congrArg (fun z => AV.tup [AV.str z, _]) ?_, Dx.grp hd2 hs1 hs2 (q1 + 1) (by omega), ?_⟩; exact Dx.grp_tx s1 s2 q1 lq1; ((omega)))

theorem c_ExprText : ∀ d : Nat, d ≤ 10 → ∀ l : List Int, l.length ≤ 1048576 → FnC Tryz.prog 6 [.sl 1 ((l).map AV.int), .int ((d : Nat) : Int)] [] (fun r M => M = [] ∧ ∃ (s : List It) (rest : List Int), r = .tup [.str (It.stx s), .sl 1 (rest.map AV.int)] ∧ Dx (d) s ∧ rest.length ≤ (l).length) := by
  intro d
  induction d using Nat.strongRecOn with
  | _ d ih => exact fun hd l hl => c_ExprText_step d hd (fun h2 l hl => ih (d - 1) (by omega) (by omega) l hl) l hl

end WDrawX

end Go.Proofs.YtacaemfkdieocaaGreatDoor
end

section
set_option linter.unusedVariables false
set_option linter.unusedSimpArgs false
namespace Go.Vl
open Go.RowKit (Below)
def tabM (g : Nat) (T : TypeId) (zs : List Int) : ME := .box g T (zs.map fun z => AV.lit (.int .u64 z))
theorem repL_tab {w : World} {N : List Nat} : ∀ {zs : List Int} {row : List Value}, RepL w N (zs.map fun z => AV.lit (.int .u64 z)) row ↔ row = zs.map (Value.int .u64)
  | [], row => by simp [RepL]
  | z :: zs, row => by
    simp only [List.map_cons, RepL]
    constructor
    · rintro ⟨u, us, rfl, ⟨h1, h2, h3⟩, h4⟩
      rw [lit_cell h1 h3, repL_tab.1 h4]
    · rintro rfl
      exact ⟨_, _, rfl, ⟨rfl, rfl, by simp only [RepC]; rfl⟩, repL_tab.2 rfl⟩
theorem laid_tl {P : Program} {x : String × DataW Unit} {r : List (String × DataW Unit)} {w : World} (h : laidMet P (x :: r) w) : laidMet P r w := by
  obtain ⟨ps, hv, hnd, hrows⟩ := h
  obtain ⟨n, d⟩ := x
  obtain ⟨g, t, cs, fuel, p, q, _, _, _, _, hq, rfl⟩ := hv
  exact ⟨q, hq, List.Nodup.sublist (List.sublist_append_right _ _) hnd, fun b off hm => hrows b off (List.mem_append_right _ hm)⟩
theorem tab_block {P : Program} {W : World} {name : String} {zs : List Int} {rest : List (String × DataW Unit)} {g : Nat} {t e : TypeId} {n : Nat}
    (hg : P.globalNamed name = some g) (hty : (P.globals[g]?).map (·.type) = some t) (ht : P.underlying t = some (.array n e)) (he : P.underlying e = some (.int .u64)) (hce : P.cellsOf e = 1) (hct : P.cellsOf t = n)
    (hz : 0 < zs.length) (h : laidMet P ((name, Lib.tabData .u64 zs) :: rest) W) : ∃ T, W.heap[g]? = some (.cells (zs.map (Value.int .u64)).toArray T (0, 0)) := by
  have htab := Lib.tabIs_of_head hg hty ht he hce hct h
  obtain ⟨ps, ⟨g', t', cs, fuel, p, q, hg', ht', hvar, hd, _, hps⟩, hnd, hrows⟩ := h
  obtain rfl := Option.some.inj (hg.symm.trans hg')
  have hcs : cs = (zs.map (Value.int .u64)).toArray := Option.some.inj (hvar.symm.trans htab)
  have hsz : 0 < cs.size := by rw [hcs]; simpa using hz
  obtain ⟨⟨c, T, hb⟩, _⟩ := hrows g 0 (by
    rw [hps]
    refine List.mem_append_left _ (List.mem_append_left _ ?_)
    unfold MemPlace.row
    exact List.mem_map.2 ⟨0, List.mem_range.2 hsz, rfl⟩)
  refine ⟨T, ?_⟩
  unfold Lib.TabIs World.var? at htab
  rw [hg, Option.bind_some, hb] at htab
  rw [hb, Option.some.inj htab]
theorem rep_apart {W : World} {g : Nat} {T : TypeId} {fr : Nat × Nat} {zs : List Int} (hg : W.heap[g]? = some (.cells (zs.map (Value.int .u64)).toArray T fr)) {l : List Int} {v : Value} (h : Rep W [] (.sl 1 (l.map AV.int)) v) : Rep W [g] (.sl 1 (l.map AV.int)) v := by
  refine ⟨h.1, ?_⟩
  have h2 := h.2
  simp only [RepC] at h2 ⊢
  obtain ⟨a, cap, e, h3, h4, h5⟩ := h2
  refine ⟨a, cap, e, h3, h4, ?_⟩
  rcases h5 with h5 | ⟨b, off, cur, T', fr', ha, hb, hc, he⟩
  · exact .inl h5
  · cases l with
    | nil => exact .inl rfl
    | cons n l =>
      have hi := RepE.toInts he
      refine .inr ⟨b, off, cur, T', fr', ha, ?_, hc, RepE.ints hi⟩
      intro hbg
      have hbg : b = g := by simpa using hbg
      subst hbg
      rw [hg] at hc
      cases hc
      have hmem : (Value.int .i64 n) ∈ ((zs.map (Value.int .u64)).toArray.toList.drop off) := List.mem_of_mem_take (i := (n :: l).length) (by rw [hi]; simp)
      have := List.mem_of_mem_drop hmem
      simp at this
theorem law_callsT {P : Program} {f : FuncId} {avs : List AV} {W : World} {vs : List Value} {g : Nat} {T : TypeId} {zs : List Int} (hg : W.heap[g]? = some (.cells (zs.map (Value.int .u64)).toArray T (0, 0)))
    (h : FnC P f avs [tabM g T zs] (fun r M => r = .lit (.bool true) ∧ M = [tabM g T zs])) (ha : RepT W [g] avs vs) :
    Calls P f vs.toArray W fun e W' => e = .returned (.bool true) ∧ Below W.heap.size W W' := by
  have hm : MOk W [tabM g T zs] [] := ⟨by simp [bl, ME.blks, tabM], by simp, fun m hm => by
    rw [List.mem_singleton.1 hm]
    exact ⟨_, hg, repL_tab.2 (by simp)⟩⟩
  refine (h.2 W [] vs (by simp) hm (by simpa [bl, ME.blks, tabM] using ha)).mono ?_
  rintro e W' ⟨v, r, M', rfl, ⟨rfl, rfl⟩, hm', hr, hf⟩
  have hv := Rep.lit_iff.1 hr
  subst hv
  refine ⟨rfl, hf.os, hf.tape, hf.output, hf.size, fun k hk => ?_⟩
  by_cases hkg : k = g
  · subst hkg
    obtain ⟨cur, hc, hl⟩ := hm'.holds _ List.mem_cons_self
    rw [hc, hg]
    congr 2
    exact Array.toList_inj.1 (repL_tab.1 hl)
  · exact (hf.block k hk (by simp [bl, ME.blks, tabM, hkg])).1
end Go.Vl
end

section
set_option linter.unusedVariables false
set_option linter.unusedSimpArgs false
set_option maxRecDepth 100000
namespace Go.Proofs.YtacaemfkdieocaaGreatDoor
open Go.Vl

namespace WStep
theorem ty3 : Ty Tryz.prog 3 1 8 (.int .i64 0) := Ty.of (by kernel_rfl)
theorem ty22 : Ty Tryz.prog 22 1 24 (.slice none 0 0) := Ty.of (by kernel_rfl)
theorem ty25 : Ty Tryz.prog 25 1 24 (.slice none 0 0) := Ty.of (by kernel_rfl)
theorem ty57 : Ty Tryz.prog 57 2 16 (.agg #[.int .i64 0, .int .i64 0]) := Ty.of (by kernel_rfl)
theorem ag3 : IsAgg Tryz.prog 3 false := ⟨_, Tryz.underlying3, rfl⟩
theorem ag22 : IsAgg Tryz.prog 22 false := ⟨_, Tryz.underlying22, rfl⟩
theorem ag25 : IsAgg Tryz.prog 25 false := ⟨_, Tryz.underlying25, rfl⟩
theorem ag57 : IsAgg Tryz.prog 57 true := ⟨_, Tryz.underlying57, rfl⟩
theorem fa28_0 : FieldAt Tryz.prog 28 0 0 1 false := ⟨_, _, Tryz.underlying28, rfl, rfl, ty25.size, ag25, by decide⟩
theorem fa57_0 : FieldAt Tryz.prog 57 0 0 1 false := ⟨_, _, Tryz.underlying57, rfl, rfl, ty3.size, ag3, by decide⟩
theorem fa57_1 : FieldAt Tryz.prog 57 1 1 1 false := ⟨_, _, Tryz.underlying57, rfl, rfl, ty3.size, ag3, by decide⟩
theorem st57 : StructAt Tryz.prog 57 [(0, 1), (1, 1)] := ⟨_, Tryz.underlying57, rfl, ty3.size, rfl, ty3.size, trivial⟩
theorem c_step (a b : Au) (hsa : a.Shape) (hsb : b.Shape) (ha : a.next.length ≤ 40) (hb : b.next.length ≤ 40) (p : Int × Int) (hp : Au.PIn a b p) (n : Nat) (hn : n < 8) : FnP Tryz.prog 33 [.agg [.int p.1, .int p.2], .agg [.sl 1 (a.next.map pav), .sl 1 (a.final.map AV.bool)], .agg [.sl 1 (b.next.map pav), .sl 1 (b.final.map AV.bool)], .int (n : Int)] (.agg [.int (Au.stp a b p n).1, .int (Au.stp a b p n).2]) :=  by
  refine FnC.mk Tryz.func33 (by kernel_rfl) rfl Tryz.ntmps33 rfl (fun w0 F => ?_)
  obtain ⟨p1, p2⟩ := p
  obtain ⟨hl1, hu1, hl2, hu2⟩ := hp
  dsimp only at hl1 hu1 hl2 hu2
  have hna : (a.next.map pav).length = a.next.length := List.length_map ..
  have hnb : (b.next.map pav).length = b.next.length := List.length_map ..
  refine W.seq ?_
  refine W.region ?_
  refine W.box (.t rfl) rfl rfl ?_
  intro b4
  refine W.box (.t rfl) rfl rfl ?_
  intro b5
  refine W.box (.t rfl) rfl rfl ?_
  intro b6
  refine W.alloc ty57 rfl rfl ?_
  intro b8
  refine W.nil ?_
  refine W.then ?_
  refine W.seq ?_
  refine W.region ?_
  refine W.q (Ev.build ty57 st57 rfl (fun hg => ⟨_, _, _, rfl, .k, rfl, rfl, rfl, _, _, _, rfl, .k, rfl, rfl, rfl, rfl⟩)) rfl ?_
  refine W.alloc ty57 rfl rfl ?_
  intro b9
  (refine W.stb 0 (.t rfl) (.t rfl) rfl ty57 rfl rfl rfl ?_)
  refine W.nil ?_
  refine W.then ?_
  refine W.seq ?_
  refine W.seq ?_
  refine W.region ?_
  (refine W.q (Ev.fab (.t rfl) fa57_0) rfl ?_)
  (refine W.q (Ev.ldb1 4 (.t rfl) rfl ag3 rfl) rfl ?_)
  refine W.q (Ev.gei (.t rfl) .k) rfl ?_
  refine W.nil ?_
  refine W.then ?_
  refine W.cond (.t rfl) (fun hc_t13 => ?_) (fun hc_t13 => ?_)
  · have h13 := of_decide_eq_true hc_t13
    have hga := getD_mapG pav [] a.next p1.toNat (by omega)
    have hwa := hsa.row p1.toNat (by omega)
    have hxa := getD_map (a.next.getD p1.toNat []) n (by omega)
    have hta := Au.to_get a p1 (n : Int) (by rw [Int.toNat_natCast]; omega)
    rw [Int.toNat_natCast] at hta
    have hea : (if (0 : Int) ≤ p1 then a.to p1 (n : Int) else -1) = (a.next.getD p1.toNat []).getD n 0 := by rw [if_pos h13]; exact hta.symm
    refine W.region ?_
    (refine W.q (Ev.fab (.t rfl) fa28_0) rfl ?_)
    (refine W.q (Ev.ldb1 3 (.t rfl) rfl ag25 rfl) rfl ?_)
    (refine W.q (Ev.fab (.t rfl) fa57_0) rfl ?_)
    (refine W.q (Ev.ldb1 4 (.t rfl) rfl ag3 rfl) rfl ?_)
    refine W.q (Ev.at (E := 22) (.t rfl) (.t rfl) Tryz.underlying25 ty22 (fun _ => ⟨by omega, hga⟩) rfl rfl) rfl ?_
    (refine W.q (Ev.lde1 (.t rfl) ag22) rfl ?_)
    refine W.q (Ev.move (.t rfl)) rfl ?_
    refine W.q (Ev.at (E := 3) (.t rfl) (.t rfl) Tryz.underlying22 ty3 (fun _ => ⟨by omega, hxa⟩) rfl rfl) rfl ?_
    (refine W.q (Ev.lde1 (.t rfl) ag3) rfl ?_)
    (refine W.q (Ev.fab (.t rfl) fa57_0) rfl ?_)
    (refine W.stb 0 (.t rfl) (.t rfl) rfl ty3 rfl rfl rfl ?_)
    refine W.nil ?_
    refine W.then ?_
    refine W.seq ?_
    refine W.seq ?_
    refine W.region ?_
    (refine W.q (Ev.fab (.t rfl) fa57_1) rfl ?_)
    (refine W.q (Ev.ldb1 4 (.t rfl) rfl ag3 rfl) rfl ?_)
    refine W.q (Ev.gei (.t rfl) .k) rfl ?_
    refine W.nil ?_
    refine W.then ?_
    refine W.cond (.t rfl) (fun hc_t26 => ?_) (fun hc_t26 => ?_)
    · have h26 := of_decide_eq_true hc_t26
      have hgb := getD_mapG pav [] b.next p2.toNat (by omega)
      have hwb := hsb.row p2.toNat (by omega)
      have hxb := getD_map (b.next.getD p2.toNat []) n (by omega)
      have htb := Au.to_get b p2 (n : Int) (by rw [Int.toNat_natCast]; omega)
      rw [Int.toNat_natCast] at htb
      have heb : (if (0 : Int) ≤ p2 then b.to p2 (n : Int) else -1) = (b.next.getD p2.toNat []).getD n 0 := by rw [if_pos h26]; exact htb.symm
      refine W.region ?_
      (refine W.q (Ev.fab (.t rfl) fa28_0) rfl ?_)
      (refine W.q (Ev.ldb1 2 (.t rfl) rfl ag25 rfl) rfl ?_)
      (refine W.q (Ev.fab (.t rfl) fa57_1) rfl ?_)
      (refine W.q (Ev.ldb1 4 (.t rfl) rfl ag3 rfl) rfl ?_)
      refine W.q (Ev.at (E := 22) (.t rfl) (.t rfl) Tryz.underlying25 ty22 (fun _ => ⟨by omega, hgb⟩) rfl rfl) rfl ?_
      (refine W.q (Ev.lde1 (.t rfl) ag22) rfl ?_)
      refine W.q (Ev.move (.t rfl)) rfl ?_
      refine W.q (Ev.at (E := 3) (.t rfl) (.t rfl) Tryz.underlying22 ty3 (fun _ => ⟨by omega, hxb⟩) rfl rfl) rfl ?_
      (refine W.q (Ev.lde1 (.t rfl) ag3) rfl ?_)
      (refine W.q (Ev.fab (.t rfl) fa57_1) rfl ?_)
      (refine W.stb 0 (.t rfl) (.t rfl) rfl ty3 rfl rfl rfl ?_)
      refine W.nil ?_
      refine W.then ?_
      refine W.seq ?_
      refine W.region ?_
      (refine W.q (Ev.ldbn 0 (.t rfl) rfl ag57 ty57 rfl) rfl ?_)
      (refine W.stb 1 (.t rfl) (.t rfl) rfl ty57 rfl rfl rfl ?_)
      refine W.nil ?_
      refine W.then ?_
      refine W.ret ?_
      refine W.retn (M' := []) (D := _) (rs := [.cell 8 57]) (avs := [_]) Tryz.results33 ⟨⟨_, _, _, rfl, by repeat (first | exact List.mem_cons_self | apply List.mem_cons_of_mem), rfl, by funext w; exact ag57.run w, by funext w; exact ty57.size w⟩, trivial⟩ rfl (.refl _) ?_
      refine ⟨?_, rfl⟩
      simp only [Au.stp, hea, heb]
      rfl
    · have h26 := of_decide_eq_false hc_t26
      have heb : (if (0 : Int) ≤ p2 then b.to p2 (n : Int) else -1) = -1 := if_neg h26
      refine W.skip ?_
      refine W.then ?_
      refine W.seq ?_
      refine W.region ?_
      (refine W.q (Ev.ldbn 0 (.t rfl) rfl ag57 ty57 rfl) rfl ?_)
      (refine W.stb 1 (.t rfl) (.t rfl) rfl ty57 rfl rfl rfl ?_)
      refine W.nil ?_
      refine W.then ?_
      refine W.ret ?_
      refine W.retn (M' := []) (D := _) (rs := [.cell 8 57]) (avs := [_]) Tryz.results33 ⟨⟨_, _, _, rfl, by repeat (first | exact List.mem_cons_self | apply List.mem_cons_of_mem), rfl, by funext w; exact ag57.run w, by funext w; exact ty57.size w⟩, trivial⟩ rfl (.refl _) ?_
      refine ⟨?_, rfl⟩
      simp only [Au.stp, hea, heb]
      rfl
  · have h13 := of_decide_eq_false hc_t13
    have hea : (if (0 : Int) ≤ p1 then a.to p1 (n : Int) else -1) = -1 := if_neg h13
    refine W.skip ?_
    refine W.then ?_
    refine W.seq ?_
    refine W.seq ?_
    refine W.region ?_
    (refine W.q (Ev.fab (.t rfl) fa57_1) rfl ?_)
    (refine W.q (Ev.ldb1 4 (.t rfl) rfl ag3 rfl) rfl ?_)
    refine W.q (Ev.gei (.t rfl) .k) rfl ?_
    refine W.nil ?_
    refine W.then ?_
    refine W.cond (.t rfl) (fun hc_t26 => ?_) (fun hc_t26 => ?_)
    · have h26 := of_decide_eq_true hc_t26
      have hgb := getD_mapG pav [] b.next p2.toNat (by omega)
      have hwb := hsb.row p2.toNat (by omega)
      have hxb := getD_map (b.next.getD p2.toNat []) n (by omega)
      have htb := Au.to_get b p2 (n : Int) (by rw [Int.toNat_natCast]; omega)
      rw [Int.toNat_natCast] at htb
      have heb : (if (0 : Int) ≤ p2 then b.to p2 (n : Int) else -1) = (b.next.getD p2.toNat []).getD n 0 := by rw [if_pos h26]; exact htb.symm
      refine W.region ?_
      (refine W.q (Ev.fab (.t rfl) fa28_0) rfl ?_)
      (refine W.q (Ev.ldb1 2 (.t rfl) rfl ag25 rfl) rfl ?_)
      (refine W.q (Ev.fab (.t rfl) fa57_1) rfl ?_)
      (refine W.q (Ev.ldb1 4 (.t rfl) rfl ag3 rfl) rfl ?_)
      refine W.q (Ev.at (E := 22) (.t rfl) (.t rfl) Tryz.underlying25 ty22 (fun _ => ⟨by omega, hgb⟩) rfl rfl) rfl ?_
      (refine W.q (Ev.lde1 (.t rfl) ag22) rfl ?_)
      refine W.q (Ev.move (.t rfl)) rfl ?_
      refine W.q (Ev.at (E := 3) (.t rfl) (.t rfl) Tryz.underlying22 ty3 (fun _ => ⟨by omega, hxb⟩) rfl rfl) rfl ?_
      (refine W.q (Ev.lde1 (.t rfl) ag3) rfl ?_)
      (refine W.q (Ev.fab (.t rfl) fa57_1) rfl ?_)
      (refine W.stb 0 (.t rfl) (.t rfl) rfl ty3 rfl rfl rfl ?_)
      refine W.nil ?_
      refine W.then ?_
      refine W.seq ?_
      refine W.region ?_
      (refine W.q (Ev.ldbn 0 (.t rfl) rfl ag57 ty57 rfl) rfl ?_)
      (refine W.stb 1 (.t rfl) (.t rfl) rfl ty57 rfl rfl rfl ?_)
      refine W.nil ?_
      refine W.then ?_
      refine W.ret ?_
      refine W.retn (M' := []) (D := _) (rs := [.cell 8 57]) (avs := [_]) Tryz.results33 ⟨⟨_, _, _, rfl, by repeat (first | exact List.mem_cons_self | apply List.mem_cons_of_mem), rfl, by funext w; exact ag57.run w, by funext w; exact ty57.size w⟩, trivial⟩ rfl (.refl _) ?_
      refine ⟨?_, rfl⟩
      simp only [Au.stp, hea, heb]
      rfl
    · have h26 := of_decide_eq_false hc_t26
      have heb : (if (0 : Int) ≤ p2 then b.to p2 (n : Int) else -1) = -1 := if_neg h26
      refine W.skip ?_
      refine W.then ?_
      refine W.seq ?_
      refine W.region ?_
      (refine W.q (Ev.ldbn 0 (.t rfl) rfl ag57 ty57 rfl) rfl ?_)
      (refine W.stb 1 (.t rfl) (.t rfl) rfl ty57 rfl rfl rfl ?_)
      refine W.nil ?_
      refine W.then ?_
      refine W.ret ?_
      refine W.retn (M' := []) (D := _) (rs := [.cell 8 57]) (avs := [_]) Tryz.results33 ⟨⟨_, _, _, rfl, by repeat (first | exact List.mem_cons_self | apply List.mem_cons_of_mem), rfl, by funext w; exact ag57.run w, by funext w; exact ty57.size w⟩, trivial⟩ rfl (.refl _) ?_
      refine ⟨?_, rfl⟩
      simp only [Au.stp, hea, heb]
      rfl

end WStep

end Go.Proofs.YtacaemfkdieocaaGreatDoor
end

section
set_option linter.unusedVariables false
set_option linter.unusedSimpArgs false
set_option maxRecDepth 100000
namespace Go.Proofs.YtacaemfkdieocaaGreatDoor
open Go.Vl

namespace WPairs
theorem ty3 : Ty Tryz.prog 3 1 8 (.int .i64 0) := Ty.of (by kernel_rfl)
theorem ty28 : Ty Tryz.prog 28 2 48 (.agg #[.slice none 0 0, .slice none 0 0]) := Ty.of (by kernel_rfl)
theorem ty57 : Ty Tryz.prog 57 2 16 (.agg #[.int .i64 0, .int .i64 0]) := Ty.of (by kernel_rfl)
theorem ty75 : Ty Tryz.prog 75 8 64 (.agg #[.int .i64 0, .int .i64 0, .int .i64 0, .int .i64 0, .int .i64 0, .int .i64 0, .int .i64 0, .int .i64 0]) := Ty.of (by kernel_rfl)
theorem ag28 : IsAgg Tryz.prog 28 true := ⟨_, Tryz.underlying28, rfl⟩
theorem ag57 : IsAgg Tryz.prog 57 true := ⟨_, Tryz.underlying57, rfl⟩
theorem ag75 : IsAgg Tryz.prog 75 true := ⟨_, Tryz.underlying75, rfl⟩
theorem st57 : StructAt Tryz.prog 57 [(0, 1), (1, 1)] := ⟨_, Tryz.underlying57, rfl, ty3.size, rfl, ty3.size, trivial⟩
theorem ni51 : NotInt Tryz.prog 51 := .inl ⟨_, Tryz.underlying51⟩
theorem ni52 : NotInt Tryz.prog 52 := .inl ⟨_, Tryz.underlying52⟩
theorem kp57 : KeyKind Tryz.prog 57 pv := KeyKind.pair Tryz.underlying57 (by kernel_rfl) (by decide) (by decide) ⟨rfl, rfl⟩ ⟨rfl, rfl⟩ Tryz.underlying3
theorem c_pairs (a b : Au) (hsa : a.Shape) (hsb : b.Shape) (ha : a.next.length ≤ 40) (hb : b.next.length ≤ 40) : FnC Tryz.prog 18 [.agg [.sl 1 (a.next.map pav), .sl 1 (a.final.map AV.bool)], .agg [.sl 1 (b.next.map pav), .sl 1 (b.final.map AV.bool)]] [] (fun r M => ∃ v1 v2 all T, Au.Prs a b all T ∧ all.length ≤ (a.next.length + 1) * (b.next.length + 1) ∧ r = .tup [.lit v1, .lit v2] ∧ M = [.arr v2 75 8 ((List.range all.length).map fun k => r8av (fun c => (T k c : Int))), .arr v1 57 2 (all.map prav)]) :=  by
  refine FnC.mk Tryz.func18 (by kernel_rfl) rfl Tryz.ntmps18 rfl (fun w0 F => ?_)
  refine W.seq ?_
  refine W.region ?_
  refine W.box (.t rfl) rfl rfl ?_
  intro b2
  refine W.box (.t rfl) rfl rfl ?_
  intro b3
  refine W.q (Ev.assign .k) rfl ?_
  refine W.q (Ev.assign .k) rfl ?_
  refine W.nil ?_
  refine W.then ?_
  refine W.seq ?_
  refine W.region ?_
  refine W.mkmap rfl ?_
  intro b15
  refine W.q (Ev.build ty57 st57 rfl (fun hg => rfl)) rfl ?_
  refine W.conv (t := 16) (av' := .lit (pv (0, 0))) rfl (fun _ _ _ h => Rep.pv h) ?_
  refine W.mapnew 0 (ks := []) (k := (0, 0)) (f := pv) (.t rfl) rfl (.t rfl) .k Tryz.underlying74 kp57 (by simp) _ (.inr rfl) ?_
  refine W.q (Ev.move (.t rfl)) rfl ?_
  refine W.q (Ev.assign (.t rfl)) rfl ?_
  refine W.nil ?_
  refine W.then ?_
  refine W.seq ?_
  refine W.region ?_
  refine W.q (Ev.build ty57 st57 rfl (fun hg => rfl)) rfl ?_
  refine W.bso (es := [_]) Tryz.underlying51 ty57 ⟨rfl, (.t rfl), rfl, rfl, trivial⟩ rfl (by decide) rfl rfl ?_
  intro v19
  refine W.q (Ev.assign (.t rfl)) rfl ?_
  refine W.nil ?_
  refine W.then ?_
  refine W.seq ?_
  refine W.region ?_
  refine W.q (Ev.assign .k) rfl ?_
  refine W.nil ?_
  refine W.then ?_
  refine W.seq ?_
  refine W.seq ?_
  refine W.region ?_
  refine W.q (Ev.assign .k) rfl ?_
  refine W.nil ?_
  refine W.then ?_
  refine W.block ?_
  refine W.own_nil 75 8 ?_
  refine W.loop (D := []) (ι := (Nat × List (Int × Int) × (Nat → Nat → Nat) × Value × Value)) (fun z => [(9, true, .int (z.1 : Int)), (8, true, .lit z.2.2.2.2), (7, true, .lit z.2.2.2.1), (6, true, .lit (.map (some b15))), (2, true, .lit (.pointer (some ⟨b2, 0, none⟩))), (3, true, .lit (.pointer (some ⟨b3, 0, none⟩)))]) (fun z => [.arr z.2.2.2.2 75 8 ((List.range z.1).map fun k => r8av (fun c => (z.2.2.1 k c : Int))), .arr z.2.2.2.1 57 2 (z.2.1.map prav), .obj b15 (mObj (z.2.1.map pv)), .box b3 28 [.sl 1 (b.next.map pav), .sl 1 (b.final.map AV.bool)], .box b2 28 [.sl 1 (a.next.map pav), .sl 1 (a.final.map AV.bool)]]) (fun z => Au.Prb a b z.2.1 z.2.2.1 z.1 0 ∧ z.1 ≤ z.2.1.length) (fun z => 1681 - z.1) (0, [(0, 0)], (fun _ _ => 0), v19, .slice none 0 0) ⟨rfl, rfl, rfl, rfl, rfl, rfl, trivial⟩ (.refl _) ⟨Au.Prb.start hsa hsb _, Nat.zero_le _⟩ ?_
  rintro ⟨i, all, T, v7, v8⟩ ⟨hR, hi⟩
  dsimp only at hR hi ⊢
  have hlen := hR.len40 ha hb
  have hml : (all.map prav).length = all.length := List.length_map ..
  rcases (show i < all.length ∨ i = all.length from by omega) with hlt | hend
  · skip
    refine W.seq ?_
    refine W.seq ?_
    refine W.region ?_
    refine W.q (Ev.move (.t rfl)) rfl ?_
    refine W.q (Ev.move (.t rfl)) rfl ?_
    (refine W.q (Ev.lenar (i := 1) (.t rfl) rfl Tryz.underlying51) rfl ?_)
    refine W.q (Ev.lti (.t rfl) (.t rfl)) rfl ?_
    refine W.nil ?_
    refine W.then ?_
    refine W.is (t := 23) (g := true) (av' := .lit (.bool true)) rfl (congrArg (fun b => AV.lit (.bool b)) (by exact decide_eq_true (by omega))) ?_
    refine W.condT (.t rfl) ?_
    refine W.skip ?_
    refine W.then ?_
    refine W.seq ?_
    refine W.block ?_
    refine W.seq ?_
    refine W.region ?_
    refine W.alloc ty75 rfl rfl ?_
    intro b10
    refine W.nil ?_
    refine W.then ?_
    refine W.seq ?_
    refine W.seq ?_
    refine W.region ?_
    refine W.q (Ev.move .k) rfl ?_
    refine W.nil ?_
    refine W.then ?_
    refine W.block ?_
    refine W.loop (D := []) (ι := (Nat × List (Int × Int) × (Nat → Nat → Nat) × Value)) (fun z => (26, true, .int (z.1 : Int)) :: (10, true, .lit (.pointer (some ⟨b10, 0, none⟩))) :: [(9, true, .int (i : Int)), (8, true, .lit v8), (7, true, .lit z.2.2.2), (6, true, .lit (.map (some b15))), (2, true, .lit (.pointer (some ⟨b2, 0, none⟩))), (3, true, .lit (.pointer (some ⟨b3, 0, none⟩)))]) (fun z => [.box b10 75 (Au.rowU z.2.2.1 i z.1), .arr v8 75 8 ((List.range i).map fun k => r8av (fun c => (z.2.2.1 k c : Int))), .arr z.2.2.2 57 2 (z.2.1.map prav), .obj b15 (mObj (z.2.1.map pv)), .box b3 28 [.sl 1 (b.next.map pav), .sl 1 (b.final.map AV.bool)], .box b2 28 [.sl 1 (a.next.map pav), .sl 1 (a.final.map AV.bool)]]) (fun z => Au.Prb a b z.2.1 z.2.2.1 i z.1 ∧ i < z.2.1.length ∧ z.1 ≤ 8) (fun z => 8 - z.1) (0, all, T, v7) ⟨rfl, rfl, rfl, rfl, rfl, rfl, rfl, rfl, trivial⟩ (.refl _) ⟨hR, hlt, Nat.zero_le _⟩ ?_
    clear hR hlt hlen hml hi
    clear all T v7
    rintro ⟨n, all, T, v7⟩ ⟨hR, hlt, hn⟩
    dsimp only at hR hlt hn ⊢
    have hlen := hR.len40 ha hb
    have hml : (all.map prav).length = all.length := List.length_map ..
    rcases (show n < 8 ∨ n = 8 from by omega) with hn8 | hn8
    · have hga := getD_mapG prav (0, 0) all i hlt
      have hcall := WStep.c_step a b hsa hsb ha hb (all.getD i (0, 0)) (hR.rng _ (getD_memG _ _ _ hlt)) n hn8
      generalize hse : Au.stp a b (all.getD i (0, 0)) n = s at hcall
      refine W.seq ?_
      refine W.region ?_
      refine W.q (Ev.lti (.t rfl) .k) rfl ?_
      refine W.nil ?_
      refine W.then ?_
      refine W.seq ?_
      refine W.is (t := 27) (g := true) (av' := .lit (.bool true)) rfl (congrArg (fun b => AV.lit (.bool b)) (by simp; omega)) ?_
      refine W.condT (.t rfl) ?_
      refine W.skip ?_
      refine W.then ?_
      refine W.seq ?_
      refine W.block ?_
      refine W.seq ?_
      refine W.region ?_
      refine W.q (Ev.move (.t rfl)) rfl ?_
      refine W.q (Ev.assign (.t rfl)) rfl ?_
      refine W.nil ?_
      refine W.then ?_
      refine W.seq ?_
      refine W.drawnM (fun ee c_ => [.box b10 75 (Au.rowU T i n), .arr v8 75 8 ((List.range i).map fun k => r8av (fun c => (T k c : Int))), .arr v7 57 2 (all.map prav), .obj b15 (mObj (all.map pv)), .box b3 28 [.sl 1 (b.next.map pav), .sl 1 (b.final.map AV.bool)], .box b2 28 [.sl 1 (a.next.map pav), .sl 1 (a.final.map AV.bool)]] ++ (bif ee 8 then [ME.box (c_ 8).1 57 (bif ee 9 then [.int s.1, .int s.2] else [.int 0, .int 0])] else [])) (c0 := ks0) (by kernel_rfl) (by kernel_rfl) rfl ?_
      refine DM.q (fun e c hk => (Ev.move (.t rfl))) rfl (fun _ _ => rfl) (fun c c_ h => by first | rfl) ?_
      refine DM.q (fun e c hk => (Ev.move (.t rfl))) rfl (fun _ _ => rfl) (fun c c_ h => by first | rfl) ?_
      (refine DM.q (fun e c hk => (Ev.ata 2 (.t rfl) rfl (.t rfl) Tryz.underlying51 ty57 (fun _ => by omega))) rfl (fun _ _ => rfl) (fun c c_ h => by first | rfl) ?_)
      refine DM.q (fun e c hk => Ev.ldan 2 i (e := prav (all.getD i (0, 0))) (.t rfl) rfl hga (by omega) rfl ag57 ty57) rfl (fun _ _ => rfl) (fun c c_ h => rfl) ?_
      (refine DM.q (fun e c hk => (Ev.ldbn 5 (.t rfl) rfl ag28 ty28 rfl)) rfl (fun _ _ => rfl) (fun c c_ h => by first | rfl) ?_)
      (refine DM.q (fun e c hk => (Ev.ldbn 4 (.t rfl) rfl ag28 ty28 rfl)) rfl (fun _ _ => rfl) (fun c c_ h => by first | rfl) ?_)
      refine DM.q (fun e c hk => (Ev.move (.t rfl))) rfl (fun _ _ => rfl) (fun c c_ h => by first | rfl) ?_
      refine DM.callp (fun c => hcall) (fun c => ⟨(.t rfl), (.t rfl), (.t rfl), (.t rfl), trivial⟩) rfl (fun _ _ => rfl) (fun c c_ h => by first | rfl) ?_
      refine DM.eff1 (av := fun c => .lit (.pointer (some ⟨(c 8).1, 0, none⟩))) rfl (fun c c_ h => by (simp only [h 8 (by (exact .inl rfl))])) (fun e c hk L_ hs Q h => ?_) ?_
      · have hk_8 := hk.not
        have hk_9 := hk.down 9 (by kernel_rfl)
        simp only [addE, upd, eq_self, List.nil_append, List.cons_append, List.append_nil, hk_8, hk_9, Nat.reduceAdd, Nat.reduceEqDiff, ↓reduceIte, cond_true, cond_false] at h ⊢
        exact W.alloc ty57 rfl rfl (fun b => h (b, undef) _ (by (exact (List.perm_middle (l₁ := [_, _, _, _, _, _])).symm)))
      refine DM.eff0 (fun e c hk L_ hs Q h => ?_) ?_
      · have hk_9 := hk.not
        have hk_8 := hk.up 8 (by kernel_rfl)
        simp only [addE, upd, eq_self, List.nil_append, List.cons_append, List.append_nil, hk_9, hk_8, Nat.reduceAdd, Nat.reduceEqDiff, ↓reduceIte, cond_true, cond_false] at h ⊢
        ((refine W.stb 6 (.t (hs _ _ rfl)) (.t (hs _ _ rfl)) rfl ty57 rfl rfl rfl ?_; exact h))
      refine DM.nil (fun cc e_ he_ => ?_)
      simp only [he_ 8 (by decide), he_ 9 (by decide), cond_true, cond_false]
      generalize (cc 8).1 = b12
      refine W.then ?_
      refine W.seq ?_
      refine W.region ?_
      refine W.q (Ev.move (.t rfl)) rfl ?_
      (refine W.q (Ev.ldbn 6 (.t rfl) rfl ag57 ty57 rfl) rfl ?_)
      refine W.conv (t := 39) (av' := .lit (pv s)) rfl (fun _ _ _ h => Rep.pv h) ?_
      (refine W.q (Ev.look2 3 (.t rfl) rfl (.t rfl) Tryz.underlying74 kp57 ty3) rfl ?_)
      refine W.q (Ev.move (.t rfl)) rfl ?_
      refine W.q (Ev.extract (.t rfl) rfl) rfl ?_
      refine W.q (Ev.extract (.t rfl) rfl) rfl ?_
      refine W.q (Ev.assign (.t rfl)) rfl ?_
      refine W.q (Ev.assign (.t rfl)) rfl ?_
      refine W.nil ?_
      refine W.then ?_
      refine W.seq ?_
      refine W.seq ?_
      refine W.region ?_
      refine W.q (Ev.move (.t rfl)) rfl ?_
      refine W.q (Ev.not (.t rfl)) rfl ?_
      refine W.nil ?_
      refine W.then ?_
      refine W.cond (.t rfl) (fun hc_t44 => ?_) (fun hc_t44 => ?_)
      · have hnew : s ∉ all := by
          rw [← place_none]
          cases hp : place s all with
          | none => rfl
          | some j => rw [hp] at hc_t44; simp at hc_t44
        refine W.seq ?_
        refine W.region ?_
        refine W.q (Ev.move (.t rfl)) rfl ?_
        (refine W.q (Ev.lenar (i := 2) (.t rfl) rfl Tryz.underlying51) rfl ?_)
        refine W.is (t := 46) (g := true) (av' := .int (all.length : Int)) rfl (by rw [List.length_map]) ?_
        refine W.q (Ev.assign (.t rfl)) rfl ?_
        refine W.nil ?_
        refine W.then ?_
        refine W.seq ?_
        refine W.region ?_
        refine W.q (Ev.move (.t rfl)) rfl ?_
        (refine W.q (Ev.ldbn 6 (.t rfl) rfl ag57 ty57 rfl) rfl ?_)
        refine W.q (Ev.move (.t rfl)) rfl ?_
        refine W.conv (t := 48) (av' := .lit (pv s)) rfl (fun _ _ _ h => Rep.pv h) ?_
        refine W.mapnew 3 (ks := all) (k := s) (f := pv) (.t rfl) rfl (.t rfl) (.t rfl) Tryz.underlying74 kp57 hnew _ (.inl rfl) ?_
        refine W.nil ?_
        refine W.then ?_
        refine W.region ?_
        refine W.q (Ev.move (.t rfl)) rfl ?_
        (refine W.q (Ev.ldbn 6 (.t rfl) rfl ag57 ty57 rfl) rfl ?_)
        refine W.bs (es := [_]) Tryz.underlying51 ty57 ⟨rfl, (.t rfl), rfl, rfl, trivial⟩ rfl (by decide) rfl rfl ?_
        (refine W.app 2 (.t rfl) rfl (.sl (.t rfl) (by intro e he; rw [List.mem_singleton.1 he]; rfl)) Tryz.underlying51 ni51 ty57 rfl rfl (by rw [List.length_map]; simp only [List.length_cons, List.length_nil]; omega) rfl ?_)
        intro v53
        refine W.q (Ev.assign (.t rfl)) rfl ?_
        refine W.nil ?_
        refine W.then ?_
        refine W.region ?_
        refine W.q (Ev.move (.t rfl)) rfl ?_
        refine W.q (Ev.move (.t rfl)) rfl ?_
        refine W.q (Ev.boxat (.t rfl) (.t rfl) Tryz.underlying75 ty3 (fun _ => ⟨by omega, by omega⟩)) rfl ?_
        refine W.stb 0 (o := n) (.t rfl) (.t rfl) rfl ty3 rfl rfl (Nat.ble_eq_true_of_le (by show n + 1 ≤ 8; omega)) ?_
        refine W.nil ?_
        refine W.blk_normal ?_
        refine W.then ?_
        refine W.region ?_
        (refine W.q (Ev.add (.t rfl) .k (fun _ => by omega)) rfl ?_)
        refine W.q (Ev.move (.t rfl)) rfl ?_
        refine W.nil ?_
        refine W.then ?_
        have h9 := Au.Prb.new hsa hsb (hR.entd all.length) hlt hn8 (Au.setT_at T i n all.length) (by rw [hse]; exact hnew)
        rw [hse] at h9
        refine W.reach (D := [.box b12 57 [.int s.1, .int s.2]]) (n + 1, all ++ [s], Au.setT T i n all.length, _) ⟨rfl, rfl, rfl, rfl, rfl, rfl, rfl, rfl, trivial⟩ ?_ ⟨⟨h9, by show i < (all ++ [s]).length; rw [List.length_append]; omega, hn8⟩, by show 8 - (n + 1) < 8 - n; omega⟩
        dsimp only
        rw [← Au.rowU_step T i n all.length hn8, ← prav_snoc, Au.rows_set]
        exact List.Perm.refl _
      · obtain ⟨j, hj⟩ : ∃ j, place s all = some j := by
          cases hp : place s all with
          | none => rw [hp] at hc_t44; simp at hc_t44
          | some j => exact ⟨j, rfl⟩
        have hjl := place_lt hj
        have hjg := place_some hj
        refine W.is (t := 13) (g := true) (av' := .int (j : Int)) rfl (by rw [hj]; rfl) ?_
        refine W.skip ?_
        refine W.then ?_
        refine W.region ?_
        refine W.q (Ev.move (.t rfl)) rfl ?_
        refine W.q (Ev.move (.t rfl)) rfl ?_
        refine W.q (Ev.boxat (.t rfl) (.t rfl) Tryz.underlying75 ty3 (fun _ => ⟨by omega, by omega⟩)) rfl ?_
        refine W.stb 0 (o := n) (.t rfl) (.t rfl) rfl ty3 rfl rfl (Nat.ble_eq_true_of_le (by show n + 1 ≤ 8; omega)) ?_
        refine W.nil ?_
        refine W.blk_normal ?_
        refine W.then ?_
        refine W.region ?_
        (refine W.q (Ev.add (.t rfl) .k (fun _ => by omega)) rfl ?_)
        refine W.q (Ev.move (.t rfl)) rfl ?_
        refine W.nil ?_
        refine W.then ?_
        have h9 := (hR.entd j).old (by rw [Au.setT_at]; exact hjl) (by rw [Au.setT_at, hse, List.getD_eq_getElem?_getD, hjg]; rfl)
        refine W.reach (D := [.box b12 57 [.int s.1, .int s.2]]) (n + 1, all, Au.setT T i n j, _) ⟨rfl, rfl, rfl, rfl, rfl, rfl, rfl, rfl, trivial⟩ ?_ ⟨⟨h9, hlt, hn8⟩, by show 8 - (n + 1) < 8 - n; omega⟩
        dsimp only
        rw [← Au.rowU_step T i n j hn8, Au.rows_set]
        exact List.Perm.refl _
    · subst hn8
      rw [Au.rowU_done]
      refine W.seq ?_
      refine W.region ?_
      refine W.q (Ev.lti (.t rfl) .k) rfl ?_
      refine W.nil ?_
      refine W.then ?_
      refine W.seq ?_
      refine W.is (t := 27) (g := true) (av' := .lit (.bool false)) rfl (congrArg (fun b => AV.lit (.bool b)) (by simp)) ?_
      refine W.condF (.t rfl) ?_
      refine W.exit ?_
      refine W.then_exit ?_
      refine W.then_exit ?_
      refine W.blk_hit ?_
      refine W.then ?_
      refine W.region ?_
      refine W.q (Ev.move (.t rfl)) rfl ?_
      (refine W.q (Ev.ldbn 0 (.t rfl) rfl ag75 ty75 rfl) rfl ?_)
      refine W.bs (es := [_]) Tryz.underlying52 ty75 ⟨rfl, (.t rfl), rfl, rfl, trivial⟩ rfl (by decide) rfl rfl ?_
      (refine W.app 1 (.t rfl) rfl (.sl (.t rfl) (by intro e he; rw [List.mem_singleton.1 he]; rfl)) Tryz.underlying52 ni52 ty75 rfl rfl (by rw [List.length_map, List.length_range]; simp only [List.length_cons, List.length_nil]; omega) rfl ?_)
      intro v61
      refine W.q (Ev.assign (.t rfl)) rfl ?_
      refine W.nil ?_
      refine W.blk_normal ?_
      refine W.then ?_
      refine W.region ?_
      refine W.q (Ev.move (.t rfl)) rfl ?_
      (refine W.q (Ev.add (.t rfl) .k (fun _ => by omega)) rfl ?_)
      refine W.q (Ev.assign (.t rfl)) rfl ?_
      refine W.nil ?_
      refine W.then ?_
      refine W.reach (D := [.box b10 75 (row8 fun d => (T i d : Int))]) (i + 1, all, T, v7, _) ⟨rfl, rfl, rfl, rfl, rfl, rfl, trivial⟩ ?_ ⟨⟨hR.row, hlt⟩, by show 1681 - (i + 1) < 1681 - i; omega⟩
      dsimp only
      rw [← rows_snoc i (fun k c => (T k c : Int))]
      exact (List.perm_append_comm (l₁ := [_]))
  · subst hend
    refine W.seq ?_
    refine W.seq ?_
    refine W.region ?_
    refine W.q (Ev.move (.t rfl)) rfl ?_
    refine W.q (Ev.move (.t rfl)) rfl ?_
    (refine W.q (Ev.lenar (i := 1) (.t rfl) rfl Tryz.underlying51) rfl ?_)
    refine W.q (Ev.lti (.t rfl) (.t rfl)) rfl ?_
    refine W.nil ?_
    refine W.then ?_
    refine W.is (t := 23) (g := true) (av' := .lit (.bool false)) rfl (congrArg (fun b => AV.lit (.bool b)) (by exact decide_eq_false (by omega))) ?_
    refine W.condF (.t rfl) ?_
    refine W.exit ?_
    refine W.then_exit ?_
    refine W.then_exit ?_
    refine W.blk_hit ?_
    refine W.then ?_
    refine W.seq ?_
    refine W.region ?_
    refine W.q (Ev.move (.t rfl)) rfl ?_
    refine W.q (Ev.move (.t rfl)) rfl ?_
    refine W.q (Ev.assign (.t rfl)) rfl ?_
    refine W.q (Ev.assign (.t rfl)) rfl ?_
    refine W.nil ?_
    refine W.then ?_
    refine W.ret ?_
    refine W.retn (M' := [_, _]) (D := _) (rs := [.tmp 4, .tmp 5]) (avs := [_, _]) Tryz.results18 ⟨rfl, rfl, trivial⟩ rfl (.refl _) ?_
    exact ⟨_, _, all, T, hR.done (Nat.le_refl _), hR.len, rfl, rfl⟩

end WPairs

end Go.Proofs.YtacaemfkdieocaaGreatDoor
end

section
set_option linter.unusedVariables false
set_option linter.unusedSimpArgs false
set_option maxRecDepth 100000
namespace Go.Proofs.YtacaemfkdieocaaGreatDoor
open Go.Vl

namespace WFinal
theorem ty4 : Ty Tryz.prog 4 1 1 (.bool false) := Ty.of (by kernel_rfl)
theorem ty26 : Ty Tryz.prog 26 1 24 (.slice none 0 0) := Ty.of (by kernel_rfl)
theorem ag4 : IsAgg Tryz.prog 4 false := ⟨_, Tryz.underlying4, rfl⟩
theorem ag26 : IsAgg Tryz.prog 26 false := ⟨_, Tryz.underlying26, rfl⟩
theorem fa28_1 : FieldAt Tryz.prog 28 1 1 1 false := ⟨_, _, Tryz.underlying28, rfl, rfl, ty26.size, ag26, by decide⟩
theorem c_final (a : Au) (hs : a.Shape) (hn : a.next.length ≤ 40) (i : Int) (hi : i < a.next.length) : FnP Tryz.prog 21 [.agg [.sl 1 (a.next.map pav), .sl 1 (a.final.map AV.bool)], .int i] (.bool (a.fin i)) :=  by
  refine FnC.mk Tryz.func21 (by kernel_rfl) rfl Tryz.ntmps21 rfl (fun w0 F => ?_)
  have hfl : (a.final.map AV.bool).length = a.final.length := List.length_map ..
  have hfin := hs.fin
  refine W.seq ?_
  refine W.region ?_
  refine W.box (.t rfl) rfl rfl ?_
  intro b2
  refine W.q (Ev.assign .k) rfl ?_
  refine W.nil ?_
  refine W.then ?_
  refine W.seq ?_
  refine W.region ?_
  refine W.q (Ev.move (.t rfl)) rfl ?_
  refine W.q (Ev.gei (.t rfl) .k) rfl ?_
  refine W.q (Ev.move (.t rfl)) rfl ?_
  (refine W.qgT rfl rfl (Ev.fab (.t rfl) fa28_1) rfl ?_)
  (refine W.qgT rfl rfl (Ev.ldb1 0 (.c rfl) rfl ag26 rfl) rfl ?_)
  refine W.qgT rfl rfl (Ev.move (.t rfl)) rfl ?_
  refine W.qgT rfl rfl (Ev.at (E := 4) (.c rfl) (.c rfl) Tryz.underlying26 ty4 (fun hg => ⟨by simp at hg; omega, getD_mapG AV.bool false a.final i.toNat (by simp at hg; omega)⟩) rfl rfl) rfl ?_
  (refine W.qgT rfl rfl (Ev.lde1 (.c rfl) ag4) rfl ?_)
  refine W.q (Ev.and (.t rfl) ⟨_, _, rfl, rfl, by ((simp; done))⟩) rfl ?_
  refine W.q (Ev.assign (.t rfl)) rfl ?_
  refine W.nil ?_
  refine W.then ?_
  refine W.ret ?_
  refine W.retn (M' := []) (D := _) (rs := [.tmp 4]) (avs := [_]) Tryz.results21 ⟨rfl, trivial⟩ rfl (.refl _) ?_
  exact ⟨rfl, rfl⟩

end WFinal

end Go.Proofs.YtacaemfkdieocaaGreatDoor
end
