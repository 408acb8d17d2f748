/-
  What the laws draw, and how they compare.
-/
import Derived.Test.YtofmjmicgddljaaDraw
import Derived.Test.YtofmjmicgddljaaBase
import Derived.Test.YtofmjmicgddljaaArr
import Derived.Test.YtofmjmicgddljaaUtfLaw
set_option linter.unusedVariables false
set_option linter.unusedSimpArgs false
set_option maxRecDepth 100000
namespace Go.Proofs.Ytofmjmicgddljaa
open Go.Vl

namespace WLet
theorem ty3 : Ty Try.prog 3 1 8 (.int .i64 0) := Ty.of (by kernel_rfl)
theorem ag3 : IsAgg Try.prog 3 false := ⟨_, Try.underlying3, rfl⟩
theorem ni22 : NotInt Try.prog 22 := .inl ⟨_, Try.underlying22⟩
theorem c_sameInts (a b : List Int) (ha : a.length ≤ 1099511627776) : FnP Try.prog 23 [.sl 1 (a.map AV.int), .sl 1 (b.map AV.int)] (.bool (decide (a = b))) :=  by
  refine FnC.mk Try.func23 (by kernel_rfl) rfl Try.ntmps23 rfl (fun w0 F => ?_)
  have hla : (a.map AV.int).length = a.length := List.length_map ..
  have hlb : (b.map AV.int).length = b.length := List.length_map ..
  refine W.seq ?_
  refine W.region ?_
  refine W.q (Ev.assign .k) rfl ?_
  refine W.nil ?_
  refine W.then ?_
  refine W.seq ?_
  refine W.seq ?_
  refine W.region ?_
  refine W.q (Ev.move (.t rfl)) rfl ?_
  first | refine W.q (Ev.lensl (.t rfl) Try.underlying22) rfl ?_ | refine W.q (Ev.lenar 0 (.t rfl) rfl Try.underlying22) rfl ?_ | refine W.q (Ev.lenar 1 (.t rfl) rfl Try.underlying22) rfl ?_ | refine W.q (Ev.lenar 2 (.t rfl) rfl Try.underlying22) rfl ?_ | refine W.q (Ev.lenar 3 (.t rfl) rfl Try.underlying22) rfl ?_
  refine W.q (Ev.move (.t rfl)) rfl ?_
  first | refine W.q (Ev.lensl (.t rfl) Try.underlying22) rfl ?_ | refine W.q (Ev.lenar 0 (.t rfl) rfl Try.underlying22) rfl ?_ | refine W.q (Ev.lenar 1 (.t rfl) rfl Try.underlying22) rfl ?_ | refine W.q (Ev.lenar 2 (.t rfl) rfl Try.underlying22) rfl ?_ | refine W.q (Ev.lenar 3 (.t rfl) rfl Try.underlying22) rfl ?_
  refine W.q (Ev.nei (.t rfl) (.t rfl)) rfl ?_
  refine W.nil ?_
  refine W.then ?_
  refine W.cond (.t rfl) (fun hc_t10 => ?_) (fun hc_t10 => ?_)
  · have hne : a ≠ b := by rintro rfl; simp at hc_t10
    refine W.seq ?_
    refine W.region ?_
    refine W.q (Ev.assign .k) rfl ?_
    refine W.nil ?_
    refine W.then ?_
    refine W.ret ?_
    refine W.then_ret ?_
    refine W.retn (M' := []) (rs := [.tmp 4]) (avs := [_]) Try.results23 ⟨rfl, trivial⟩ rfl (.refl _) ?_
    first | exact ⟨congrArg AV.bool (decide_eq_false hne).symm, rfl⟩ | exact ⟨congrArg AV.bool (decide_eq_true heq).symm, rfl⟩
  · have hlen : a.length = b.length := by simp at hc_t10; omega
    refine W.skip ?_
    refine W.then ?_
    refine W.seq ?_
    refine W.seq ?_
    refine W.region ?_
    refine W.q (Ev.assign .k) rfl ?_
    refine W.nil ?_
    refine W.then ?_
    refine W.block ?_
    refine W.loop (D := []) (ι := Nat) (fun i => [(5, true, .int (i : Int)), (0, true, .sl 1 (a.map AV.int)), (1, true, .sl 1 (b.map AV.int))]) (fun _ => []) (fun i => i ≤ a.length ∧ ∀ j, j < i → a[j]? = b[j]?) (fun i => a.length - i) 0 ⟨rfl, rfl, rfl, trivial⟩ (.refl _) ⟨Nat.zero_le _, by intro j hj; omega⟩ ?_
    rintro i ⟨hi1, hi2⟩
    dsimp only at hi1 hi2 ⊢
    refine W.seq ?_
    refine W.seq ?_
    refine W.region ?_
    refine W.q (Ev.move (.t rfl)) rfl ?_
    refine W.q (Ev.move (.t rfl)) rfl ?_
    first | refine W.q (Ev.lensl (.t rfl) Try.underlying22) rfl ?_ | refine W.q (Ev.lenar 0 (.t rfl) rfl Try.underlying22) rfl ?_ | refine W.q (Ev.lenar 1 (.t rfl) rfl Try.underlying22) rfl ?_ | refine W.q (Ev.lenar 2 (.t rfl) rfl Try.underlying22) rfl ?_ | refine W.q (Ev.lenar 3 (.t rfl) rfl Try.underlying22) rfl ?_
    refine W.q (Ev.lti (.t rfl) (.t rfl)) rfl ?_
    refine W.nil ?_
    refine W.then ?_
    refine W.cond (.t rfl) (fun hc_t14 => ?_) (fun hc_t14 => ?_)
    · have hlt : i < a.length := by simp at hc_t14; omega
      refine W.skip ?_
      refine W.then ?_
      refine W.seq ?_
      refine W.block ?_
      refine W.seq ?_
      refine W.drawn (by kernel_rfl) (by kernel_rfl) ?_
      have hga : (a.map AV.int)[i]? = some (AV.int a[i]) := by rw [List.getElem?_map, List.getElem?_eq_getElem hlt]; rfl
      have hgb : (b.map AV.int)[i]? = some (AV.int (b[i]'(by omega))) := by rw [List.getElem?_map, List.getElem?_eq_getElem (by omega)]; rfl
      refine DP.q (Ev.move (.t rfl)) rfl ?_
      refine DP.q (Ev.move (.t rfl)) rfl ?_
      refine DP.q (Ev.at (E := 3) (.t rfl) (.t rfl) Try.underlying22 ty3 (fun _ => ⟨by omega, hga⟩) rfl rfl) rfl ?_
      first | refine DP.q (Ev.lde1 (.t rfl) ag3) rfl ?_ | refine DP.q (Ev.ldb1 0 (.t rfl) rfl ag3 rfl) rfl ?_ | refine DP.q (Ev.ldb1 1 (.t rfl) rfl ag3 rfl) rfl ?_ | refine DP.q (Ev.ldb1 2 (.t rfl) rfl ag3 rfl) rfl ?_ | refine DP.q (Ev.ldb1 3 (.t rfl) rfl ag3 rfl) rfl ?_
      refine DP.q (Ev.move (.t rfl)) rfl ?_
      refine DP.q (Ev.move (.t rfl)) rfl ?_
      refine DP.q (Ev.at (E := 3) (.t rfl) (.t rfl) Try.underlying22 ty3 (fun _ => ⟨by omega, hgb⟩) rfl rfl) rfl ?_
      first | refine DP.q (Ev.lde1 (.t rfl) ag3) rfl ?_ | refine DP.q (Ev.ldb1 0 (.t rfl) rfl ag3 rfl) rfl ?_ | refine DP.q (Ev.ldb1 1 (.t rfl) rfl ag3 rfl) rfl ?_ | refine DP.q (Ev.ldb1 2 (.t rfl) rfl ag3 rfl) rfl ?_ | refine DP.q (Ev.ldb1 3 (.t rfl) rfl ag3 rfl) rfl ?_
      refine DP.q (Ev.nei (.t rfl) (.t rfl)) rfl ?_
      refine DP.nil ?_
      refine W.then ?_
      refine W.cond (.t rfl) (fun hc_t25 => ?_) (fun hc_t25 => ?_)
      · have hne : a ≠ b := by rintro rfl; simp at hc_t25
        refine W.seq ?_
        refine W.region ?_
        refine W.q (Ev.assign .k) rfl ?_
        refine W.nil ?_
        refine W.then ?_
        refine W.ret ?_
        refine W.blk_ret ?_
        refine W.then_ret ?_
        refine W.then_ret ?_
        refine W.blk_ret ?_
        refine W.then_ret ?_
        refine W.retn (M' := []) (rs := [.tmp 4]) (avs := [_]) Try.results23 ⟨rfl, trivial⟩ rfl (.refl _) ?_
        first | exact ⟨congrArg AV.bool (decide_eq_false hne).symm, rfl⟩ | exact ⟨congrArg AV.bool (decide_eq_true heq).symm, rfl⟩
      · have hsame : a[i]? = b[i]? := by simp at hc_t25; rw [List.getElem?_eq_getElem hlt, List.getElem?_eq_getElem (by omega), hc_t25]
        refine W.skip ?_
        refine W.blk_normal ?_
        refine W.then ?_
        refine W.region ?_
        refine W.q (Ev.move (.t rfl)) rfl ?_
        first | refine W.q (Ev.add (.t rfl) .k (fun _ => by omega)) rfl ?_ | refine W.q (Ev.addw (.t rfl) .k) rfl ?_
        refine W.q (Ev.assign (.t rfl)) rfl ?_
        refine W.nil ?_
        refine W.then ?_
        refine W.reach (D := []) (i + 1) ⟨rfl, rfl, rfl, trivial⟩ (.refl _) ⟨⟨by omega, fun j hj => ?_⟩, by omega⟩
        rcases Nat.lt_or_ge j i with h | h
        · exact hi2 j h
        · obtain rfl : j = i := by omega
          exact hsame
    · have hge : i = a.length := by simp at hc_t14; omega
      have heq : a = b := List.ext_getElem? (fun j => by cases Nat.lt_or_ge j a.length with | inl h => exact hi2 j (by omega) | inr h => rw [List.getElem?_eq_none h, List.getElem?_eq_none (by omega)])
      refine W.exit ?_
      refine W.then_exit ?_
      refine W.then_exit ?_
      refine W.blk_hit ?_
      refine W.then ?_
      refine W.seq ?_
      refine W.region ?_
      refine W.q (Ev.assign .k) rfl ?_
      refine W.nil ?_
      refine W.then ?_
      refine W.ret ?_
      refine W.retn (M' := []) (rs := [.tmp 4]) (avs := [_]) Try.results23 ⟨rfl, trivial⟩ rfl (.refl _) ?_
      first | exact ⟨congrArg AV.bool (decide_eq_false hne).symm, rfl⟩ | exact ⟨congrArg AV.bool (decide_eq_true heq).symm, rfl⟩

theorem c_Letters (l : List Int) (n : Nat) (hl : l.length ≤ 1099511627776) (hn : n ≤ 1000) : FnP Try.prog 21 [.sl 1 (l.map AV.int), .int (n : Int)] (.sl 1 (((l.take n).map letterOf).map AV.int)) :=  by
  refine FnC.mk Try.func21 (by kernel_rfl) rfl Try.ntmps21 rfl (fun w0 F => ?_)
  have hll : (l.map AV.int).length = l.length := List.length_map ..
  refine W.seq ?_
  refine W.region ?_
  refine W.q (Ev.assign .k) rfl ?_
  refine W.nil ?_
  refine W.then ?_
  refine W.seq ?_
  refine W.region ?_
  refine W.q (Ev.assign .k) rfl ?_
  refine W.nil ?_
  refine W.then ?_
  refine W.seq ?_
  refine W.seq ?_
  refine W.region ?_
  refine W.q (Ev.assign .k) rfl ?_
  refine W.nil ?_
  refine W.then ?_
  refine W.block ?_
  refine W.own_nil 3 1 ?_
  refine W.loop (D := []) (ι := Nat × List AV × Value) (fun z => [(6, true, .int (z.1 : Int)), (0, true, .sl 1 (l.map AV.int)), (1, true, .int (n : Int)), (5, true, .lit z.2.2)]) (fun z => [.arr z.2.2 3 1 z.2.1]) (fun z => z.1 ≤ l.length ∧ z.1 ≤ n ∧ z.2.1 = ((l.take z.1).map letterOf).map AV.int) (fun z => l.length - z.1) (0, [], .slice none 0 0) ⟨rfl, rfl, rfl, rfl, trivial⟩ (.refl _) ⟨Nat.zero_le _, Nat.zero_le _, rfl⟩ ?_
  rintro ⟨i, es, v⟩ ⟨hi1, hi2, hi3⟩
  dsimp only at hi1 hi2 hi3 ⊢
  have hel : es.length = i := by rw [hi3, List.length_map, List.length_map, List.length_take]; omega
  refine W.seq ?_
  refine W.seq ?_
  refine W.region ?_
  refine W.q (Ev.move (.t rfl)) rfl ?_
  refine W.q (Ev.move (.t rfl)) rfl ?_
  first | refine W.q (Ev.lensl (.t rfl) Try.underlying22) rfl ?_ | refine W.q (Ev.lenar 0 (.t rfl) rfl Try.underlying22) rfl ?_ | refine W.q (Ev.lenar 1 (.t rfl) rfl Try.underlying22) rfl ?_ | refine W.q (Ev.lenar 2 (.t rfl) rfl Try.underlying22) rfl ?_ | refine W.q (Ev.lenar 3 (.t rfl) rfl Try.underlying22) rfl ?_
  refine W.q (Ev.lti (.t rfl) (.t rfl)) rfl ?_
  refine W.q (Ev.move (.t rfl)) rfl ?_
  refine W.qgT rfl rfl (Ev.move (.t rfl)) rfl ?_
  refine W.qgT rfl rfl (Ev.move (.t rfl)) rfl ?_
  refine W.qgT rfl rfl (Ev.lti (.c rfl) (.c rfl)) rfl ?_
  refine W.q (Ev.and (.t rfl) ⟨_, _, rfl, rfl, by simp⟩) rfl ?_
  refine W.nil ?_
  refine W.then ?_
  refine W.cond (.t rfl) (fun hc_t16 => ?_) (fun hc_t16 => ?_)
  · have hlt : i < l.length ∧ i < n := by simp at hc_t16; omega
    have hga : (l.map AV.int)[i]? = some (AV.int (l[i]'hlt.1)) := by rw [List.getElem?_map, List.getElem?_eq_getElem hlt.1]; rfl
    generalize hz : l[i]'hlt.1 = z at hga
    have hp5 := pick5_pos (IntKind.i64.wrap (z.tdiv 7) % 5)
    have hg5 := pick5_get (IntKind.i64.wrap (z.tdiv 7))
    have hle : letterOf z = if 55296 ≤ letter0 z ∧ letter0 z ≤ 57343 then 65 else letter0 z := rfl
    refine W.skip ?_
    refine W.then ?_
    refine W.seq ?_
    refine W.block ?_
    refine W.seq ?_
    refine W.drawn (by kernel_rfl) (by kernel_rfl) ?_
    refine DP.q (Ev.move (.t rfl)) rfl ?_
    refine DP.q (Ev.move (.t rfl)) rfl ?_
    refine DP.q (Ev.at (E := 3) (.t rfl) (.t rfl) Try.underlying22 ty3 (fun _ => ⟨by omega, hga⟩) rfl rfl) rfl ?_
    first | refine DP.q (Ev.lde1 (.t rfl) ag3) rfl ?_ | refine DP.q (Ev.ldb1 0 (.t rfl) rfl ag3 rfl) rfl ?_ | refine DP.q (Ev.ldb1 1 (.t rfl) rfl ag3 rfl) rfl ?_ | refine DP.q (Ev.ldb1 2 (.t rfl) rfl ag3 rfl) rfl ?_ | refine DP.q (Ev.ldb1 3 (.t rfl) rfl ag3 rfl) rfl ?_
    refine DP.bs (es := [_, _, _, _, _]) Try.underlying22 ty3 ⟨rfl, .k, rfl, rfl, rfl, .k, rfl, rfl, rfl, .k, rfl, rfl, rfl, .k, rfl, rfl, rfl, .k, rfl, rfl, trivial⟩ rfl (by decide) rfl rfl ?_
    refine DP.q (Ev.move (.t rfl)) rfl ?_
    refine DP.q (Ev.move (.t rfl)) rfl ?_
    refine DP.q (Ev.at (E := 3) (.t rfl) (.t rfl) Try.underlying22 ty3 (fun _ => ⟨by omega, hga⟩) rfl rfl) rfl ?_
    first | refine DP.q (Ev.lde1 (.t rfl) ag3) rfl ?_ | refine DP.q (Ev.ldb1 0 (.t rfl) rfl ag3 rfl) rfl ?_ | refine DP.q (Ev.ldb1 1 (.t rfl) rfl ag3 rfl) rfl ?_ | refine DP.q (Ev.ldb1 2 (.t rfl) rfl ag3 rfl) rfl ?_ | refine DP.q (Ev.ldb1 3 (.t rfl) rfl ag3 rfl) rfl ?_
    first | refine DP.q (Ev.quo (.t rfl) .k (fun _ => by decide)) rfl ?_ | refine DP.q (Ev.quo (.t rfl) .k (fun _ => by omega)) rfl ?_
    refine DP.callp (Base.c_Picked (IntKind.i64.wrap (z.tdiv 7)) 5 (by decide) (by decide)) ⟨(.t rfl), .k, trivial⟩ rfl ?_
    refine DP.q (Ev.at (E := 3) (.t rfl) (.t rfl) Try.underlying22 ty3 (fun _ => ⟨Int.emod_nonneg _ (by decide), hg5⟩) rfl rfl) rfl ?_
    first | refine DP.q (Ev.lde1 (.t rfl) ag3) rfl ?_ | refine DP.q (Ev.ldb1 0 (.t rfl) rfl ag3 rfl) rfl ?_ | refine DP.q (Ev.ldb1 1 (.t rfl) rfl ag3 rfl) rfl ?_ | refine DP.q (Ev.ldb1 2 (.t rfl) rfl ag3 rfl) rfl ?_ | refine DP.q (Ev.ldb1 3 (.t rfl) rfl ag3 rfl) rfl ?_
    refine DP.callp (Base.c_Picked z (pick5 (IntKind.i64.wrap (z.tdiv 7) % 5)) hp5.1 (by omega)) ⟨(.t rfl), (.t rfl), trivial⟩ rfl ?_
    refine DP.q (Ev.assign (.t rfl)) rfl ?_
    refine DP.nil ?_
    refine W.then ?_
    refine W.seq ?_
    refine W.seq ?_
    refine W.region ?_
    refine W.q (Ev.move (.t rfl)) rfl ?_
    refine W.q (Ev.gei (.t rfl) .k) rfl ?_
    refine W.q (Ev.move (.t rfl)) rfl ?_
    refine W.qgT rfl rfl (Ev.move (.t rfl)) rfl ?_
    refine W.qgT rfl rfl (Ev.lei (.c rfl) .k) rfl ?_
    refine W.q (Ev.and (.t rfl) ⟨_, _, rfl, rfl, by simp⟩) rfl ?_
    refine W.nil ?_
    refine W.then ?_
    refine W.cond (.t rfl) (fun hc_t38 => ?_) (fun hc_t38 => ?_)
    · have hy : (65 : Int) = letterOf z := by rw [hle, if_pos]; simp only [Bool.and_eq_true, decide_eq_true_eq] at hc_t38; exact hc_t38
      refine W.region ?_
      refine W.q (Ev.assign .k) rfl ?_
      refine W.nil ?_
      refine W.then ?_
      refine W.region ?_
      refine W.q (Ev.move (.t rfl)) rfl ?_
      refine W.q (Ev.move (.t rfl)) rfl ?_
      refine W.bs (es := [_]) Try.underlying22 ty3 ⟨rfl, (.t rfl), rfl, rfl, trivial⟩ rfl (by decide) rfl rfl ?_
      first | refine W.app 0 (.t rfl) rfl (.sl (.t rfl) (by simp [AV.okc, shV])) Try.underlying22 ni22 ty3 rfl rfl (by simp; omega) rfl ?_ | refine W.app 1 (.t rfl) rfl (.sl (.t rfl) (by simp [AV.okc, shV])) Try.underlying22 ni22 ty3 rfl rfl (by simp; omega) rfl ?_ | refine W.app 2 (.t rfl) rfl (.sl (.t rfl) (by simp [AV.okc, shV])) Try.underlying22 ni22 ty3 rfl rfl (by simp; omega) rfl ?_ | refine W.app 3 (.t rfl) rfl (.sl (.t rfl) (by simp [AV.okc, shV])) Try.underlying22 ni22 ty3 rfl rfl (by simp; omega) rfl ?_ | refine W.app 0 (.t rfl) rfl (.arr 0 (.t rfl) rfl (by simp [AV.okc, shV])) Try.underlying22 ni22 ty3 rfl rfl (by simp; omega) rfl ?_ | refine W.app 0 (.t rfl) rfl (.arr 1 (.t rfl) rfl (by simp [AV.okc, shV])) Try.underlying22 ni22 ty3 rfl rfl (by simp; omega) rfl ?_ | refine W.app 0 (.t rfl) rfl (.arr 2 (.t rfl) rfl (by simp [AV.okc, shV])) Try.underlying22 ni22 ty3 rfl rfl (by simp; omega) rfl ?_ | refine W.app 0 (.t rfl) rfl (.arr 3 (.t rfl) rfl (by simp [AV.okc, shV])) Try.underlying22 ni22 ty3 rfl rfl (by simp; omega) rfl ?_ | refine W.app 1 (.t rfl) rfl (.arr 0 (.t rfl) rfl (by simp [AV.okc, shV])) Try.underlying22 ni22 ty3 rfl rfl (by simp; omega) rfl ?_ | refine W.app 1 (.t rfl) rfl (.arr 1 (.t rfl) rfl (by simp [AV.okc, shV])) Try.underlying22 ni22 ty3 rfl rfl (by simp; omega) rfl ?_ | refine W.app 1 (.t rfl) rfl (.arr 2 (.t rfl) rfl (by simp [AV.okc, shV])) Try.underlying22 ni22 ty3 rfl rfl (by simp; omega) rfl ?_ | refine W.app 1 (.t rfl) rfl (.arr 3 (.t rfl) rfl (by simp [AV.okc, shV])) Try.underlying22 ni22 ty3 rfl rfl (by simp; omega) rfl ?_ | refine W.app 2 (.t rfl) rfl (.arr 0 (.t rfl) rfl (by simp [AV.okc, shV])) Try.underlying22 ni22 ty3 rfl rfl (by simp; omega) rfl ?_ | refine W.app 2 (.t rfl) rfl (.arr 1 (.t rfl) rfl (by simp [AV.okc, shV])) Try.underlying22 ni22 ty3 rfl rfl (by simp; omega) rfl ?_ | refine W.app 2 (.t rfl) rfl (.arr 2 (.t rfl) rfl (by simp [AV.okc, shV])) Try.underlying22 ni22 ty3 rfl rfl (by simp; omega) rfl ?_ | refine W.app 2 (.t rfl) rfl (.arr 3 (.t rfl) rfl (by simp [AV.okc, shV])) Try.underlying22 ni22 ty3 rfl rfl (by simp; omega) rfl ?_ | refine W.app 3 (.t rfl) rfl (.arr 0 (.t rfl) rfl (by simp [AV.okc, shV])) Try.underlying22 ni22 ty3 rfl rfl (by simp; omega) rfl ?_ | refine W.app 3 (.t rfl) rfl (.arr 1 (.t rfl) rfl (by simp [AV.okc, shV])) Try.underlying22 ni22 ty3 rfl rfl (by simp; omega) rfl ?_ | refine W.app 3 (.t rfl) rfl (.arr 2 (.t rfl) rfl (by simp [AV.okc, shV])) Try.underlying22 ni22 ty3 rfl rfl (by simp; omega) rfl ?_ | refine W.app 3 (.t rfl) rfl (.arr 3 (.t rfl) rfl (by simp [AV.okc, shV])) Try.underlying22 ni22 ty3 rfl rfl (by simp; omega) rfl ?_
      intro v42
      refine W.q (Ev.assign (.t rfl)) rfl ?_
      refine W.nil ?_
      refine W.blk_normal ?_
      refine W.then ?_
      refine W.region ?_
      refine W.q (Ev.move (.t rfl)) rfl ?_
      first | refine W.q (Ev.add (.t rfl) .k (fun _ => by omega)) rfl ?_ | refine W.q (Ev.addw (.t rfl) .k) rfl ?_
      refine W.q (Ev.assign (.t rfl)) rfl ?_
      refine W.nil ?_
      refine W.then ?_
      refine W.reach (D := []) (i + 1, es ++ [.int (letterOf z)], v42) ⟨rfl, rfl, rfl, rfl, trivial⟩ (by rw [← hy]; exact .refl _) ⟨⟨by omega, by omega, ?_⟩, by omega⟩
      show es ++ _ = _
      rw [hi3, List.take_add_one, List.getElem?_eq_getElem hlt.1, hz]; simp
    · have hy : letter0 z = letterOf z := by rw [hle, if_neg]; simp only [Bool.and_eq_false_iff, decide_eq_false_iff_not] at hc_t38; show ¬ (55296 ≤ letter0 z ∧ letter0 z ≤ 57343); unfold letter0; omega
      refine W.skip ?_
      refine W.then ?_
      refine W.region ?_
      refine W.q (Ev.move (.t rfl)) rfl ?_
      refine W.q (Ev.move (.t rfl)) rfl ?_
      refine W.bs (es := [_]) Try.underlying22 ty3 ⟨rfl, (.t rfl), rfl, rfl, trivial⟩ rfl (by decide) rfl rfl ?_
      first | refine W.app 0 (.t rfl) rfl (.sl (.t rfl) (by simp [AV.okc, shV])) Try.underlying22 ni22 ty3 rfl rfl (by simp; omega) rfl ?_ | refine W.app 1 (.t rfl) rfl (.sl (.t rfl) (by simp [AV.okc, shV])) Try.underlying22 ni22 ty3 rfl rfl (by simp; omega) rfl ?_ | refine W.app 2 (.t rfl) rfl (.sl (.t rfl) (by simp [AV.okc, shV])) Try.underlying22 ni22 ty3 rfl rfl (by simp; omega) rfl ?_ | refine W.app 3 (.t rfl) rfl (.sl (.t rfl) (by simp [AV.okc, shV])) Try.underlying22 ni22 ty3 rfl rfl (by simp; omega) rfl ?_ | refine W.app 0 (.t rfl) rfl (.arr 0 (.t rfl) rfl (by simp [AV.okc, shV])) Try.underlying22 ni22 ty3 rfl rfl (by simp; omega) rfl ?_ | refine W.app 0 (.t rfl) rfl (.arr 1 (.t rfl) rfl (by simp [AV.okc, shV])) Try.underlying22 ni22 ty3 rfl rfl (by simp; omega) rfl ?_ | refine W.app 0 (.t rfl) rfl (.arr 2 (.t rfl) rfl (by simp [AV.okc, shV])) Try.underlying22 ni22 ty3 rfl rfl (by simp; omega) rfl ?_ | refine W.app 0 (.t rfl) rfl (.arr 3 (.t rfl) rfl (by simp [AV.okc, shV])) Try.underlying22 ni22 ty3 rfl rfl (by simp; omega) rfl ?_ | refine W.app 1 (.t rfl) rfl (.arr 0 (.t rfl) rfl (by simp [AV.okc, shV])) Try.underlying22 ni22 ty3 rfl rfl (by simp; omega) rfl ?_ | refine W.app 1 (.t rfl) rfl (.arr 1 (.t rfl) rfl (by simp [AV.okc, shV])) Try.underlying22 ni22 ty3 rfl rfl (by simp; omega) rfl ?_ | refine W.app 1 (.t rfl) rfl (.arr 2 (.t rfl) rfl (by simp [AV.okc, shV])) Try.underlying22 ni22 ty3 rfl rfl (by simp; omega) rfl ?_ | refine W.app 1 (.t rfl) rfl (.arr 3 (.t rfl) rfl (by simp [AV.okc, shV])) Try.underlying22 ni22 ty3 rfl rfl (by simp; omega) rfl ?_ | refine W.app 2 (.t rfl) rfl (.arr 0 (.t rfl) rfl (by simp [AV.okc, shV])) Try.underlying22 ni22 ty3 rfl rfl (by simp; omega) rfl ?_ | refine W.app 2 (.t rfl) rfl (.arr 1 (.t rfl) rfl (by simp [AV.okc, shV])) Try.underlying22 ni22 ty3 rfl rfl (by simp; omega) rfl ?_ | refine W.app 2 (.t rfl) rfl (.arr 2 (.t rfl) rfl (by simp [AV.okc, shV])) Try.underlying22 ni22 ty3 rfl rfl (by simp; omega) rfl ?_ | refine W.app 2 (.t rfl) rfl (.arr 3 (.t rfl) rfl (by simp [AV.okc, shV])) Try.underlying22 ni22 ty3 rfl rfl (by simp; omega) rfl ?_ | refine W.app 3 (.t rfl) rfl (.arr 0 (.t rfl) rfl (by simp [AV.okc, shV])) Try.underlying22 ni22 ty3 rfl rfl (by simp; omega) rfl ?_ | refine W.app 3 (.t rfl) rfl (.arr 1 (.t rfl) rfl (by simp [AV.okc, shV])) Try.underlying22 ni22 ty3 rfl rfl (by simp; omega) rfl ?_ | refine W.app 3 (.t rfl) rfl (.arr 2 (.t rfl) rfl (by simp [AV.okc, shV])) Try.underlying22 ni22 ty3 rfl rfl (by simp; omega) rfl ?_ | refine W.app 3 (.t rfl) rfl (.arr 3 (.t rfl) rfl (by simp [AV.okc, shV])) Try.underlying22 ni22 ty3 rfl rfl (by simp; omega) rfl ?_
      intro v42
      refine W.q (Ev.assign (.t rfl)) rfl ?_
      refine W.nil ?_
      refine W.blk_normal ?_
      refine W.then ?_
      refine W.region ?_
      refine W.q (Ev.move (.t rfl)) rfl ?_
      first | refine W.q (Ev.add (.t rfl) .k (fun _ => by omega)) rfl ?_ | refine W.q (Ev.addw (.t rfl) .k) rfl ?_
      refine W.q (Ev.assign (.t rfl)) rfl ?_
      refine W.nil ?_
      refine W.then ?_
      refine W.reach (D := []) (i + 1, es ++ [.int (letterOf z)], v42) ⟨rfl, rfl, rfl, rfl, trivial⟩ (by rw [← hy]; exact .refl _) ⟨⟨by omega, by omega, ?_⟩, by omega⟩
      show es ++ _ = _
      rw [hi3, List.take_add_one, List.getElem?_eq_getElem hlt.1, hz]; simp
  · have hge : l.length ≤ i ∨ n ≤ i := by simp at hc_t16; omega
    refine W.exit ?_
    refine W.then_exit ?_
    refine W.then_exit ?_
    refine W.blk_hit ?_
    refine W.then ?_
    refine W.seq ?_
    refine W.region ?_
    refine W.q (Ev.move (.t rfl)) rfl ?_
    refine W.q (Ev.assign (.t rfl)) rfl ?_
    refine W.nil ?_
    refine W.then ?_
    refine W.ret ?_
    refine W.freeze (M1 := []) (M2 := []) (D := _) (v := v) (L' := [(4, true, .sl 1 es)]) (.refl _) ⟨⟨_, rfl, .one .hit⟩, trivial⟩ trivial ?_
    refine W.retn (M' := []) (rs := [.tmp 4]) (avs := [_]) Try.results21 ⟨rfl, trivial⟩ rfl (.refl _) ?_
    have e : l.take i = l.take n := by cases hge with | inl h => rw [List.take_of_length_le (by omega), List.take_of_length_le (by omega)] | inr h => rw [show i = n from by omega]
    rw [e] at hi3
    exact ⟨congrArg (AV.sl 1) hi3, rfl⟩

end WLet

end Go.Proofs.Ytofmjmicgddljaa
