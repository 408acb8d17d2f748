/-
  The law UrlHidden, walked.
-/
import Derived.Test.YtohncieijjhnjaaDoorG7
set_option linter.unusedVariables false
set_option linter.unusedSimpArgs false
set_option maxRecDepth 100000
namespace Go.Proofs.YtohncieijjhnjaaDoor
open Go.Vl

namespace LUrlHidden
theorem ty3 : Ty Tryd.prog 3 1 8 (.int .i64 0) := Ty.of (by kernel_rfl)
theorem ty9 : Ty Tryd.prog 9 1 16 (.string ⟨#[]⟩) := Ty.of (by kernel_rfl)
theorem ag3 : IsAgg Tryd.prog 3 false := ⟨_, Tryd.underlying3, rfl⟩
theorem ag9 : IsAgg Tryd.prog 9 false := ⟨_, Tryd.underlying9, rfl⟩
theorem c_UrlHidden (l gs : List Int) (rest : List UInt8) (hl : l.length ≤ 1048576) (hgl : gs.length ≤ 1048576) (hr : rest.length ≤ 1048576) : FnP Tryd.prog 4 [.sl 1 (l.map AV.int), .sl 1 (gs.map AV.int), .str rest] (.bool true) :=  by
  refine FnC.mk Tryd.func4 (by kernel_rfl) rfl Tryd.ntmps4 rfl (fun w0 F => ?_)
  have hll : (l.map AV.int).length = l.length := List.length_map ..
  have hgg : (gs.map AV.int).length = gs.length := List.length_map ..
  obtain ⟨p, hp, h23⟩ := pick_mod Url.pads ((gs.map AV.int).length : Int) 4 rfl (by decide)
  have hpl : p.length ≤ 3 := by simp only [Url.pads, List.mem_cons, List.not_mem_nil, or_false] at hp; rcases hp with rfl | rfl | rfl | rfl <;> decide
  refine W.seq ?_
  refine W.region ?_
  refine W.q (Ev.assign .k) rfl ?_
  refine W.nil ?_
  refine W.then ?_
  refine W.seq ?_
  refine W.region ?_
  refine W.q (Ev.assign .k) rfl ?_
  refine W.nil ?_
  refine W.then ?_
  refine W.seq ?_
  refine W.region ?_
  refine W.bs (es := [_, _, _, _]) Tryd.underlying27 ty9 ⟨rfl, .k, rfl, rfl, rfl, .k, rfl, rfl, rfl, .k, rfl, rfl, rfl, .k, rfl, rfl, trivial⟩ rfl (by decide) rfl rfl ?_
  refine W.q (Ev.move (.t rfl)) rfl ?_
  first | refine W.q (Ev.lensl (.t rfl) Tryd.underlying26) rfl ?_ | refine W.q (Ev.lenar (i := 0) (.t rfl) rfl Tryd.underlying26) rfl ?_ | refine W.q (Ev.lenar (i := 1) (.t rfl) rfl Tryd.underlying26) rfl ?_ | refine W.q (Ev.lenar (i := 2) (.t rfl) rfl Tryd.underlying26) rfl ?_ | refine W.q (Ev.lenar (i := 3) (.t rfl) rfl Tryd.underlying26) rfl ?_
  refine W.callp (Base.c_Picked ((gs.map AV.int).length : Int) 4 (by decide) (by decide)) ⟨(.t rfl), .k, trivial⟩ rfl ?_
  refine W.q (Ev.at (E := 9) (e := AV.str p) (.t rfl) (.t rfl) Tryd.underlying27 ty9 (fun _ => ⟨Int.emod_nonneg _ (by decide), h23⟩) rfl rfl) rfl ?_
  first | refine W.q (Ev.lde1 (.t rfl) ag9) rfl ?_ | refine W.q (Ev.ldb1 0 (.t rfl) rfl ag9 rfl) rfl ?_ | refine W.q (Ev.ldb1 1 (.t rfl) rfl ag9 rfl) rfl ?_ | refine W.q (Ev.ldb1 2 (.t rfl) rfl ag9 rfl) rfl ?_ | refine W.q (Ev.ldb1 3 (.t rfl) rfl ag9 rfl) rfl ?_
  refine W.q (Ev.assign (.t rfl)) rfl ?_
  refine W.nil ?_
  refine W.then ?_
  refine W.seq ?_
  refine W.seq ?_
  refine W.region ?_
  refine W.q (Ev.assign .k) rfl ?_
  refine W.nil ?_
  refine W.then ?_
  refine W.block ?_
  refine W.loop (D := []) (ι := Nat × List Nat × List UInt8) (fun y => [(9, true, .int (y.1 : Int)), (7, true, .str (y.2.1.map Url.lowC)), (8, true, .str y.2.2), (2, true, .str rest), (1, true, .sl 1 (gs.map AV.int)), (0, true, .sl 1 (l.map AV.int))]) (fun _ => []) (fun y => y.1 ≤ l.length ∧ y.1 ≤ 12 ∧ y.2.1.length = y.1 ∧ Url.Hid (y.2.1.map Url.lowC) y.2.2 ∧ y.2.2.length ≤ 3 + 3 * y.1) (fun y => 12 - y.1) (0, [], p) ⟨rfl, rfl, rfl, rfl, rfl, rfl, trivial⟩ (.refl _) ⟨Nat.zero_le _, Nat.zero_le _, rfl, Url.Hid.start hp, by omega⟩ ?_
  rintro ⟨i, ks, hid⟩ ⟨hi1, hi2, hk3, hk4, hk5⟩
  dsimp only at hi1 hi2 hk3 hk4 hk5 ⊢
  rcases (show (i < l.length ∧ i < 12) ∨ ¬ (i < l.length ∧ i < 12) from by omega) with hlt | hge
  · have hga : (l.map AV.int)[i]? = some (AV.int (l.getD i 0)) := getD_map l i hlt.1
    generalize l.getD i 0 = z at hga
    have hz0 := Int.emod_nonneg z (by decide : (52 : Int) ≠ 0)
    obtain ⟨k, hkz⟩ : ∃ k : Nat, z % 52 = (k : Int) := ⟨(z % 52).toNat, by omega⟩
    have hz1 := Int.emod_lt_of_pos z (by decide : (0 : Int) < 52)
    have hk26 : ((k : Int).tmod 26) = ((k % 26 : Nat) : Int) := Url.rem26 k
    refine W.seq ?_
    refine W.seq ?_
    refine W.region ?_
    refine W.q (Ev.move (.t rfl)) rfl ?_
    refine W.q (Ev.move (.t rfl)) rfl ?_
    first | refine W.q (Ev.lensl (.t rfl) Tryd.underlying26) rfl ?_ | refine W.q (Ev.lenar (i := 0) (.t rfl) rfl Tryd.underlying26) rfl ?_ | refine W.q (Ev.lenar (i := 1) (.t rfl) rfl Tryd.underlying26) rfl ?_ | refine W.q (Ev.lenar (i := 2) (.t rfl) rfl Tryd.underlying26) rfl ?_ | refine W.q (Ev.lenar (i := 3) (.t rfl) rfl Tryd.underlying26) rfl ?_
    refine W.q (Ev.lti (.t rfl) (.t rfl)) rfl ?_
    refine W.q (Ev.move (.t rfl)) rfl ?_
    refine W.qgT rfl rfl (Ev.move (.t rfl)) rfl ?_
    refine W.qgT rfl rfl (Ev.lti (.c rfl) .k) rfl ?_
    refine W.q (Ev.and (.t rfl) ⟨_, _, rfl, rfl, by first | (simp; done) | (intro hg_ hp_; simp [hp_]; done) | (simp <;> omega; done) | (simp_all; done) | grind⟩) rfl ?_
    refine W.nil ?_
    refine W.then ?_
    refine W.is (t := 32) (g := true) (av' := .lit (.bool true)) rfl (congrArg (fun b => AV.lit (.bool b)) (by simp; omega)) ?_
    refine W.condT (.t rfl) ?_
    refine W.skip ?_
    refine W.then ?_
    refine W.seq ?_
    refine W.block ?_
    refine W.seq ?_
    refine W.region ?_
    refine W.q (Ev.move (.t rfl)) rfl ?_
    refine W.q (Ev.move (.t rfl)) rfl ?_
    refine W.q (Ev.at (E := 3) (.t rfl) (.t rfl) Tryd.underlying26 ty3 (fun _ => ⟨by omega, hga⟩) rfl rfl) rfl ?_
    first | refine W.q (Ev.lde1 (.t rfl) ag3) rfl ?_ | refine W.q (Ev.ldb1 0 (.t rfl) rfl ag3 rfl) rfl ?_ | refine W.q (Ev.ldb1 1 (.t rfl) rfl ag3 rfl) rfl ?_ | refine W.q (Ev.ldb1 2 (.t rfl) rfl ag3 rfl) rfl ?_ | refine W.q (Ev.ldb1 3 (.t rfl) rfl ag3 rfl) rfl ?_
    refine W.callp (Base.c_Picked z 52 (by decide) (by decide)) ⟨(.t rfl), .k, trivial⟩ rfl ?_
    refine W.is (t := 39) (g := true) (av' := .int (k : Int)) rfl (congrArg AV.int hkz) ?_
    refine W.q (Ev.assign (.t rfl)) rfl ?_
    refine W.nil ?_
    refine W.then ?_
    refine W.seq ?_
    refine W.region ?_
    refine W.q (Ev.move (.t rfl)) rfl ?_
    first | refine W.q (Ev.rem (.t rfl) .k (fun _ => by decide)) rfl ?_ | refine W.q (Ev.rem (.t rfl) .k (fun _ => by omega)) rfl ?_
    refine W.is (t := 41) (g := true) (av' := .int ((k % 26 : Nat) : Int)) rfl (congrArg AV.int hk26) ?_
    refine W.q (Ev.subDrop (n := k % 26) .k Tryd.underlying9 (.t rfl) (fun _ => by rw [show ([97, 98, 99, 100, 101, 102, 103, 104, 105, 106, 107, 108, 109, 110, 111, 112, 113, 114, 115, 116, 117, 118, 119, 120, 121, 122] : List UInt8).length = 26 from rfl]; omega)) rfl ?_
    refine W.q (Ev.subTake (n := 1) (.t rfl) Tryd.underlying9 .k (fun _ => by rw [List.length_drop, show ([97, 98, 99, 100, 101, 102, 103, 104, 105, 106, 107, 108, 109, 110, 111, 112, 113, 114, 115, 116, 117, 118, 119, 120, 121, 122] : List UInt8).length = 26 from rfl]; omega)) rfl ?_
    refine W.is (t := 43) (g := true) (av' := .str [UInt8.ofNat (97 + k % 26)]) rfl (congrArg AV.str (Url.tab_at_97 k)) ?_
    refine W.q (Ev.assign (.t rfl)) rfl ?_
    refine W.nil ?_
    refine W.then ?_
    refine W.seq ?_
    refine W.region ?_
    refine W.q (Ev.move (.t rfl)) rfl ?_
    first | refine W.q (Ev.rem (.t rfl) .k (fun _ => by decide)) rfl ?_ | refine W.q (Ev.rem (.t rfl) .k (fun _ => by omega)) rfl ?_
    refine W.is (t := 45) (g := true) (av' := .int ((k % 26 : Nat) : Int)) rfl (congrArg AV.int hk26) ?_
    refine W.q (Ev.subDrop (n := k % 26) .k Tryd.underlying9 (.t rfl) (fun _ => by rw [show ([65, 66, 67, 68, 69, 70, 71, 72, 73, 74, 75, 76, 77, 78, 79, 80, 81, 82, 83, 84, 85, 86, 87, 88, 89, 90] : List UInt8).length = 26 from rfl]; omega)) rfl ?_
    refine W.q (Ev.subTake (n := 1) (.t rfl) Tryd.underlying9 .k (fun _ => by rw [List.length_drop, show ([65, 66, 67, 68, 69, 70, 71, 72, 73, 74, 75, 76, 77, 78, 79, 80, 81, 82, 83, 84, 85, 86, 87, 88, 89, 90] : List UInt8).length = 26 from rfl]; omega)) rfl ?_
    refine W.is (t := 47) (g := true) (av' := .str [UInt8.ofNat (65 + k % 26)]) rfl (congrArg AV.str (Url.tab_at_65 k)) ?_
    refine W.q (Ev.assign (.t rfl)) rfl ?_
    refine W.nil ?_
    refine W.then ?_
    refine W.seq ?_
    refine W.region ?_
    refine W.q (Ev.move (.t rfl)) rfl ?_
    refine W.q (Ev.move (.t rfl)) rfl ?_
    refine W.q (Ev.cat (.t rfl) (.t rfl) (fun _ => by first | omega | (simp only [List.length_append]; omega) | (simp [-List.length_flatMap]; omega) | (simp; omega))) rfl ?_
    refine W.is (t := 50) (g := true) (av' := .str ((ks ++ [k]).map Url.lowC)) rfl (congrArg AV.str (by rw [List.map_append]; rfl)) ?_
    refine W.q (Ev.assign (.t rfl)) rfl ?_
    refine W.nil ?_
    refine W.then ?_
    refine W.seq ?_
    refine W.seq ?_
    refine W.region ?_
    refine W.q (Ev.move (.t rfl)) rfl ?_
    refine W.q (Ev.gei (.t rfl) .k) rfl ?_
    refine W.nil ?_
    refine W.then ?_
    refine W.cond (.t rfl) (fun hc_t52 => ?_) (fun hc_t52 => ?_)
    · have hb : [UInt8.ofNat (65 + k % 26)] = [Url.bigC k] := by unfold Url.bigC; rw [if_neg (by have := of_decide_eq_true hc_t52; omega)]
      refine W.region ?_
      refine W.q (Ev.move (.t rfl)) rfl ?_
      refine W.q (Ev.assign (.t rfl)) rfl ?_
      refine W.nil ?_
      refine W.then ?_
      refine W.seq ?_
      refine W.region ?_
      refine W.q (Ev.move (.t rfl)) rfl ?_
      refine W.q (Ev.move (.t rfl)) rfl ?_
      refine W.q (Ev.cat (.t rfl) (.t rfl) (fun _ => by first | omega | (simp only [List.length_append]; omega) | (simp [-List.length_flatMap]; omega) | (simp; omega))) rfl ?_
      refine W.is (t := 56) (g := true) (av' := .str (hid ++ [Url.bigC k])) rfl (congrArg AV.str (by rw [hb])) ?_
      refine W.q (Ev.assign (.t rfl)) rfl ?_
      refine W.nil ?_
      refine W.then ?_
      refine W.seq ?_
      refine W.region ?_
      refine W.q (Ev.move (.t rfl)) rfl ?_
      refine W.q (Ev.move (.t rfl)) rfl ?_
      first | refine W.q (Ev.lensl (.t rfl) Tryd.underlying26) rfl ?_ | refine W.q (Ev.lenar (i := 0) (.t rfl) rfl Tryd.underlying26) rfl ?_ | refine W.q (Ev.lenar (i := 1) (.t rfl) rfl Tryd.underlying26) rfl ?_ | refine W.q (Ev.lenar (i := 2) (.t rfl) rfl Tryd.underlying26) rfl ?_ | refine W.q (Ev.lenar (i := 3) (.t rfl) rfl Tryd.underlying26) rfl ?_
      refine W.q (Ev.lti (.t rfl) (.t rfl)) rfl ?_
      refine W.nil ?_
      refine W.then ?_
      refine W.cond (.t rfl) (fun hc_t60 => ?_) (fun hc_t60 => ?_)
      · have hig := of_decide_eq_true hc_t60
        have hgb : (gs.map AV.int)[i]? = some (AV.int (gs.getD i 0)) := getD_map gs i (by omega)
        generalize gs.getD i 0 = y at hgb
        obtain ⟨g, hg, h68⟩ := pick_mod Url.gaps y 4 rfl (by decide)
        have hgl2 : g.length ≤ 2 := by simp only [Url.gaps, List.mem_cons, List.not_mem_nil, or_false] at hg; rcases hg with rfl | rfl | rfl | rfl <;> decide
        refine W.region ?_
        refine W.q (Ev.move (.t rfl)) rfl ?_
        refine W.bs (es := [_, _, _, _]) Tryd.underlying27 ty9 ⟨rfl, .k, rfl, rfl, rfl, .k, rfl, rfl, rfl, .k, rfl, rfl, rfl, .k, rfl, rfl, trivial⟩ rfl (by decide) rfl rfl ?_
        refine W.q (Ev.move (.t rfl)) rfl ?_
        refine W.q (Ev.move (.t rfl)) rfl ?_
        refine W.q (Ev.at (E := 3) (.t rfl) (.t rfl) Tryd.underlying26 ty3 (fun _ => ⟨by omega, hgb⟩) rfl rfl) rfl ?_
        first | refine W.q (Ev.lde1 (.t rfl) ag3) rfl ?_ | refine W.q (Ev.ldb1 0 (.t rfl) rfl ag3 rfl) rfl ?_ | refine W.q (Ev.ldb1 1 (.t rfl) rfl ag3 rfl) rfl ?_ | refine W.q (Ev.ldb1 2 (.t rfl) rfl ag3 rfl) rfl ?_ | refine W.q (Ev.ldb1 3 (.t rfl) rfl ag3 rfl) rfl ?_
        refine W.callp (Base.c_Picked y 4 (by decide) (by decide)) ⟨(.t rfl), .k, trivial⟩ rfl ?_
        refine W.q (Ev.at (E := 9) (e := AV.str g) (.t rfl) (.t rfl) Tryd.underlying27 ty9 (fun _ => ⟨Int.emod_nonneg _ (by decide), h68⟩) rfl rfl) rfl ?_
        first | refine W.q (Ev.lde1 (.t rfl) ag9) rfl ?_ | refine W.q (Ev.ldb1 0 (.t rfl) rfl ag9 rfl) rfl ?_ | refine W.q (Ev.ldb1 1 (.t rfl) rfl ag9 rfl) rfl ?_ | refine W.q (Ev.ldb1 2 (.t rfl) rfl ag9 rfl) rfl ?_ | refine W.q (Ev.ldb1 3 (.t rfl) rfl ag9 rfl) rfl ?_
        refine W.q (Ev.cat (.t rfl) (.t rfl) (fun _ => by first | omega | (simp only [List.length_append]; omega) | (simp [-List.length_flatMap]; omega) | (simp; omega))) rfl ?_
        refine W.q (Ev.assign (.t rfl)) rfl ?_
        refine W.nil ?_
        refine W.blk_normal ?_
        refine W.then ?_
        refine W.region ?_
        refine W.q (Ev.move (.t rfl)) rfl ?_
        first | refine W.q (Ev.add (.t rfl) .k (fun _ => by omega)) rfl ?_ | refine W.q (Ev.addw (.t rfl) .k) rfl ?_
        refine W.q (Ev.assign (.t rfl)) rfl ?_
        refine W.nil ?_
        refine W.then ?_
        refine W.reach (D := []) (i + 1, ks ++ [k], hid ++ [Url.bigC k] ++ g) ⟨rfl, rfl, rfl, rfl, rfl, rfl, trivial⟩ (.refl _) ⟨⟨by show i + 1 ≤ _; omega, by show i + 1 ≤ _; omega, by show (ks ++ [k]).length = i + 1; rw [List.length_append, List.length_singleton, hk3], ?_, ?_⟩, by show _ - (i + 1) < _; omega⟩
        · show Url.Hid ((ks ++ [k]).map Url.lowC) (hid ++ [Url.bigC k] ++ g); rw [List.map_append]; first | exact hk4.add k hg | (have h := hk4.add k hg; rw [List.append_nil] at h; exact h)
        · show (hid ++ [Url.bigC k] ++ g).length ≤ _; simp only [List.length_append, List.length_singleton, List.length_cons, List.length_nil]; omega
      · refine W.skip ?_
        refine W.blk_normal ?_
        refine W.then ?_
        refine W.region ?_
        refine W.q (Ev.move (.t rfl)) rfl ?_
        first | refine W.q (Ev.add (.t rfl) .k (fun _ => by omega)) rfl ?_ | refine W.q (Ev.addw (.t rfl) .k) rfl ?_
        refine W.q (Ev.assign (.t rfl)) rfl ?_
        refine W.nil ?_
        refine W.then ?_
        refine W.reach (D := []) (i + 1, ks ++ [k], hid ++ [Url.bigC k]) ⟨rfl, rfl, rfl, rfl, rfl, rfl, trivial⟩ (.refl _) ⟨⟨by show i + 1 ≤ _; omega, by show i + 1 ≤ _; omega, by show (ks ++ [k]).length = i + 1; rw [List.length_append, List.length_singleton, hk3], ?_, ?_⟩, by show _ - (i + 1) < _; omega⟩
        · show Url.Hid ((ks ++ [k]).map Url.lowC) (hid ++ [Url.bigC k]); rw [List.map_append]; first | exact hk4.add k (g := []) (by simp [Url.gaps]) | (have h := hk4.add k (g := []) (by simp [Url.gaps]); rw [List.append_nil] at h; exact h)
        · show (hid ++ [Url.bigC k]).length ≤ _; simp only [List.length_append, List.length_singleton, List.length_cons, List.length_nil]; omega
    · have hb : [UInt8.ofNat (97 + k % 26)] = [Url.bigC k] := by unfold Url.bigC; rw [if_pos (by have := of_decide_eq_false hc_t52; omega)]
      refine W.skip ?_
      refine W.then ?_
      refine W.seq ?_
      refine W.region ?_
      refine W.q (Ev.move (.t rfl)) rfl ?_
      refine W.q (Ev.move (.t rfl)) rfl ?_
      refine W.q (Ev.cat (.t rfl) (.t rfl) (fun _ => by first | omega | (simp only [List.length_append]; omega) | (simp [-List.length_flatMap]; omega) | (simp; omega))) rfl ?_
      refine W.is (t := 56) (g := true) (av' := .str (hid ++ [Url.bigC k])) rfl (congrArg AV.str (by rw [hb])) ?_
      refine W.q (Ev.assign (.t rfl)) rfl ?_
      refine W.nil ?_
      refine W.then ?_
      refine W.seq ?_
      refine W.region ?_
      refine W.q (Ev.move (.t rfl)) rfl ?_
      refine W.q (Ev.move (.t rfl)) rfl ?_
      first | refine W.q (Ev.lensl (.t rfl) Tryd.underlying26) rfl ?_ | refine W.q (Ev.lenar (i := 0) (.t rfl) rfl Tryd.underlying26) rfl ?_ | refine W.q (Ev.lenar (i := 1) (.t rfl) rfl Tryd.underlying26) rfl ?_ | refine W.q (Ev.lenar (i := 2) (.t rfl) rfl Tryd.underlying26) rfl ?_ | refine W.q (Ev.lenar (i := 3) (.t rfl) rfl Tryd.underlying26) rfl ?_
      refine W.q (Ev.lti (.t rfl) (.t rfl)) rfl ?_
      refine W.nil ?_
      refine W.then ?_
      refine W.cond (.t rfl) (fun hc_t60 => ?_) (fun hc_t60 => ?_)
      · have hig := of_decide_eq_true hc_t60
        have hgb : (gs.map AV.int)[i]? = some (AV.int (gs.getD i 0)) := getD_map gs i (by omega)
        generalize gs.getD i 0 = y at hgb
        obtain ⟨g, hg, h68⟩ := pick_mod Url.gaps y 4 rfl (by decide)
        have hgl2 : g.length ≤ 2 := by simp only [Url.gaps, List.mem_cons, List.not_mem_nil, or_false] at hg; rcases hg with rfl | rfl | rfl | rfl <;> decide
        refine W.region ?_
        refine W.q (Ev.move (.t rfl)) rfl ?_
        refine W.bs (es := [_, _, _, _]) Tryd.underlying27 ty9 ⟨rfl, .k, rfl, rfl, rfl, .k, rfl, rfl, rfl, .k, rfl, rfl, rfl, .k, rfl, rfl, trivial⟩ rfl (by decide) rfl rfl ?_
        refine W.q (Ev.move (.t rfl)) rfl ?_
        refine W.q (Ev.move (.t rfl)) rfl ?_
        refine W.q (Ev.at (E := 3) (.t rfl) (.t rfl) Tryd.underlying26 ty3 (fun _ => ⟨by omega, hgb⟩) rfl rfl) rfl ?_
        first | refine W.q (Ev.lde1 (.t rfl) ag3) rfl ?_ | refine W.q (Ev.ldb1 0 (.t rfl) rfl ag3 rfl) rfl ?_ | refine W.q (Ev.ldb1 1 (.t rfl) rfl ag3 rfl) rfl ?_ | refine W.q (Ev.ldb1 2 (.t rfl) rfl ag3 rfl) rfl ?_ | refine W.q (Ev.ldb1 3 (.t rfl) rfl ag3 rfl) rfl ?_
        refine W.callp (Base.c_Picked y 4 (by decide) (by decide)) ⟨(.t rfl), .k, trivial⟩ rfl ?_
        refine W.q (Ev.at (E := 9) (e := AV.str g) (.t rfl) (.t rfl) Tryd.underlying27 ty9 (fun _ => ⟨Int.emod_nonneg _ (by decide), h68⟩) rfl rfl) rfl ?_
        first | refine W.q (Ev.lde1 (.t rfl) ag9) rfl ?_ | refine W.q (Ev.ldb1 0 (.t rfl) rfl ag9 rfl) rfl ?_ | refine W.q (Ev.ldb1 1 (.t rfl) rfl ag9 rfl) rfl ?_ | refine W.q (Ev.ldb1 2 (.t rfl) rfl ag9 rfl) rfl ?_ | refine W.q (Ev.ldb1 3 (.t rfl) rfl ag9 rfl) rfl ?_
        refine W.q (Ev.cat (.t rfl) (.t rfl) (fun _ => by first | omega | (simp only [List.length_append]; omega) | (simp [-List.length_flatMap]; omega) | (simp; omega))) rfl ?_
        refine W.q (Ev.assign (.t rfl)) rfl ?_
        refine W.nil ?_
        refine W.blk_normal ?_
        refine W.then ?_
        refine W.region ?_
        refine W.q (Ev.move (.t rfl)) rfl ?_
        first | refine W.q (Ev.add (.t rfl) .k (fun _ => by omega)) rfl ?_ | refine W.q (Ev.addw (.t rfl) .k) rfl ?_
        refine W.q (Ev.assign (.t rfl)) rfl ?_
        refine W.nil ?_
        refine W.then ?_
        refine W.reach (D := []) (i + 1, ks ++ [k], hid ++ [Url.bigC k] ++ g) ⟨rfl, rfl, rfl, rfl, rfl, rfl, trivial⟩ (.refl _) ⟨⟨by show i + 1 ≤ _; omega, by show i + 1 ≤ _; omega, by show (ks ++ [k]).length = i + 1; rw [List.length_append, List.length_singleton, hk3], ?_, ?_⟩, by show _ - (i + 1) < _; omega⟩
        · show Url.Hid ((ks ++ [k]).map Url.lowC) (hid ++ [Url.bigC k] ++ g); rw [List.map_append]; first | exact hk4.add k hg | (have h := hk4.add k hg; rw [List.append_nil] at h; exact h)
        · show (hid ++ [Url.bigC k] ++ g).length ≤ _; simp only [List.length_append, List.length_singleton, List.length_cons, List.length_nil]; omega
      · refine W.skip ?_
        refine W.blk_normal ?_
        refine W.then ?_
        refine W.region ?_
        refine W.q (Ev.move (.t rfl)) rfl ?_
        first | refine W.q (Ev.add (.t rfl) .k (fun _ => by omega)) rfl ?_ | refine W.q (Ev.addw (.t rfl) .k) rfl ?_
        refine W.q (Ev.assign (.t rfl)) rfl ?_
        refine W.nil ?_
        refine W.then ?_
        refine W.reach (D := []) (i + 1, ks ++ [k], hid ++ [Url.bigC k]) ⟨rfl, rfl, rfl, rfl, rfl, rfl, trivial⟩ (.refl _) ⟨⟨by show i + 1 ≤ _; omega, by show i + 1 ≤ _; omega, by show (ks ++ [k]).length = i + 1; rw [List.length_append, List.length_singleton, hk3], ?_, ?_⟩, by show _ - (i + 1) < _; omega⟩
        · show Url.Hid ((ks ++ [k]).map Url.lowC) (hid ++ [Url.bigC k]); rw [List.map_append]; first | exact hk4.add k (g := []) (by simp [Url.gaps]) | (have h := hk4.add k (g := []) (by simp [Url.gaps]); rw [List.append_nil] at h; exact h)
        · show (hid ++ [Url.bigC k]).length ≤ _; simp only [List.length_append, List.length_singleton, List.length_cons, List.length_nil]; omega
  · skip
    refine W.seq ?_
    refine W.seq ?_
    refine W.region ?_
    refine W.q (Ev.move (.t rfl)) rfl ?_
    refine W.q (Ev.move (.t rfl)) rfl ?_
    first | refine W.q (Ev.lensl (.t rfl) Tryd.underlying26) rfl ?_ | refine W.q (Ev.lenar (i := 0) (.t rfl) rfl Tryd.underlying26) rfl ?_ | refine W.q (Ev.lenar (i := 1) (.t rfl) rfl Tryd.underlying26) rfl ?_ | refine W.q (Ev.lenar (i := 2) (.t rfl) rfl Tryd.underlying26) rfl ?_ | refine W.q (Ev.lenar (i := 3) (.t rfl) rfl Tryd.underlying26) rfl ?_
    refine W.q (Ev.lti (.t rfl) (.t rfl)) rfl ?_
    refine W.q (Ev.move (.t rfl)) rfl ?_
    refine W.qgT rfl rfl (Ev.move (.t rfl)) rfl ?_
    refine W.qgT rfl rfl (Ev.lti (.c rfl) .k) rfl ?_
    refine W.q (Ev.and (.t rfl) ⟨_, _, rfl, rfl, by first | (simp; done) | (intro hg_ hp_; simp [hp_]; done) | (simp <;> omega; done) | (simp_all; done) | grind⟩) rfl ?_
    refine W.nil ?_
    refine W.then ?_
    refine W.is (t := 32) (g := true) (av' := .lit (.bool false)) rfl (congrArg (fun b => AV.lit (.bool b)) (by simp; omega)) ?_
    refine W.condF (.t rfl) ?_
    refine W.exit ?_
    refine W.then_exit ?_
    refine W.then_exit ?_
    refine W.blk_hit ?_
    refine W.then ?_
    refine W.seq ?_
    refine W.seq ?_
    refine W.region ?_
    refine W.q (Ev.move (.t rfl)) rfl ?_
    refine W.q (Ev.eqs (.t rfl) .k) rfl ?_
    refine W.nil ?_
    refine W.then ?_
    refine W.cond (.t rfl) (fun hc_t72 => ?_) (fun hc_t72 => ?_)
    · have c0 := WStrip.c_Strip [32, 97, 32] (by decide)
      rw [show Url.strip [32, 97, 32] = [97] from by decide] at c0
      refine W.seq ?_
      refine W.region ?_
      refine W.callp (c0) ⟨.k, trivial⟩ rfl ?_
      refine W.q (Ev.eqs (.t rfl) .k) rfl ?_
      refine W.q (Ev.assign (.t rfl)) rfl ?_
      refine W.nil ?_
      refine W.then ?_
      refine W.ret ?_
      refine W.then_ret ?_
      refine W.retn (M' := []) (rs := [.tmp 6]) (avs := [_]) Tryd.results4 ⟨rfl, trivial⟩ rfl (.refl _) ?_
      first | exact ⟨rfl, rfl⟩ | exact ⟨congrArg AV.bool (by cases sch == [104, 116, 116, 112] <;> cases sch == [104, 116, 116, 112, 115] <;> simp), rfl⟩
    · have hne : ks.map Url.lowC ≠ [] := by simpa using hc_t72
      have hksn : ks ≠ [] := by rintro rfl; exact hne rfl
      have hsc := hk4.scheme hne rest
      have hlow := Url.scheme_lows hksn
      have hkl : (ks.map Url.lowC).length ≤ 12 := by rw [List.length_map]; omega
      obtain ⟨sch, hsch⟩ : ∃ s, ks.map Url.lowC = s := ⟨_, rfl⟩
      rw [hsch] at hsc hlow hkl hne
      have hal : (hid ++ [58] ++ rest).length ≤ 4194304 := by simp only [List.length_append, List.length_singleton]; omega
      have c1 := WScheme.c_Scheme (hid ++ [58] ++ rest) hal
      rw [hsc] at c1
      have c2 := WSafe.c_Safe (hid ++ [58] ++ rest) hal [[104, 116, 116, 112], [104, 116, 116, 112, 115]] (by decide) (by decide)
      have c3 := WSafe.c_Safe (hid ++ [58] ++ rest) hal [sch] (by simp) (fun x hx => by rw [List.mem_singleton.1 hx]; exact ⟨by omega, hlow⟩)
      rw [show Url.of (hid ++ [58] ++ rest) [sch] = true from by unfold Url.of; rw [hsc]; simp] at c3
      rw [show Url.of (hid ++ [58] ++ rest) [[104, 116, 116, 112], [104, 116, 116, 112, 115]] = ((sch == [104, 116, 116, 112]) || (sch == [104, 116, 116, 112, 115])) from by unfold Url.of; rw [hsc]; simp] at c2
      refine W.is (t := 7) (g := true) (av' := .str sch) rfl (congrArg AV.str hsch) ?_
      refine W.skip ?_
      refine W.then ?_
      refine W.seq ?_
      refine W.region ?_
      refine W.q (Ev.move (.t rfl)) rfl ?_
      refine W.q (Ev.cat (.t rfl) .k (fun _ => by first | omega | (simp only [List.length_append]; omega) | (simp [-List.length_flatMap]; omega) | (simp; omega))) rfl ?_
      refine W.q (Ev.move (.t rfl)) rfl ?_
      refine W.q (Ev.cat (.t rfl) (.t rfl) (fun _ => by first | omega | (simp only [List.length_append]; omega) | (simp [-List.length_flatMap]; omega) | (simp; omega))) rfl ?_
      refine W.callp (c1) ⟨(.t rfl), trivial⟩ rfl ?_
      refine W.q (Ev.move (.t rfl)) rfl ?_
      refine W.q (Ev.extract (.t rfl) rfl) rfl ?_
      refine W.q (Ev.extract (.t rfl) rfl) rfl ?_
      refine W.q (Ev.assign (.t rfl)) rfl ?_
      refine W.q (Ev.assign (.t rfl)) rfl ?_
      refine W.nil ?_
      refine W.then ?_
      refine W.seq ?_
      refine W.region ?_
      refine W.q (Ev.move (.t rfl)) rfl ?_
      refine W.q (Ev.cat (.t rfl) .k (fun _ => by first | omega | (simp only [List.length_append]; omega) | (simp [-List.length_flatMap]; omega) | (simp; omega))) rfl ?_
      refine W.q (Ev.move (.t rfl)) rfl ?_
      refine W.q (Ev.cat (.t rfl) (.t rfl) (fun _ => by first | omega | (simp only [List.length_append]; omega) | (simp [-List.length_flatMap]; omega) | (simp; omega))) rfl ?_
      refine W.bs (es := [_, _]) Tryd.underlying27 ty9 ⟨rfl, .k, rfl, rfl, rfl, .k, rfl, rfl, trivial⟩ rfl (by decide) rfl rfl ?_
      refine W.callp (c2) ⟨(.t rfl), (.t rfl), trivial⟩ rfl ?_
      refine W.q (Ev.move (.t rfl)) rfl ?_
      refine W.q (Ev.extract (.t rfl) rfl) rfl ?_
      refine W.q (Ev.extract (.t rfl) rfl) rfl ?_
      refine W.q (Ev.assign (.t rfl)) rfl ?_
      refine W.q (Ev.assign (.t rfl)) rfl ?_
      refine W.nil ?_
      refine W.then ?_
      refine W.seq ?_
      refine W.region ?_
      refine W.q (Ev.move (.t rfl)) rfl ?_
      refine W.q (Ev.cat (.t rfl) .k (fun _ => by first | omega | (simp only [List.length_append]; omega) | (simp [-List.length_flatMap]; omega) | (simp; omega))) rfl ?_
      refine W.q (Ev.move (.t rfl)) rfl ?_
      refine W.q (Ev.cat (.t rfl) (.t rfl) (fun _ => by first | omega | (simp only [List.length_append]; omega) | (simp [-List.length_flatMap]; omega) | (simp; omega))) rfl ?_
      refine W.q (Ev.move (.t rfl)) rfl ?_
      refine W.bs (es := [_]) Tryd.underlying27 ty9 ⟨rfl, (.t rfl), rfl, rfl, trivial⟩ rfl (by decide) rfl rfl ?_
      refine W.callp (c3) ⟨(.t rfl), (.t rfl), trivial⟩ rfl ?_
      refine W.q (Ev.move (.t rfl)) rfl ?_
      refine W.q (Ev.extract (.t rfl) rfl) rfl ?_
      refine W.q (Ev.extract (.t rfl) rfl) rfl ?_
      refine W.q (Ev.assign (.t rfl)) rfl ?_
      refine W.q (Ev.assign (.t rfl)) rfl ?_
      refine W.nil ?_
      refine W.then ?_
      refine W.seq ?_
      refine W.region ?_
      refine W.q (Ev.move (.t rfl)) rfl ?_
      refine W.q (Ev.move (.t rfl)) rfl ?_
      refine W.qgT rfl rfl (Ev.move (.t rfl)) rfl ?_
      refine W.qgT rfl rfl (Ev.move (.t rfl)) rfl ?_
      refine W.qgT rfl rfl (Ev.eqs (.c rfl) (.c rfl)) rfl ?_
      refine W.q (Ev.and (.t rfl) ⟨_, _, rfl, rfl, by first | (simp; done) | (intro hg_ hp_; simp [hp_]; done) | (simp <;> omega; done) | (simp_all; done) | grind⟩) rfl ?_
      refine W.q (Ev.move (.t rfl)) rfl ?_
      refine W.qgT rfl rfl (Ev.move (.t rfl)) rfl ?_
      refine W.qgT rfl rfl (Ev.eqi (.c rfl) .k) rfl ?_
      refine W.q (Ev.and (.t rfl) ⟨_, _, rfl, rfl, by first | (simp; done) | (intro hg_ hp_; simp [hp_]; done) | (simp <;> omega; done) | (simp_all; done) | grind⟩) rfl ?_
      refine W.q (Ev.move (.t rfl)) rfl ?_
      refine W.qgT rfl rfl (Ev.move (.t rfl)) rfl ?_
      refine W.qgT rfl rfl (Ev.eqi (.c rfl) .k) rfl ?_
      refine W.q (Ev.and (.t rfl) ⟨_, _, rfl, rfl, by first | (simp; done) | (intro hg_ hp_; simp [hp_]; done) | (simp <;> omega; done) | (simp_all; done) | grind⟩) rfl ?_
      refine W.q (Ev.move (.t rfl)) rfl ?_
      refine W.qgT rfl rfl (Ev.move (.t rfl)) rfl ?_
      refine W.q (Ev.and (.t rfl) ⟨_, _, rfl, rfl, by first | (simp; done) | (intro hg_ hp_; simp [hp_]; done) | (simp <;> omega; done) | (simp_all; done) | grind⟩) rfl ?_
      refine W.q (Ev.move (.t rfl)) rfl ?_
      refine W.qgT rfl rfl (Ev.move (.t rfl)) rfl ?_
      refine W.qgT rfl rfl (Ev.move (.t rfl)) rfl ?_
      refine W.qgT rfl rfl (Ev.eqs (.c rfl) .k) rfl ?_
      refine W.qgT rfl rfl (Ev.move (.c rfl)) rfl ?_
      refine W.qgF' rfl rfl (Ev.move (.t rfl)) rfl ?_
      refine W.qgF' rfl rfl (Ev.eqs (.c rfl) .k) rfl ?_
      refine W.qgT rfl rfl (Ev.or (.c rfl) ⟨_, _, rfl, rfl, by first | (simp; done) | (intro hg_ hp_; simp [hp_]; done) | (simp <;> omega; done) | (simp_all; done) | grind⟩) rfl ?_
      refine W.qgT rfl rfl (Ev.eqb (.c rfl) (.c rfl) Tryd.underlying4) rfl ?_
      refine W.q (Ev.and (.t rfl) ⟨_, _, rfl, rfl, by first | (simp; done) | (intro hg_ hp_; simp [hp_]; done) | (simp <;> omega; done) | (simp_all; done) | grind⟩) rfl ?_
      refine W.q (Ev.assign (.t rfl)) rfl ?_
      refine W.nil ?_
      refine W.then ?_
      refine W.ret ?_
      refine W.retn (M' := []) (rs := [.tmp 6]) (avs := [_]) Tryd.results4 ⟨rfl, trivial⟩ rfl (.refl _) ?_
      first | exact ⟨rfl, rfl⟩ | exact ⟨congrArg AV.bool (by cases sch == [104, 116, 116, 112] <;> cases sch == [104, 116, 116, 112, 115] <;> simp), rfl⟩

end LUrlHidden

end Go.Proofs.YtohncieijjhnjaaDoor
