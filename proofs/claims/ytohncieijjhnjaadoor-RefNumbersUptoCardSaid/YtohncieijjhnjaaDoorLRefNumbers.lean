/-
  The law RefNumbers, walked.
-/
import Derived.Test.YtohncieijjhnjaaDoorG8
set_option linter.unusedVariables false
set_option linter.unusedSimpArgs false
set_option maxRecDepth 100000
namespace Go.Proofs.YtohncieijjhnjaaDoor
open Go.Vl

namespace LRefNumbers
theorem ty3 : Ty Tryd.prog 3 1 8 (.int .i64 0) := Ty.of (by kernel_rfl)
theorem ag3 : IsAgg Tryd.prog 3 false := ⟨_, Tryd.underlying3, rfl⟩
theorem c_RefNumbers (T tp : TypeId) (p : Value) (n : Int) : FnC Tryd.prog 7 [.int n] [ifv 3 T tp p] (fun r M => r = .bool true ∧ M = [ifv 3 T tp p]) :=  by
  refine FnC.mk Tryd.func7 (by kernel_rfl) rfl Tryd.ntmps7 rfl (fun w0 F => ?_)
  have hL := WLet.c_Letters [n] 1 (by simp) (by decide)
  have hv := letterOf_valid n
  rw [valid_iff] at hv
  obtain ⟨x, hx⟩ : ∃ x : Nat, letterOf n = (x : Int) := ⟨(letterOf n).toNat, by omega⟩
  rw [hx] at hv
  have hL2 : ((([n] : List Int).take 1).map letterOf).map AV.int = [AV.int (x : Int)] := by show [AV.int (letterOf n)] = _; rw [hx]
  rw [hL2] at hL
  have hd10 := Une.dg_len 10 (by decide) 7 x (by omega)
  have hd16 := Une.dg_len 16 (by decide) 6 x (by omega)
  have hga : ([AV.int (x : Int)] : List AV)[(0 : Nat)]? = some (AV.int (x : Int)) := rfl
  refine W.seq ?_
  refine W.region ?_
  refine W.q (Ev.assign .k) rfl ?_
  refine W.nil ?_
  refine W.then ?_
  refine W.seq ?_
  refine W.region ?_
  refine W.q (Ev.move (.t rfl)) rfl ?_
  refine W.bs (es := [_]) Tryd.underlying26 ty3 ⟨rfl, (.t rfl), rfl, rfl, trivial⟩ rfl (by decide) rfl rfl ?_
  refine W.callp (hL) ⟨(.t rfl), .k, trivial⟩ rfl ?_
  refine W.q (Ev.at (E := 3) (.t rfl) .k Tryd.underlying26 ty3 (fun _ => ⟨by decide, hga⟩) rfl rfl) rfl ?_
  first | refine W.q (Ev.lde1 (.t rfl) ag3) rfl ?_ | refine W.q (Ev.ldb1 0 (.t rfl) rfl ag3 rfl) rfl ?_ | refine W.q (Ev.ldb1 1 (.t rfl) rfl ag3 rfl) rfl ?_ | refine W.q (Ev.ldb1 2 (.t rfl) rfl ag3 rfl) rfl ?_ | refine W.q (Ev.ldb1 3 (.t rfl) rfl ag3 rfl) rfl ?_
  refine W.q (Ev.assign (.t rfl)) rfl ?_
  refine W.nil ?_
  refine W.then ?_
  refine W.seq ?_
  refine W.seq ?_
  refine W.region ?_
  refine W.q (Ev.move (.t rfl)) rfl ?_
  refine W.q (Ev.eqi (.t rfl) .k) rfl ?_
  refine W.nil ?_
  refine W.then ?_
  refine W.cond (.t rfl) (fun hc_t15 => ?_) (fun hc_t15 => ?_)
  · skip
    refine W.seq ?_
    refine W.region ?_
    refine W.call (WSureV.c_sureV T tp p) trivial (.refl _) rfl ?_
    rintro _ _ ⟨rfl, rfl⟩
    refine W.q (Ev.assign (.t rfl)) rfl ?_
    refine W.nil ?_
    refine W.then ?_
    refine W.ret ?_
    refine W.then_ret ?_
    refine W.retn (M' := [ifv 3 T tp p]) (D := []) (rs := [.tmp 2]) (avs := [_]) Tryd.results7 ⟨rfl, trivial⟩ rfl (by first | exact .refl _ | (rw [List.append_nil]; exact .refl _)) ?_
    exact ⟨congrArg AV.bool (by simp), rfl⟩
  · have hx0 : 0 < x := by have h := beq_eq_false_iff_ne.1 hc_t15; omega
    have hU10 := Une.une_dec x hx0 (by omega)
    have hUx := Une.une_hex 120 (.inl rfl) x hx0 (by omega)
    have hUX := Une.une_hex 88 (.inr rfl) x hx0 (by omega)
    have hUo := Une.une_open x
    have hel := enc_len (Une.rune x : Int)
    refine W.skip ?_
    refine W.then ?_
    refine W.seq ?_
    refine W.region ?_
    refine W.q (Ev.assign .k) rfl ?_
    refine W.nil ?_
    refine W.then ?_
    refine W.seq ?_
    refine W.seq ?_
    refine W.region ?_
    refine W.q (Ev.move (.t rfl)) rfl ?_
    refine W.q (Ev.assign (.t rfl)) rfl ?_
    refine W.nil ?_
    refine W.then ?_
    refine W.block ?_
    refine W.loop (D := []) (ι := Nat × List UInt8) (fun z => [(5, true, .int (z.1 : Int)), (4, true, .str z.2), (3, true, .int (x : Int))]) (fun z => [ifv 3 T tp p]) (fun z => Une.dg 10 z.1 ++ z.2 = Une.dg 10 x ∧ z.1 ≤ x ∧ z.2.length ≤ 8) (fun z => z.1) (x, []) ⟨rfl, rfl, rfl,  trivial⟩ (by first | exact .refl _ | (rw [List.append_nil]; exact .refl _)) ⟨List.append_nil _, Nat.le_refl _, Nat.zero_le _⟩ ?_
    rintro ⟨y, acc⟩ ⟨hy, hyx, hal⟩
    dsimp only at hy hyx hal ⊢
    rcases Nat.eq_zero_or_pos y with hend | hlt
    · rw [hend, Une.dg_zero, List.nil_append] at hy
      rw [hy]
      refine W.seq ?_
      refine W.seq ?_
      refine W.region ?_
      refine W.q (Ev.move (.t rfl)) rfl ?_
      refine W.q (Ev.gti (.t rfl) .k) rfl ?_
      refine W.nil ?_
      refine W.then ?_
      refine W.is (t := 19) (g := true) (av' := .lit (.bool false)) rfl (congrArg (fun b => AV.lit (.bool b)) (by exact decide_eq_false (by omega))) ?_
      refine W.condF (.t rfl) ?_
      refine W.exit ?_
      refine W.then_exit ?_
      refine W.then_exit ?_
      refine W.blk_hit ?_
      refine W.then ?_
      refine W.seq ?_
      refine W.region ?_
      refine W.q (Ev.assign .k) rfl ?_
      refine W.nil ?_
      refine W.then ?_
      refine W.seq ?_
      refine W.seq ?_
      refine W.region ?_
      refine W.q (Ev.move (.t rfl)) rfl ?_
      refine W.q (Ev.assign (.t rfl)) rfl ?_
      refine W.nil ?_
      refine W.then ?_
      refine W.block ?_
      refine W.loop (D := []) (ι := Nat × List UInt8) (fun z => [(7, true, .int (z.1 : Int)), (6, true, .str z.2), (4, true, .str (Une.dg 10 x))]) (fun z => [ifv 3 T tp p]) (fun z => Une.dg 16 z.1 ++ z.2 = Une.dg 16 x ∧ z.1 ≤ x ∧ z.2.length ≤ 8) (fun z => z.1) (x, []) ⟨rfl, rfl, rfl,  trivial⟩ (by first | exact .refl _ | (rw [List.append_nil]; exact .refl _)) ⟨List.append_nil _, Nat.le_refl _, Nat.zero_le _⟩ ?_
      rintro ⟨y, acc⟩ ⟨hy, hyx, hal⟩
      dsimp only at hy hyx hal ⊢
      rcases Nat.eq_zero_or_pos y with hend | hlt
      · rw [hend, Une.dg_zero, List.nil_append] at hy
        rw [hy]
        refine W.seq ?_
        refine W.seq ?_
        refine W.region ?_
        refine W.q (Ev.move (.t rfl)) rfl ?_
        refine W.q (Ev.gti (.t rfl) .k) rfl ?_
        refine W.nil ?_
        refine W.then ?_
        refine W.is (t := 30) (g := true) (av' := .lit (.bool false)) rfl (congrArg (fun b => AV.lit (.bool b)) (by exact decide_eq_false (by omega))) ?_
        refine W.condF (.t rfl) ?_
        refine W.exit ?_
        refine W.then_exit ?_
        refine W.then_exit ?_
        refine W.blk_hit ?_
        refine W.then ?_
        refine W.seq ?_
        refine W.region ?_
        refine W.q (Ev.move (.t rfl)) rfl ?_
        refine W.q (Ev.cat .k (.t rfl) (fun _ => by first | omega | (simp only [List.length_append]; omega) | (simp [-List.length_flatMap]; omega) | (simp; omega))) rfl ?_
        refine W.q (Ev.cat (.t rfl) .k (fun _ => by first | omega | (simp only [List.length_append]; omega) | (simp [-List.length_flatMap]; omega) | (simp; omega))) rfl ?_
        refine W.call (WUne.c_Une T tp p (([38, 35] ++ Une.dg 10 x) ++ [59]) (by simp only [List.length_append, List.length_cons, List.length_nil]; omega)) ⟨(.t rfl), trivial⟩ (.refl _) rfl ?_
        rintro _ _ ⟨rfl, rfl⟩
        rw [hU10]
        refine W.q (Ev.assign (.t rfl)) rfl ?_
        refine W.nil ?_
        refine W.then ?_
        refine W.seq ?_
        refine W.region ?_
        refine W.call (WSureV.c_sureV T tp p) trivial (.refl _) rfl ?_
        rintro _ _ ⟨rfl, rfl⟩
        refine W.q (Ev.move (.t rfl)) rfl ?_
        refine W.gyes rfl rfl ?_
        refine W.q (Ev.move (.t rfl)) rfl ?_
        refine W.gyes rfl rfl ?_
        refine W.q (Ev.move (.t rfl)) rfl ?_
        refine W.gyes rfl rfl ?_
        refine W.q (Ev.cat .k (.t rfl) (fun _ => by first | omega | (simp only [List.length_append]; omega) | (simp [-List.length_flatMap]; omega) | (simp; omega))) rfl ?_
        refine W.gyes rfl rfl ?_
        refine W.q (Ev.cat (.t rfl) .k (fun _ => by first | omega | (simp only [List.length_append]; omega) | (simp [-List.length_flatMap]; omega) | (simp; omega))) rfl ?_
        refine W.gyes rfl rfl ?_
        refine W.call (WUne.c_Une T tp p (([38, 35, 120] ++ Une.dg 16 x) ++ [59]) (by simp only [List.length_append, List.length_cons, List.length_nil]; omega)) ⟨(.t rfl), trivial⟩ (.refl _) rfl ?_
        rintro _ _ ⟨rfl, rfl⟩
        rw [hUx]
        refine W.gyes rfl rfl ?_
        refine W.q (Ev.eqs (.t rfl) (.t rfl)) rfl ?_
        refine W.q (Ev.and (.t rfl) ⟨_, _, rfl, rfl, by first | (simp; done) | (intro hg_ hp_; simp [hp_]; done) | (simp <;> omega; done) | (simp_all; done) | grind⟩) rfl ?_
        refine W.q (Ev.move (.t rfl)) rfl ?_
        refine W.is (t := 52) (g := true) (av' := .bool true) rfl (congrArg AV.bool (by simp; try omega)) ?_
        refine W.gyes rfl rfl ?_
        refine W.q (Ev.move (.t rfl)) rfl ?_
        refine W.gyes rfl rfl ?_
        refine W.q (Ev.move (.t rfl)) rfl ?_
        refine W.gyes rfl rfl ?_
        refine W.q (Ev.cat .k (.t rfl) (fun _ => by first | omega | (simp only [List.length_append]; omega) | (simp [-List.length_flatMap]; omega) | (simp; omega))) rfl ?_
        refine W.gyes rfl rfl ?_
        refine W.q (Ev.cat (.t rfl) .k (fun _ => by first | omega | (simp only [List.length_append]; omega) | (simp [-List.length_flatMap]; omega) | (simp; omega))) rfl ?_
        refine W.gyes rfl rfl ?_
        refine W.call (WUne.c_Une T tp p (([38, 35, 88] ++ Une.dg 16 x) ++ [59]) (by simp only [List.length_append, List.length_cons, List.length_nil]; omega)) ⟨(.t rfl), trivial⟩ (.refl _) rfl ?_
        rintro _ _ ⟨rfl, rfl⟩
        rw [hUX]
        refine W.gyes rfl rfl ?_
        refine W.q (Ev.eqs (.t rfl) (.t rfl)) rfl ?_
        refine W.q (Ev.and (.t rfl) ⟨_, _, rfl, rfl, by first | (simp; done) | (intro hg_ hp_; simp [hp_]; done) | (simp <;> omega; done) | (simp_all; done) | grind⟩) rfl ?_
        refine W.q (Ev.move (.t rfl)) rfl ?_
        refine W.is (t := 60) (g := true) (av' := .bool true) rfl (congrArg AV.bool (by simp; try omega)) ?_
        refine W.gyes rfl rfl ?_
        refine W.q (Ev.move (.t rfl)) rfl ?_
        refine W.gyes rfl rfl ?_
        refine W.q (Ev.lens (.t rfl) Tryd.underlying9) rfl ?_
        refine W.gyes rfl rfl ?_
        refine W.q (Ev.gti (.t rfl) .k) rfl ?_
        refine W.q (Ev.and (.t rfl) ⟨_, _, rfl, rfl, by first | (simp; done) | (intro hg_ hp_; simp [hp_]; done) | (simp <;> omega; done) | (simp_all; done) | grind⟩) rfl ?_
        refine W.q (Ev.move (.t rfl)) rfl ?_
        refine W.is (t := 65) (g := true) (av' := .bool true) rfl (congrArg AV.bool (by simp; try omega)) ?_
        refine W.gyes rfl rfl ?_
        refine W.q (Ev.move (.t rfl)) rfl ?_
        refine W.gyes rfl rfl ?_
        refine W.q (Ev.cat .k (.t rfl) (fun _ => by first | omega | (simp only [List.length_append]; omega) | (simp [-List.length_flatMap]; omega) | (simp; omega))) rfl ?_
        refine W.gyes rfl rfl ?_
        refine W.call (WUne.c_Une T tp p ([38, 35] ++ Une.dg 10 x) (by simp only [List.length_append, List.length_cons, List.length_nil]; omega)) ⟨(.t rfl), trivial⟩ (.refl _) rfl ?_
        rintro _ _ ⟨rfl, rfl⟩
        rw [hUo]
        refine W.gyes rfl rfl ?_
        refine W.q (Ev.move (.t rfl)) rfl ?_
        refine W.gyes rfl rfl ?_
        refine W.q (Ev.cat .k (.t rfl) (fun _ => by first | omega | (simp only [List.length_append]; omega) | (simp [-List.length_flatMap]; omega) | (simp; omega))) rfl ?_
        refine W.gyes rfl rfl ?_
        refine W.q (Ev.eqs (.t rfl) (.t rfl)) rfl ?_
        refine W.q (Ev.and (.t rfl) ⟨_, _, rfl, rfl, by first | (simp; done) | (intro hg_ hp_; simp [hp_]; done) | (simp <;> omega; done) | (simp_all; done) | grind⟩) rfl ?_
        refine W.q (Ev.assign (.t rfl)) rfl ?_
        refine W.nil ?_
        refine W.then ?_
        refine W.ret ?_
        refine W.retn (M' := [ifv 3 T tp p]) (D := []) (rs := [.tmp 2]) (avs := [_]) Tryd.results7 ⟨rfl, trivial⟩ rfl (by first | exact .refl _ | (rw [List.append_nil]; exact .refl _)) ?_
        exact ⟨congrArg AV.bool (by simp), rfl⟩
      · have hm : y % 16 < 16 := Nat.mod_lt _ (by decide)
        have hlA : ([48, 49, 50, 51, 52, 53, 54, 55, 56, 57, 97, 98, 99, 100, 101, 102] : List UInt8).length = 16 := rfl
        have hAd : (([48, 49, 50, 51, 52, 53, 54, 55, 56, 57, 97, 98, 99, 100, 101, 102] : List UInt8).drop (y % 16)).length = 16 - y % 16 := by rw [List.length_drop]; rfl
        have hst : Une.dg 16 (y / 16) ++ ([Une.dc (y % 16)] ++ acc) = Une.dg 16 x := by rw [← hy, Une.dg_pos 16 y (by decide) hlt, List.append_assoc]
        have hal2 : ([Une.dc (y % 16)] ++ acc).length ≤ 8 := by
          have h1 := congrArg List.length hst
          rw [List.length_append] at h1
          have h2 := hd16
          omega
        refine W.seq ?_
        refine W.seq ?_
        refine W.region ?_
        refine W.q (Ev.move (.t rfl)) rfl ?_
        refine W.q (Ev.gti (.t rfl) .k) rfl ?_
        refine W.nil ?_
        refine W.then ?_
        refine W.is (t := 30) (g := true) (av' := .lit (.bool true)) rfl (congrArg (fun b => AV.lit (.bool b)) (by exact decide_eq_true (by omega))) ?_
        refine W.condT (.t rfl) ?_
        refine W.skip ?_
        refine W.then ?_
        refine W.seq ?_
        refine W.block ?_
        refine W.region ?_
        refine W.q (Ev.move (.t rfl)) rfl ?_
        first | refine W.q (Ev.rem (.t rfl) .k (fun _ => by decide)) rfl ?_ | refine W.q (Ev.rem (.t rfl) .k (fun _ => by omega)) rfl ?_
        refine W.is (t := 34) (g := true) (av' := .int ((y % 16 : Nat) : Int)) rfl rfl ?_
        refine W.q (Ev.subs (lo := some (.tmp 34)) (hi := none) .k Tryd.underlying9 (.t rfl) rfl (fun _ => by omega)) rfl ?_
        refine W.is (t := 35) (g := true) (av' := .str (([48, 49, 50, 51, 52, 53, 54, 55, 56, 57, 97, 98, 99, 100, 101, 102] : List UInt8).drop (y % 16))) rfl (congrArg AV.str (by rw [Int.toNat_natCast]; rfl)) ?_
        refine W.q (Ev.subs (lo := none) (hi := some (.const (.int .i64 1))) (.t rfl) Tryd.underlying9 rfl (Ov.k (g := true) (L := [])) (fun _ => by omega)) rfl ?_
        refine W.is (t := 36) (g := true) (av' := .str [Une.dc (y % 16)]) rfl (congrArg AV.str (by first | exact Une.dig1 16 _ hm (by decide) _ rfl | (rw [← Une.dig1 16 _ hm (by decide) _ rfl]; simp))) ?_
        refine W.q (Ev.move (.t rfl)) rfl ?_
        refine W.q (Ev.cat (.t rfl) (.t rfl) (fun _ => by first | omega | (simp only [List.length_append]; omega) | (simp [-List.length_flatMap]; omega) | (simp; omega))) rfl ?_
        refine W.q (Ev.assign (.t rfl)) rfl ?_
        refine W.nil ?_
        refine W.blk_normal ?_
        refine W.then ?_
        refine W.region ?_
        refine W.q (Ev.move (.t rfl)) rfl ?_
        first | refine W.q (Ev.quo (.t rfl) .k (fun _ => by decide)) rfl ?_ | refine W.q (Ev.quo (.t rfl) .k (fun _ => by omega)) rfl ?_
        refine W.is (t := 32) (g := true) (av' := .int ((y / 16 : Nat) : Int)) rfl (congrArg AV.int (by rw [show ((y : Int)).tdiv 16 = ((y / 16 : Nat) : Int) from rfl]; exact IntWalk.i64_in _ (by have := Nat.div_le_self y 16; omega))) ?_
        refine W.q (Ev.assign (.t rfl)) rfl ?_
        refine W.nil ?_
        refine W.then ?_
        refine W.reach (D := []) (y / 16, [Une.dc (y % 16)] ++ acc) ⟨rfl, rfl, rfl,  trivial⟩ (by first | exact .refl _ | (rw [List.append_nil]; exact .refl _)) ⟨⟨hst, Nat.le_trans (Nat.div_le_self _ _) hyx, hal2⟩, Nat.div_lt_self hlt (by decide)⟩
    · have hm : y % 10 < 10 := Nat.mod_lt _ (by decide)
      have hlA : ([48, 49, 50, 51, 52, 53, 54, 55, 56, 57] : List UInt8).length = 10 := rfl
      have hAd : (([48, 49, 50, 51, 52, 53, 54, 55, 56, 57] : List UInt8).drop (y % 10)).length = 10 - y % 10 := by rw [List.length_drop]; rfl
      have hst : Une.dg 10 (y / 10) ++ ([Une.dc (y % 10)] ++ acc) = Une.dg 10 x := by rw [← hy, Une.dg_pos 10 y (by decide) hlt, List.append_assoc]
      have hal2 : ([Une.dc (y % 10)] ++ acc).length ≤ 8 := by
        have h1 := congrArg List.length hst
        rw [List.length_append] at h1
        have h2 := hd10
        omega
      refine W.seq ?_
      refine W.seq ?_
      refine W.region ?_
      refine W.q (Ev.move (.t rfl)) rfl ?_
      refine W.q (Ev.gti (.t rfl) .k) rfl ?_
      refine W.nil ?_
      refine W.then ?_
      refine W.is (t := 19) (g := true) (av' := .lit (.bool true)) rfl (congrArg (fun b => AV.lit (.bool b)) (by exact decide_eq_true (by omega))) ?_
      refine W.condT (.t rfl) ?_
      refine W.skip ?_
      refine W.then ?_
      refine W.seq ?_
      refine W.block ?_
      refine W.region ?_
      refine W.q (Ev.move (.t rfl)) rfl ?_
      first | refine W.q (Ev.rem (.t rfl) .k (fun _ => by decide)) rfl ?_ | refine W.q (Ev.rem (.t rfl) .k (fun _ => by omega)) rfl ?_
      refine W.is (t := 23) (g := true) (av' := .int ((y % 10 : Nat) : Int)) rfl rfl ?_
      refine W.q (Ev.subs (lo := some (.tmp 23)) (hi := none) .k Tryd.underlying9 (.t rfl) rfl (fun _ => by omega)) rfl ?_
      refine W.is (t := 24) (g := true) (av' := .str (([48, 49, 50, 51, 52, 53, 54, 55, 56, 57] : List UInt8).drop (y % 10))) rfl (congrArg AV.str (by rw [Int.toNat_natCast]; rfl)) ?_
      refine W.q (Ev.subs (lo := none) (hi := some (.const (.int .i64 1))) (.t rfl) Tryd.underlying9 rfl (Ov.k (g := true) (L := [])) (fun _ => by omega)) rfl ?_
      refine W.is (t := 25) (g := true) (av' := .str [Une.dc (y % 10)]) rfl (congrArg AV.str (by first | exact Une.dig1 10 _ hm (by decide) _ rfl | (rw [← Une.dig1 10 _ hm (by decide) _ rfl]; simp))) ?_
      refine W.q (Ev.move (.t rfl)) rfl ?_
      refine W.q (Ev.cat (.t rfl) (.t rfl) (fun _ => by first | omega | (simp only [List.length_append]; omega) | (simp [-List.length_flatMap]; omega) | (simp; omega))) rfl ?_
      refine W.q (Ev.assign (.t rfl)) rfl ?_
      refine W.nil ?_
      refine W.blk_normal ?_
      refine W.then ?_
      refine W.region ?_
      refine W.q (Ev.move (.t rfl)) rfl ?_
      first | refine W.q (Ev.quo (.t rfl) .k (fun _ => by decide)) rfl ?_ | refine W.q (Ev.quo (.t rfl) .k (fun _ => by omega)) rfl ?_
      refine W.is (t := 21) (g := true) (av' := .int ((y / 10 : Nat) : Int)) rfl (congrArg AV.int (by rw [show ((y : Int)).tdiv 10 = ((y / 10 : Nat) : Int) from rfl]; exact IntWalk.i64_in _ (by have := Nat.div_le_self y 10; omega))) ?_
      refine W.q (Ev.assign (.t rfl)) rfl ?_
      refine W.nil ?_
      refine W.then ?_
      refine W.reach (D := []) (y / 10, [Une.dc (y % 10)] ++ acc) ⟨rfl, rfl, rfl,  trivial⟩ (by first | exact .refl _ | (rw [List.append_nil]; exact .refl _)) ⟨⟨hst, Nat.le_trans (Nat.div_le_self _ _) hyx, hal2⟩, Nat.div_lt_self hlt (by decide)⟩

end LRefNumbers

end Go.Proofs.YtohncieijjhnjaaDoor
