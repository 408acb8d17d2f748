/-
  Merged: WSyn WNumb WLetter2 WUne WStr WEsc WSureV WLet.
-/
import Derived.Test.YtohncieijjhnjaaDoorG7

section
set_option linter.unusedVariables false
set_option linter.unusedSimpArgs false
set_option maxRecDepth 100000
namespace Go.Proofs.YtohncieijjhnjaaDoor
open Go.Vl

namespace WSyn

theorem c_syntaxError (T tp : TypeId) (p : Value) (a s : List UInt8) (hs : s.length ≤ 1048576) : FnC Tryd.prog 83 [.str a, .str s] [ifv 3 T tp p] (fun r M => (∃ N, r = .lit (.pointer (some ⟨N, 0, none⟩))) ∧ M = [ifv 3 T tp p]) := by
  refine FnC.belowE (CallOk.of Tryd.func83 (by kernel_rfl) (by kernel_rfl)) fun w F vs hm ha => ?_
  simp only [RepT] at ha
  obtain ⟨v0, _, rfl, h0, v1, _, rfl, h1, rfl⟩ := ha
  rw [show v0 = _ from Rep.lit_iff.1 (show Rep w _ (.str a) v0 from h0), show v1 = _ from Rep.lit_iff.1 (show Rep w _ (.str s) v1 from h1)]
  obtain ⟨_, cur, hc, hrl⟩ := hm.holds _ List.mem_cons_self
  have hcell : w.cell? ⟨3, 0, none⟩ = some (.iface tp p) := by
    simp only [RepL] at hrl
    obtain ⟨u, us, e, ⟨h1, h2, h3⟩, rfl⟩ := hrl
    have hu : u = .iface tp p := lit_cell h1 h3
    rw [hu] at e
    rw [cell_of hc, ← Array.getElem?_toList, e]; rfl
  refine (Go.Proofs.Tryd.strconv_syntaxError ⟨a.toArray⟩ ⟨s.toArray⟩ _ w (by simp [ByteArray.size]; omega) hcell (.inr ⟨tp, p, rfl⟩)).mono ?_
  rintro e w' ⟨N, he, _, _, hb⟩
  exact ⟨_, .lit (.pointer (some ⟨N, 0, none⟩)), he, ⟨N, rfl⟩, Rep.lit _, hb⟩

theorem c_toError (T tp : TypeId) (p : Value) (s : List UInt8) (b : Int) (hs : s.length ≤ 1048576) : FnC Tryd.prog 72 [.str [80, 97, 114, 115, 101, 73, 110, 116], .str s, .int b, .int 64, .lit (.iface 138 (.int .i64 2))] [ifv 3 T tp p] (fun r M => (∃ u v, r = .lit (.iface u v)) ∧ M = [ifv 3 T tp p]) :=  by
  refine FnC.mk Tryd.func72 (by kernel_rfl) rfl Tryd.ntmps72 rfl (fun w0 F => ?_)
  refine W.seq ?_
  refine W.region ?_
  refine W.q (Ev.assign .k) rfl ?_
  refine W.nil ?_
  refine W.then ?_
  refine W.seq ?_
  refine W.seq ?_
  refine W.region ?_
  refine W.q (Ev.move (.t rfl)) rfl ?_
  refine W.nil ?_
  refine W.then ?_
  refine W.block ?_
  refine W.seq ?_
  refine W.region ?_
  refine W.q (Ev.mkif .k Tryd.underlying138 (by intro ms h; cases h)) rfl ?_
  refine W.q (Ev.eqif (.t rfl) (.t rfl) Tryd.underlying50 (by kernel_rfl) Tryd.underlying138) rfl ?_
  refine W.q (Ev.assign (.t rfl)) rfl ?_
  refine W.nil ?_
  refine W.then ?_
  refine W.is (t := 12) (g := true) (av' := .lit (.bool true)) rfl (congrArg (fun b => AV.lit (.bool b)) (by decide)) ?_
  refine W.condT (.t rfl) ?_
  refine W.seq ?_
  refine W.region ?_
  refine W.q (Ev.move (.t rfl)) rfl ?_
  refine W.q (Ev.move (.t rfl)) rfl ?_
  refine W.call (c_syntaxError T tp p [80, 97, 114, 115, 101, 73, 110, 116] s hs) ⟨(.t rfl), (.t rfl), trivial⟩ (.refl _) rfl ?_
  rintro _ _ ⟨⟨N, rfl⟩, rfl⟩
  refine W.q (Ev.mkif (.t rfl) Tryd.underlying142 (by intro ms h; cases h)) rfl ?_
  refine W.q (Ev.assign (.t rfl)) rfl ?_
  refine W.nil ?_
  refine W.then ?_
  refine W.ret ?_
  refine W.blk_ret ?_
  refine W.then_ret ?_
  refine W.retn (M' := [ifv 3 T tp p]) (D := []) (rs := [.tmp 10]) (avs := [_]) Tryd.results72 ⟨rfl, trivial⟩ rfl (by first | exact .refl _ | (rw [List.append_nil]; exact .refl _)) ?_
  exact ⟨⟨_, _, rfl⟩, rfl⟩

theorem c_Pok10 (T tp : TypeId) (p : Value) (s : List UInt8) (hne : s ≠ []) (hl : s.length ≤ 7) (hu : s.any Une.sgn = false) (hok : Une.okd 10 s = true) : FnC Tryd.prog 57 [.str s, .int 10, .int 64] [ifv 3 T tp p] (fun r M => r = .tup [.lit (.int .i64 (Une.val 10 s : Int)), .lit .nilIface] ∧ M = [ifv 3 T tp p]) :=  by
  refine FnC.mk Tryd.func57 (by kernel_rfl) rfl Tryd.ntmps57 rfl (fun w0 F => ?_)
  refine W.seq ?_
  refine W.region ?_
  refine W.q (Ev.assign .k) rfl ?_
  refine W.q (Ev.assign .k) rfl ?_
  refine W.nil ?_
  refine W.then ?_
  refine W.seq ?_
  refine W.region ?_
  refine W.q (Ev.move (.t rfl)) rfl ?_
  refine W.q (Ev.move (.t rfl)) rfl ?_
  refine W.q (Ev.move (.t rfl)) rfl ?_
  refine W.callp (WInts.c_PI101 s hne hl hu hok) ⟨(.t rfl), (.t rfl), (.t rfl), trivial⟩ rfl ?_
  refine W.q (Ev.move (.t rfl)) rfl ?_
  refine W.q (Ev.extract (.t rfl) rfl) rfl ?_
  refine W.q (Ev.extract (.t rfl) rfl) rfl ?_
  refine W.q (Ev.assign (.t rfl)) rfl ?_
  refine W.q (Ev.assign (.t rfl)) rfl ?_
  refine W.nil ?_
  refine W.then ?_
  refine W.seq ?_
  refine W.seq ?_
  refine W.region ?_
  refine W.q (Ev.move (.t rfl)) rfl ?_
  first | refine W.q (Ev.nenif (.t rfl) (by kernel_rfl)) rfl ?_ | refine W.q (Ev.nenn (.t rfl) (by kernel_rfl)) rfl ?_
  refine W.nil ?_
  refine W.then ?_
  refine W.is (t := 17) (g := true) (av' := .lit (.bool false)) rfl (congrArg (fun b => AV.lit (.bool b)) (by rfl)) ?_
  refine W.condF (.t rfl) ?_
  refine W.skip ?_
  refine W.then ?_
  refine W.seq ?_
  refine W.region ?_
  refine W.q (Ev.move (.t rfl)) rfl ?_
  refine W.q (Ev.assign (.t rfl)) rfl ?_
  refine W.q (Ev.assign .k) rfl ?_
  refine W.nil ?_
  refine W.then ?_
  refine W.ret ?_
  refine W.retn (M' := [ifv 3 T tp p]) (D := []) (rs := [.tmp 6, .tmp 7]) (avs := [_, _]) Tryd.results57 ⟨rfl, rfl, trivial⟩ rfl (by first | exact .refl _ | (rw [List.append_nil]; exact .refl _)) ?_
  exact ⟨rfl, rfl⟩

theorem c_Pno10 (T tp : TypeId) (p : Value) (s : List UInt8) (hne : s ≠ []) (hl : s.length ≤ 7) (hu : s.any Une.sgn = false) (hok : Une.okd 10 s = false) : FnC Tryd.prog 57 [.str s, .int 10, .int 64] [ifv 3 T tp p] (fun r M => (∃ u v, r = .tup [.lit (.int .i64 0), .lit (.iface u v)]) ∧ M = [ifv 3 T tp p]) :=  by
  refine FnC.mk Tryd.func57 (by kernel_rfl) rfl Tryd.ntmps57 rfl (fun w0 F => ?_)
  refine W.seq ?_
  refine W.region ?_
  refine W.q (Ev.assign .k) rfl ?_
  refine W.q (Ev.assign .k) rfl ?_
  refine W.nil ?_
  refine W.then ?_
  refine W.seq ?_
  refine W.region ?_
  refine W.q (Ev.move (.t rfl)) rfl ?_
  refine W.q (Ev.move (.t rfl)) rfl ?_
  refine W.q (Ev.move (.t rfl)) rfl ?_
  refine W.callp (WInts.c_PI100 s hne hl hu hok) ⟨(.t rfl), (.t rfl), (.t rfl), trivial⟩ rfl ?_
  refine W.q (Ev.move (.t rfl)) rfl ?_
  refine W.q (Ev.extract (.t rfl) rfl) rfl ?_
  refine W.q (Ev.extract (.t rfl) rfl) rfl ?_
  refine W.q (Ev.assign (.t rfl)) rfl ?_
  refine W.q (Ev.assign (.t rfl)) rfl ?_
  refine W.nil ?_
  refine W.then ?_
  refine W.seq ?_
  refine W.seq ?_
  refine W.region ?_
  refine W.q (Ev.move (.t rfl)) rfl ?_
  first | refine W.q (Ev.nenif (.t rfl) (by kernel_rfl)) rfl ?_ | refine W.q (Ev.nenn (.t rfl) (by kernel_rfl)) rfl ?_
  refine W.nil ?_
  refine W.then ?_
  refine W.is (t := 17) (g := true) (av' := .lit (.bool true)) rfl (congrArg (fun b => AV.lit (.bool b)) (by rfl)) ?_
  refine W.condT (.t rfl) ?_
  refine W.seq ?_
  refine W.region ?_
  refine W.q (Ev.move (.t rfl)) rfl ?_
  refine W.q (Ev.move (.t rfl)) rfl ?_
  refine W.q (Ev.move (.t rfl)) rfl ?_
  refine W.q (Ev.move (.t rfl)) rfl ?_
  refine W.q (Ev.move (.t rfl)) rfl ?_
  refine W.call (c_toError T tp p s 10 (by omega)) ⟨.k, (.t rfl), (.t rfl), (.t rfl), (.t rfl), trivial⟩ (.refl _) rfl ?_
  rintro _ _ ⟨⟨u23, v23, rfl⟩, rfl⟩
  refine W.q (Ev.assign (.t rfl)) rfl ?_
  refine W.q (Ev.assign (.t rfl)) rfl ?_
  refine W.nil ?_
  refine W.then ?_
  refine W.ret ?_
  refine W.then_ret ?_
  refine W.retn (M' := [ifv 3 T tp p]) (D := []) (rs := [.tmp 6, .tmp 7]) (avs := [_, _]) Tryd.results57 ⟨rfl, rfl, trivial⟩ rfl (by first | exact .refl _ | (rw [List.append_nil]; exact .refl _)) ?_
  exact ⟨⟨_, _, rfl⟩, rfl⟩

theorem c_Pok16 (T tp : TypeId) (p : Value) (s : List UInt8) (hne : s ≠ []) (hl : s.length ≤ 7) (hu : s.any Une.sgn = false) (hok : Une.okd 16 s = true) : FnC Tryd.prog 57 [.str s, .int 16, .int 64] [ifv 3 T tp p] (fun r M => r = .tup [.lit (.int .i64 (Une.val 16 s : Int)), .lit .nilIface] ∧ M = [ifv 3 T tp p]) :=  by
  refine FnC.mk Tryd.func57 (by kernel_rfl) rfl Tryd.ntmps57 rfl (fun w0 F => ?_)
  refine W.seq ?_
  refine W.region ?_
  refine W.q (Ev.assign .k) rfl ?_
  refine W.q (Ev.assign .k) rfl ?_
  refine W.nil ?_
  refine W.then ?_
  refine W.seq ?_
  refine W.region ?_
  refine W.q (Ev.move (.t rfl)) rfl ?_
  refine W.q (Ev.move (.t rfl)) rfl ?_
  refine W.q (Ev.move (.t rfl)) rfl ?_
  refine W.callp (WInts.c_PI161 s hne hl hu hok) ⟨(.t rfl), (.t rfl), (.t rfl), trivial⟩ rfl ?_
  refine W.q (Ev.move (.t rfl)) rfl ?_
  refine W.q (Ev.extract (.t rfl) rfl) rfl ?_
  refine W.q (Ev.extract (.t rfl) rfl) rfl ?_
  refine W.q (Ev.assign (.t rfl)) rfl ?_
  refine W.q (Ev.assign (.t rfl)) rfl ?_
  refine W.nil ?_
  refine W.then ?_
  refine W.seq ?_
  refine W.seq ?_
  refine W.region ?_
  refine W.q (Ev.move (.t rfl)) rfl ?_
  first | refine W.q (Ev.nenif (.t rfl) (by kernel_rfl)) rfl ?_ | refine W.q (Ev.nenn (.t rfl) (by kernel_rfl)) rfl ?_
  refine W.nil ?_
  refine W.then ?_
  refine W.is (t := 17) (g := true) (av' := .lit (.bool false)) rfl (congrArg (fun b => AV.lit (.bool b)) (by rfl)) ?_
  refine W.condF (.t rfl) ?_
  refine W.skip ?_
  refine W.then ?_
  refine W.seq ?_
  refine W.region ?_
  refine W.q (Ev.move (.t rfl)) rfl ?_
  refine W.q (Ev.assign (.t rfl)) rfl ?_
  refine W.q (Ev.assign .k) rfl ?_
  refine W.nil ?_
  refine W.then ?_
  refine W.ret ?_
  refine W.retn (M' := [ifv 3 T tp p]) (D := []) (rs := [.tmp 6, .tmp 7]) (avs := [_, _]) Tryd.results57 ⟨rfl, rfl, trivial⟩ rfl (by first | exact .refl _ | (rw [List.append_nil]; exact .refl _)) ?_
  exact ⟨rfl, rfl⟩

theorem c_Pno16 (T tp : TypeId) (p : Value) (s : List UInt8) (hne : s ≠ []) (hl : s.length ≤ 7) (hu : s.any Une.sgn = false) (hok : Une.okd 16 s = false) : FnC Tryd.prog 57 [.str s, .int 16, .int 64] [ifv 3 T tp p] (fun r M => (∃ u v, r = .tup [.lit (.int .i64 0), .lit (.iface u v)]) ∧ M = [ifv 3 T tp p]) :=  by
  refine FnC.mk Tryd.func57 (by kernel_rfl) rfl Tryd.ntmps57 rfl (fun w0 F => ?_)
  refine W.seq ?_
  refine W.region ?_
  refine W.q (Ev.assign .k) rfl ?_
  refine W.q (Ev.assign .k) rfl ?_
  refine W.nil ?_
  refine W.then ?_
  refine W.seq ?_
  refine W.region ?_
  refine W.q (Ev.move (.t rfl)) rfl ?_
  refine W.q (Ev.move (.t rfl)) rfl ?_
  refine W.q (Ev.move (.t rfl)) rfl ?_
  refine W.callp (WInts.c_PI160 s hne hl hu hok) ⟨(.t rfl), (.t rfl), (.t rfl), trivial⟩ rfl ?_
  refine W.q (Ev.move (.t rfl)) rfl ?_
  refine W.q (Ev.extract (.t rfl) rfl) rfl ?_
  refine W.q (Ev.extract (.t rfl) rfl) rfl ?_
  refine W.q (Ev.assign (.t rfl)) rfl ?_
  refine W.q (Ev.assign (.t rfl)) rfl ?_
  refine W.nil ?_
  refine W.then ?_
  refine W.seq ?_
  refine W.seq ?_
  refine W.region ?_
  refine W.q (Ev.move (.t rfl)) rfl ?_
  first | refine W.q (Ev.nenif (.t rfl) (by kernel_rfl)) rfl ?_ | refine W.q (Ev.nenn (.t rfl) (by kernel_rfl)) rfl ?_
  refine W.nil ?_
  refine W.then ?_
  refine W.is (t := 17) (g := true) (av' := .lit (.bool true)) rfl (congrArg (fun b => AV.lit (.bool b)) (by rfl)) ?_
  refine W.condT (.t rfl) ?_
  refine W.seq ?_
  refine W.region ?_
  refine W.q (Ev.move (.t rfl)) rfl ?_
  refine W.q (Ev.move (.t rfl)) rfl ?_
  refine W.q (Ev.move (.t rfl)) rfl ?_
  refine W.q (Ev.move (.t rfl)) rfl ?_
  refine W.q (Ev.move (.t rfl)) rfl ?_
  refine W.call (c_toError T tp p s 16 (by omega)) ⟨.k, (.t rfl), (.t rfl), (.t rfl), (.t rfl), trivial⟩ (.refl _) rfl ?_
  rintro _ _ ⟨⟨u23, v23, rfl⟩, rfl⟩
  refine W.q (Ev.assign (.t rfl)) rfl ?_
  refine W.q (Ev.assign (.t rfl)) rfl ?_
  refine W.nil ?_
  refine W.then ?_
  refine W.ret ?_
  refine W.then_ret ?_
  refine W.retn (M' := [ifv 3 T tp p]) (D := []) (rs := [.tmp 6, .tmp 7]) (avs := [_, _]) Tryd.results57 ⟨rfl, rfl, trivial⟩ rfl (by first | exact .refl _ | (rw [List.append_nil]; exact .refl _)) ?_
  exact ⟨⟨_, _, rfl⟩, rfl⟩

end WSyn

end Go.Proofs.YtohncieijjhnjaaDoor
end

section
set_option linter.unusedVariables false
set_option linter.unusedSimpArgs false
set_option maxRecDepth 100000
namespace Go.Proofs.YtohncieijjhnjaaDoor
open Go.Vl

namespace WNumb

theorem c_num101 (T tp : TypeId) (p : Value) (ds : List UInt8) (hb : ds.length ≤ 1099511627776) (hok : Une.okd 10 ds = true) : FnC Tryd.prog 42 [.str ds, .int 10, .int 7] [ifv 3 T tp p] (fun r M => r = .tup [.lit (.int .i32 ((Une.num 10 7 ds).1 : Int)), .bool (Une.num 10 7 ds).2] ∧ M = [ifv 3 T tp p]) :=  by
  refine FnC.mk Tryd.func42 (by kernel_rfl) rfl Tryd.ntmps42 rfl (fun w0 F => ?_)
  refine W.seq ?_
  refine W.region ?_
  refine W.q (Ev.assign .k) rfl ?_
  refine W.q (Ev.assign .k) rfl ?_
  refine W.nil ?_
  refine W.then ?_
  refine W.seq ?_
  refine W.seq ?_
  refine W.region ?_
  refine W.q (Ev.move (.t rfl)) rfl ?_
  refine W.q (Ev.eqs (.t rfl) .k) rfl ?_
  refine W.q (Ev.move (.t rfl)) rfl ?_
  refine W.qgF rfl rfl (Ev.move (.t rfl)) rfl ?_
  refine W.qgF rfl rfl (Ev.lens (.c rfl) Tryd.underlying9) rfl ?_
  refine W.qgF rfl rfl (Ev.move (.t rfl)) rfl ?_
  refine W.qgF rfl rfl (Ev.gti (.c rfl) (.c rfl)) rfl ?_
  refine W.q (Ev.or (.t rfl) ⟨_, _, rfl, rfl, by first | (simp; done) | (intro hg_ hp_; simp [hp_]; done) | (simp <;> omega; done) | (simp_all; done) | grind⟩) rfl ?_
  refine W.q (Ev.move (.t rfl)) rfl ?_
  refine W.qgF rfl rfl (Ev.move (.t rfl)) rfl ?_
  refine W.callgF (Min := []) (caps := []) (avs := [_, _]) rfl rfl (fun hg => WIxAny.c_ContainsAny ds (by simp at hg; omega)) (fun hg => .f) (fun hg => ⟨(.i rfl (fun _ => hg)), .k, trivial⟩) rfl (.refl _) rfl ?_
  refine W.q (Ev.or (.t rfl) ⟨_, _, rfl, rfl, by first | (simp; done) | (intro hg_ hp_; simp [hp_]; done) | (simp <;> omega; done) | (simp_all; done) | grind⟩) rfl ?_
  refine W.nil ?_
  refine W.then ?_
  refine W.cond (.t rfl) (fun hc_t21 => ?_) (fun hc_t21 => ?_)
  · have hnum : Une.num 10 7 ds = (0, false) := by
      unfold Une.num
      refine if_pos ?_
      simp only [Bool.or_eq_true, decide_eq_true_eq, beq_iff_eq] at hc_t21
      rcases hc_t21 with (h | h) | h
      · exact .inl h
      · exact .inr (.inl (by omega))
      · exact .inr (.inr (.inl h))
    refine W.seq ?_
    refine W.region ?_
    refine W.q (Ev.assign .k) rfl ?_
    refine W.q (Ev.assign .k) rfl ?_
    refine W.nil ?_
    refine W.then ?_
    refine W.ret ?_
    refine W.then_ret ?_
    refine W.retn (M' := [ifv 3 T tp p]) (D := []) (rs := [.tmp 6, .tmp 7]) (avs := [_, _]) Tryd.results42 ⟨rfl, rfl, trivial⟩ rfl (by first | exact .refl _ | (rw [List.append_nil]; exact .refl _)) ?_
    exact ⟨by rw [hnum]; first | rfl | (rw [hrn]; rfl), rfl⟩
  · have hno : ds ≠ [] ∧ ds.length ≤ 7 ∧ ds.any Une.sgn = false := by
      simp only [Bool.or_eq_false_iff, decide_eq_false_iff_not, beq_eq_false_iff_ne, ne_eq] at hc_t21
      exact ⟨hc_t21.1.1, by omega, hc_t21.2⟩
    obtain ⟨hne, hl6, hu⟩ := hno
    have hl : ds.length ≤ 7 := by omega
    have hnum : Une.num 10 7 ds = (Une.rune (Une.val 10 ds), true) := by
      unfold Une.num
      refine if_neg ?_
      rintro (h | h | h | h)
      · exact hne h
      · omega
      · rw [hu] at h; cases h
      · rw [hok] at h; cases h
    have hvs := Une.val_small 10 (by decide) ds hl hok
    refine W.skip ?_
    refine W.then ?_
    refine W.seq ?_
    refine W.region ?_
    refine W.q (Ev.move (.t rfl)) rfl ?_
    refine W.q (Ev.move (.t rfl)) rfl ?_
    refine W.call (WSyn.c_Pok10 T tp p ds hne hl hu hok) ⟨(.t rfl), (.t rfl), .k, trivial⟩ (.refl _) rfl ?_
    rintro _ _ ⟨rfl, rfl⟩
    refine W.q (Ev.move (.t rfl)) rfl ?_
    refine W.q (Ev.extract (.t rfl) rfl) rfl ?_
    refine W.q (Ev.extract (.t rfl) rfl) rfl ?_
    refine W.q (Ev.assign (.t rfl)) rfl ?_
    refine W.q (Ev.assign (.t rfl)) rfl ?_
    refine W.nil ?_
    refine W.then ?_
    refine W.seq ?_
    refine W.seq ?_
    refine W.region ?_
    refine W.q (Ev.move (.t rfl)) rfl ?_
    first | refine W.q (Ev.nenif (.t rfl) (by kernel_rfl)) rfl ?_ | refine W.q (Ev.nenn (.t rfl) (by kernel_rfl)) rfl ?_
    refine W.nil ?_
    refine W.then ?_
    refine W.is (t := 29) (g := true) (av' := .lit (.bool false)) rfl (congrArg (fun b => AV.lit (.bool b)) (by rfl)) ?_
    refine W.condF (.t rfl) ?_
    refine W.skip ?_
    refine W.then ?_
    refine W.seq ?_
    refine W.seq ?_
    refine W.region ?_
    refine W.q (Ev.move (.t rfl)) rfl ?_
    refine W.q (Ev.eqi (.t rfl) .k) rfl ?_
    refine W.q (Ev.move (.t rfl)) rfl ?_
    refine W.qgF rfl rfl (Ev.move (.t rfl)) rfl ?_
    refine W.qgF rfl rfl (Ev.gti (.c rfl) .k) rfl ?_
    refine W.q (Ev.or (.t rfl) ⟨_, _, rfl, rfl, by first | (simp; done) | (intro hg_ hp_; simp [hp_]; done) | (simp <;> omega; done) | (simp_all; done) | grind⟩) rfl ?_
    refine W.q (Ev.move (.t rfl)) rfl ?_
    refine W.qgF rfl rfl (Ev.move (.t rfl)) rfl ?_
    refine W.qgF rfl rfl (Ev.conv (.c rfl) ⟨_, Tryd.underlying2⟩ Tryd.underlying21) rfl ?_
    refine W.callgF (Min := []) (caps := []) (avs := [_]) rfl rfl (fun hg => WPut2.c_ValidRune _) (fun hg => .f) (fun hg => ⟨(.i rfl (fun _ => hg)), trivial⟩) rfl (.refl _) rfl ?_
    refine W.qgF rfl rfl (Ev.not (.c rfl)) rfl ?_
    refine W.q (Ev.or (.t rfl) ⟨_, _, rfl, rfl, by first | (simp; done) | (intro hg_ hp_; simp [hp_]; done) | (simp <;> omega; done) | (simp_all; done) | grind⟩) rfl ?_
    refine W.nil ?_
    refine W.then ?_
    refine W.cond (.t rfl) (fun hc_t41 => ?_) (fun hc_t41 => ?_)
    · have hrn : Une.rune (Une.val 10 ds) = 65533 := Une.rune_t _ hc_t41
      refine W.seq ?_
      refine W.region ?_
      refine W.q (Ev.assign .k) rfl ?_
      refine W.q (Ev.assign .k) rfl ?_
      refine W.nil ?_
      refine W.then ?_
      refine W.ret ?_
      refine W.then_ret ?_
      refine W.retn (M' := [ifv 3 T tp p]) (D := []) (rs := [.tmp 6, .tmp 7]) (avs := [_, _]) Tryd.results42 ⟨rfl, rfl, trivial⟩ rfl (by first | exact .refl _ | (rw [List.append_nil]; exact .refl _)) ?_
      exact ⟨by rw [hnum]; first | rfl | (rw [hrn]; rfl), rfl⟩
    · obtain ⟨hrn, hr1⟩ := Une.rune_f _ (by omega) hc_t41
      refine W.skip ?_
      refine W.then ?_
      refine W.seq ?_
      refine W.region ?_
      refine W.q (Ev.move (.t rfl)) rfl ?_
      refine W.q (Ev.conv (.t rfl) ⟨_, Tryd.underlying2⟩ Tryd.underlying21) rfl ?_
      refine W.is (t := 43) (g := true) (av' := .lit (.int .i32 (Une.val 10 ds : Int))) rfl (congrArg (fun z => AV.lit (.int .i32 z)) (IntWalk.i32_in _ (by omega))) ?_
      refine W.q (Ev.assign (.t rfl)) rfl ?_
      refine W.q (Ev.assign .k) rfl ?_
      refine W.nil ?_
      refine W.then ?_
      refine W.ret ?_
      refine W.retn (M' := [ifv 3 T tp p]) (D := []) (rs := [.tmp 6, .tmp 7]) (avs := [_, _]) Tryd.results42 ⟨rfl, rfl, trivial⟩ rfl (by first | exact .refl _ | (rw [List.append_nil]; exact .refl _)) ?_
      exact ⟨by rw [hnum]; first | rfl | (rw [hrn]; rfl), rfl⟩

theorem c_num100 (T tp : TypeId) (p : Value) (ds : List UInt8) (hb : ds.length ≤ 1099511627776) (hok : Une.okd 10 ds = false) : FnC Tryd.prog 42 [.str ds, .int 10, .int 7] [ifv 3 T tp p] (fun r M => r = .tup [.lit (.int .i32 ((Une.num 10 7 ds).1 : Int)), .bool (Une.num 10 7 ds).2] ∧ M = [ifv 3 T tp p]) :=  by
  refine FnC.mk Tryd.func42 (by kernel_rfl) rfl Tryd.ntmps42 rfl (fun w0 F => ?_)
  refine W.seq ?_
  refine W.region ?_
  refine W.q (Ev.assign .k) rfl ?_
  refine W.q (Ev.assign .k) rfl ?_
  refine W.nil ?_
  refine W.then ?_
  refine W.seq ?_
  refine W.seq ?_
  refine W.region ?_
  refine W.q (Ev.move (.t rfl)) rfl ?_
  refine W.q (Ev.eqs (.t rfl) .k) rfl ?_
  refine W.q (Ev.move (.t rfl)) rfl ?_
  refine W.qgF rfl rfl (Ev.move (.t rfl)) rfl ?_
  refine W.qgF rfl rfl (Ev.lens (.c rfl) Tryd.underlying9) rfl ?_
  refine W.qgF rfl rfl (Ev.move (.t rfl)) rfl ?_
  refine W.qgF rfl rfl (Ev.gti (.c rfl) (.c rfl)) rfl ?_
  refine W.q (Ev.or (.t rfl) ⟨_, _, rfl, rfl, by first | (simp; done) | (intro hg_ hp_; simp [hp_]; done) | (simp <;> omega; done) | (simp_all; done) | grind⟩) rfl ?_
  refine W.q (Ev.move (.t rfl)) rfl ?_
  refine W.qgF rfl rfl (Ev.move (.t rfl)) rfl ?_
  refine W.callgF (Min := []) (caps := []) (avs := [_, _]) rfl rfl (fun hg => WIxAny.c_ContainsAny ds (by simp at hg; omega)) (fun hg => .f) (fun hg => ⟨(.i rfl (fun _ => hg)), .k, trivial⟩) rfl (.refl _) rfl ?_
  refine W.q (Ev.or (.t rfl) ⟨_, _, rfl, rfl, by first | (simp; done) | (intro hg_ hp_; simp [hp_]; done) | (simp <;> omega; done) | (simp_all; done) | grind⟩) rfl ?_
  refine W.nil ?_
  refine W.then ?_
  refine W.cond (.t rfl) (fun hc_t21 => ?_) (fun hc_t21 => ?_)
  · have hnum : Une.num 10 7 ds = (0, false) := by
      unfold Une.num
      refine if_pos ?_
      simp only [Bool.or_eq_true, decide_eq_true_eq, beq_iff_eq] at hc_t21
      rcases hc_t21 with (h | h) | h
      · exact .inl h
      · exact .inr (.inl (by omega))
      · exact .inr (.inr (.inl h))
    refine W.seq ?_
    refine W.region ?_
    refine W.q (Ev.assign .k) rfl ?_
    refine W.q (Ev.assign .k) rfl ?_
    refine W.nil ?_
    refine W.then ?_
    refine W.ret ?_
    refine W.then_ret ?_
    refine W.retn (M' := [ifv 3 T tp p]) (D := []) (rs := [.tmp 6, .tmp 7]) (avs := [_, _]) Tryd.results42 ⟨rfl, rfl, trivial⟩ rfl (by first | exact .refl _ | (rw [List.append_nil]; exact .refl _)) ?_
    exact ⟨by rw [hnum]; first | rfl | (rw [hrn]; rfl), rfl⟩
  · have hno : ds ≠ [] ∧ ds.length ≤ 7 ∧ ds.any Une.sgn = false := by
      simp only [Bool.or_eq_false_iff, decide_eq_false_iff_not, beq_eq_false_iff_ne, ne_eq] at hc_t21
      exact ⟨hc_t21.1.1, by omega, hc_t21.2⟩
    obtain ⟨hne, hl6, hu⟩ := hno
    have hl : ds.length ≤ 7 := by omega
    have hnum : Une.num 10 7 ds = (0, false) := if_pos (.inr (.inr (.inr hok)))
    refine W.skip ?_
    refine W.then ?_
    refine W.seq ?_
    refine W.region ?_
    refine W.q (Ev.move (.t rfl)) rfl ?_
    refine W.q (Ev.move (.t rfl)) rfl ?_
    refine W.call (WSyn.c_Pno10 T tp p ds hne hl hu hok) ⟨(.t rfl), (.t rfl), .k, trivial⟩ (.refl _) rfl ?_
    rintro _ _ ⟨⟨u25, v25, rfl⟩, rfl⟩
    refine W.q (Ev.move (.t rfl)) rfl ?_
    refine W.q (Ev.extract (.t rfl) rfl) rfl ?_
    refine W.q (Ev.extract (.t rfl) rfl) rfl ?_
    refine W.q (Ev.assign (.t rfl)) rfl ?_
    refine W.q (Ev.assign (.t rfl)) rfl ?_
    refine W.nil ?_
    refine W.then ?_
    refine W.seq ?_
    refine W.seq ?_
    refine W.region ?_
    refine W.q (Ev.move (.t rfl)) rfl ?_
    first | refine W.q (Ev.nenif (.t rfl) (by kernel_rfl)) rfl ?_ | refine W.q (Ev.nenn (.t rfl) (by kernel_rfl)) rfl ?_
    refine W.nil ?_
    refine W.then ?_
    refine W.is (t := 29) (g := true) (av' := .lit (.bool true)) rfl (congrArg (fun b => AV.lit (.bool b)) (by rfl)) ?_
    refine W.condT (.t rfl) ?_
    refine W.seq ?_
    refine W.region ?_
    refine W.q (Ev.assign .k) rfl ?_
    refine W.q (Ev.assign .k) rfl ?_
    refine W.nil ?_
    refine W.then ?_
    refine W.ret ?_
    refine W.then_ret ?_
    refine W.retn (M' := [ifv 3 T tp p]) (D := []) (rs := [.tmp 6, .tmp 7]) (avs := [_, _]) Tryd.results42 ⟨rfl, rfl, trivial⟩ rfl (by first | exact .refl _ | (rw [List.append_nil]; exact .refl _)) ?_
    exact ⟨by rw [hnum]; first | rfl | (rw [hrn]; rfl), rfl⟩

theorem c_numbered10 (T tp : TypeId) (p : Value) (ds : List UInt8) (hb : ds.length ≤ 1099511627776) : FnC Tryd.prog 42 [.str ds, .int 10, .int 7] [ifv 3 T tp p] (fun r M => r = .tup [.lit (.int .i32 ((Une.num 10 7 ds).1 : Int)), .bool (Une.num 10 7 ds).2] ∧ M = [ifv 3 T tp p]) := by
  cases h : Une.okd 10 ds with
  | true => exact c_num101 T tp p ds hb h
  | false => exact c_num100 T tp p ds hb h

theorem c_num161 (T tp : TypeId) (p : Value) (ds : List UInt8) (hb : ds.length ≤ 1099511627776) (hok : Une.okd 16 ds = true) : FnC Tryd.prog 42 [.str ds, .int 16, .int 6] [ifv 3 T tp p] (fun r M => r = .tup [.lit (.int .i32 ((Une.num 16 6 ds).1 : Int)), .bool (Une.num 16 6 ds).2] ∧ M = [ifv 3 T tp p]) :=  by
  refine FnC.mk Tryd.func42 (by kernel_rfl) rfl Tryd.ntmps42 rfl (fun w0 F => ?_)
  refine W.seq ?_
  refine W.region ?_
  refine W.q (Ev.assign .k) rfl ?_
  refine W.q (Ev.assign .k) rfl ?_
  refine W.nil ?_
  refine W.then ?_
  refine W.seq ?_
  refine W.seq ?_
  refine W.region ?_
  refine W.q (Ev.move (.t rfl)) rfl ?_
  refine W.q (Ev.eqs (.t rfl) .k) rfl ?_
  refine W.q (Ev.move (.t rfl)) rfl ?_
  refine W.qgF rfl rfl (Ev.move (.t rfl)) rfl ?_
  refine W.qgF rfl rfl (Ev.lens (.c rfl) Tryd.underlying9) rfl ?_
  refine W.qgF rfl rfl (Ev.move (.t rfl)) rfl ?_
  refine W.qgF rfl rfl (Ev.gti (.c rfl) (.c rfl)) rfl ?_
  refine W.q (Ev.or (.t rfl) ⟨_, _, rfl, rfl, by first | (simp; done) | (intro hg_ hp_; simp [hp_]; done) | (simp <;> omega; done) | (simp_all; done) | grind⟩) rfl ?_
  refine W.q (Ev.move (.t rfl)) rfl ?_
  refine W.qgF rfl rfl (Ev.move (.t rfl)) rfl ?_
  refine W.callgF (Min := []) (caps := []) (avs := [_, _]) rfl rfl (fun hg => WIxAny.c_ContainsAny ds (by simp at hg; omega)) (fun hg => .f) (fun hg => ⟨(.i rfl (fun _ => hg)), .k, trivial⟩) rfl (.refl _) rfl ?_
  refine W.q (Ev.or (.t rfl) ⟨_, _, rfl, rfl, by first | (simp; done) | (intro hg_ hp_; simp [hp_]; done) | (simp <;> omega; done) | (simp_all; done) | grind⟩) rfl ?_
  refine W.nil ?_
  refine W.then ?_
  refine W.cond (.t rfl) (fun hc_t21 => ?_) (fun hc_t21 => ?_)
  · have hnum : Une.num 16 6 ds = (0, false) := by
      unfold Une.num
      refine if_pos ?_
      simp only [Bool.or_eq_true, decide_eq_true_eq, beq_iff_eq] at hc_t21
      rcases hc_t21 with (h | h) | h
      · exact .inl h
      · exact .inr (.inl (by omega))
      · exact .inr (.inr (.inl h))
    refine W.seq ?_
    refine W.region ?_
    refine W.q (Ev.assign .k) rfl ?_
    refine W.q (Ev.assign .k) rfl ?_
    refine W.nil ?_
    refine W.then ?_
    refine W.ret ?_
    refine W.then_ret ?_
    refine W.retn (M' := [ifv 3 T tp p]) (D := []) (rs := [.tmp 6, .tmp 7]) (avs := [_, _]) Tryd.results42 ⟨rfl, rfl, trivial⟩ rfl (by first | exact .refl _ | (rw [List.append_nil]; exact .refl _)) ?_
    exact ⟨by rw [hnum]; first | rfl | (rw [hrn]; rfl), rfl⟩
  · have hno : ds ≠ [] ∧ ds.length ≤ 6 ∧ ds.any Une.sgn = false := by
      simp only [Bool.or_eq_false_iff, decide_eq_false_iff_not, beq_eq_false_iff_ne, ne_eq] at hc_t21
      exact ⟨hc_t21.1.1, by omega, hc_t21.2⟩
    obtain ⟨hne, hl6, hu⟩ := hno
    have hl : ds.length ≤ 7 := by omega
    have hnum : Une.num 16 6 ds = (Une.rune (Une.val 16 ds), true) := by
      unfold Une.num
      refine if_neg ?_
      rintro (h | h | h | h)
      · exact hne h
      · omega
      · rw [hu] at h; cases h
      · rw [hok] at h; cases h
    have hvs := Une.val_small 16 (by decide) ds hl hok
    refine W.skip ?_
    refine W.then ?_
    refine W.seq ?_
    refine W.region ?_
    refine W.q (Ev.move (.t rfl)) rfl ?_
    refine W.q (Ev.move (.t rfl)) rfl ?_
    refine W.call (WSyn.c_Pok16 T tp p ds hne hl hu hok) ⟨(.t rfl), (.t rfl), .k, trivial⟩ (.refl _) rfl ?_
    rintro _ _ ⟨rfl, rfl⟩
    refine W.q (Ev.move (.t rfl)) rfl ?_
    refine W.q (Ev.extract (.t rfl) rfl) rfl ?_
    refine W.q (Ev.extract (.t rfl) rfl) rfl ?_
    refine W.q (Ev.assign (.t rfl)) rfl ?_
    refine W.q (Ev.assign (.t rfl)) rfl ?_
    refine W.nil ?_
    refine W.then ?_
    refine W.seq ?_
    refine W.seq ?_
    refine W.region ?_
    refine W.q (Ev.move (.t rfl)) rfl ?_
    first | refine W.q (Ev.nenif (.t rfl) (by kernel_rfl)) rfl ?_ | refine W.q (Ev.nenn (.t rfl) (by kernel_rfl)) rfl ?_
    refine W.nil ?_
    refine W.then ?_
    refine W.is (t := 29) (g := true) (av' := .lit (.bool false)) rfl (congrArg (fun b => AV.lit (.bool b)) (by rfl)) ?_
    refine W.condF (.t rfl) ?_
    refine W.skip ?_
    refine W.then ?_
    refine W.seq ?_
    refine W.seq ?_
    refine W.region ?_
    refine W.q (Ev.move (.t rfl)) rfl ?_
    refine W.q (Ev.eqi (.t rfl) .k) rfl ?_
    refine W.q (Ev.move (.t rfl)) rfl ?_
    refine W.qgF rfl rfl (Ev.move (.t rfl)) rfl ?_
    refine W.qgF rfl rfl (Ev.gti (.c rfl) .k) rfl ?_
    refine W.q (Ev.or (.t rfl) ⟨_, _, rfl, rfl, by first | (simp; done) | (intro hg_ hp_; simp [hp_]; done) | (simp <;> omega; done) | (simp_all; done) | grind⟩) rfl ?_
    refine W.q (Ev.move (.t rfl)) rfl ?_
    refine W.qgF rfl rfl (Ev.move (.t rfl)) rfl ?_
    refine W.qgF rfl rfl (Ev.conv (.c rfl) ⟨_, Tryd.underlying2⟩ Tryd.underlying21) rfl ?_
    refine W.callgF (Min := []) (caps := []) (avs := [_]) rfl rfl (fun hg => WPut2.c_ValidRune _) (fun hg => .f) (fun hg => ⟨(.i rfl (fun _ => hg)), trivial⟩) rfl (.refl _) rfl ?_
    refine W.qgF rfl rfl (Ev.not (.c rfl)) rfl ?_
    refine W.q (Ev.or (.t rfl) ⟨_, _, rfl, rfl, by first | (simp; done) | (intro hg_ hp_; simp [hp_]; done) | (simp <;> omega; done) | (simp_all; done) | grind⟩) rfl ?_
    refine W.nil ?_
    refine W.then ?_
    refine W.cond (.t rfl) (fun hc_t41 => ?_) (fun hc_t41 => ?_)
    · have hrn : Une.rune (Une.val 16 ds) = 65533 := Une.rune_t _ hc_t41
      refine W.seq ?_
      refine W.region ?_
      refine W.q (Ev.assign .k) rfl ?_
      refine W.q (Ev.assign .k) rfl ?_
      refine W.nil ?_
      refine W.then ?_
      refine W.ret ?_
      refine W.then_ret ?_
      refine W.retn (M' := [ifv 3 T tp p]) (D := []) (rs := [.tmp 6, .tmp 7]) (avs := [_, _]) Tryd.results42 ⟨rfl, rfl, trivial⟩ rfl (by first | exact .refl _ | (rw [List.append_nil]; exact .refl _)) ?_
      exact ⟨by rw [hnum]; first | rfl | (rw [hrn]; rfl), rfl⟩
    · obtain ⟨hrn, hr1⟩ := Une.rune_f _ (by omega) hc_t41
      refine W.skip ?_
      refine W.then ?_
      refine W.seq ?_
      refine W.region ?_
      refine W.q (Ev.move (.t rfl)) rfl ?_
      refine W.q (Ev.conv (.t rfl) ⟨_, Tryd.underlying2⟩ Tryd.underlying21) rfl ?_
      refine W.is (t := 43) (g := true) (av' := .lit (.int .i32 (Une.val 16 ds : Int))) rfl (congrArg (fun z => AV.lit (.int .i32 z)) (IntWalk.i32_in _ (by omega))) ?_
      refine W.q (Ev.assign (.t rfl)) rfl ?_
      refine W.q (Ev.assign .k) rfl ?_
      refine W.nil ?_
      refine W.then ?_
      refine W.ret ?_
      refine W.retn (M' := [ifv 3 T tp p]) (D := []) (rs := [.tmp 6, .tmp 7]) (avs := [_, _]) Tryd.results42 ⟨rfl, rfl, trivial⟩ rfl (by first | exact .refl _ | (rw [List.append_nil]; exact .refl _)) ?_
      exact ⟨by rw [hnum]; first | rfl | (rw [hrn]; rfl), rfl⟩

theorem c_num160 (T tp : TypeId) (p : Value) (ds : List UInt8) (hb : ds.length ≤ 1099511627776) (hok : Une.okd 16 ds = false) : FnC Tryd.prog 42 [.str ds, .int 16, .int 6] [ifv 3 T tp p] (fun r M => r = .tup [.lit (.int .i32 ((Une.num 16 6 ds).1 : Int)), .bool (Une.num 16 6 ds).2] ∧ M = [ifv 3 T tp p]) :=  by
  refine FnC.mk Tryd.func42 (by kernel_rfl) rfl Tryd.ntmps42 rfl (fun w0 F => ?_)
  refine W.seq ?_
  refine W.region ?_
  refine W.q (Ev.assign .k) rfl ?_
  refine W.q (Ev.assign .k) rfl ?_
  refine W.nil ?_
  refine W.then ?_
  refine W.seq ?_
  refine W.seq ?_
  refine W.region ?_
  refine W.q (Ev.move (.t rfl)) rfl ?_
  refine W.q (Ev.eqs (.t rfl) .k) rfl ?_
  refine W.q (Ev.move (.t rfl)) rfl ?_
  refine W.qgF rfl rfl (Ev.move (.t rfl)) rfl ?_
  refine W.qgF rfl rfl (Ev.lens (.c rfl) Tryd.underlying9) rfl ?_
  refine W.qgF rfl rfl (Ev.move (.t rfl)) rfl ?_
  refine W.qgF rfl rfl (Ev.gti (.c rfl) (.c rfl)) rfl ?_
  refine W.q (Ev.or (.t rfl) ⟨_, _, rfl, rfl, by first | (simp; done) | (intro hg_ hp_; simp [hp_]; done) | (simp <;> omega; done) | (simp_all; done) | grind⟩) rfl ?_
  refine W.q (Ev.move (.t rfl)) rfl ?_
  refine W.qgF rfl rfl (Ev.move (.t rfl)) rfl ?_
  refine W.callgF (Min := []) (caps := []) (avs := [_, _]) rfl rfl (fun hg => WIxAny.c_ContainsAny ds (by simp at hg; omega)) (fun hg => .f) (fun hg => ⟨(.i rfl (fun _ => hg)), .k, trivial⟩) rfl (.refl _) rfl ?_
  refine W.q (Ev.or (.t rfl) ⟨_, _, rfl, rfl, by first | (simp; done) | (intro hg_ hp_; simp [hp_]; done) | (simp <;> omega; done) | (simp_all; done) | grind⟩) rfl ?_
  refine W.nil ?_
  refine W.then ?_
  refine W.cond (.t rfl) (fun hc_t21 => ?_) (fun hc_t21 => ?_)
  · have hnum : Une.num 16 6 ds = (0, false) := by
      unfold Une.num
      refine if_pos ?_
      simp only [Bool.or_eq_true, decide_eq_true_eq, beq_iff_eq] at hc_t21
      rcases hc_t21 with (h | h) | h
      · exact .inl h
      · exact .inr (.inl (by omega))
      · exact .inr (.inr (.inl h))
    refine W.seq ?_
    refine W.region ?_
    refine W.q (Ev.assign .k) rfl ?_
    refine W.q (Ev.assign .k) rfl ?_
    refine W.nil ?_
    refine W.then ?_
    refine W.ret ?_
    refine W.then_ret ?_
    refine W.retn (M' := [ifv 3 T tp p]) (D := []) (rs := [.tmp 6, .tmp 7]) (avs := [_, _]) Tryd.results42 ⟨rfl, rfl, trivial⟩ rfl (by first | exact .refl _ | (rw [List.append_nil]; exact .refl _)) ?_
    exact ⟨by rw [hnum]; first | rfl | (rw [hrn]; rfl), rfl⟩
  · have hno : ds ≠ [] ∧ ds.length ≤ 6 ∧ ds.any Une.sgn = false := by
      simp only [Bool.or_eq_false_iff, decide_eq_false_iff_not, beq_eq_false_iff_ne, ne_eq] at hc_t21
      exact ⟨hc_t21.1.1, by omega, hc_t21.2⟩
    obtain ⟨hne, hl6, hu⟩ := hno
    have hl : ds.length ≤ 7 := by omega
    have hnum : Une.num 16 6 ds = (0, false) := if_pos (.inr (.inr (.inr hok)))
    refine W.skip ?_
    refine W.then ?_
    refine W.seq ?_
    refine W.region ?_
    refine W.q (Ev.move (.t rfl)) rfl ?_
    refine W.q (Ev.move (.t rfl)) rfl ?_
    refine W.call (WSyn.c_Pno16 T tp p ds hne hl hu hok) ⟨(.t rfl), (.t rfl), .k, trivial⟩ (.refl _) rfl ?_
    rintro _ _ ⟨⟨u25, v25, rfl⟩, rfl⟩
    refine W.q (Ev.move (.t rfl)) rfl ?_
    refine W.q (Ev.extract (.t rfl) rfl) rfl ?_
    refine W.q (Ev.extract (.t rfl) rfl) rfl ?_
    refine W.q (Ev.assign (.t rfl)) rfl ?_
    refine W.q (Ev.assign (.t rfl)) rfl ?_
    refine W.nil ?_
    refine W.then ?_
    refine W.seq ?_
    refine W.seq ?_
    refine W.region ?_
    refine W.q (Ev.move (.t rfl)) rfl ?_
    first | refine W.q (Ev.nenif (.t rfl) (by kernel_rfl)) rfl ?_ | refine W.q (Ev.nenn (.t rfl) (by kernel_rfl)) rfl ?_
    refine W.nil ?_
    refine W.then ?_
    refine W.is (t := 29) (g := true) (av' := .lit (.bool true)) rfl (congrArg (fun b => AV.lit (.bool b)) (by rfl)) ?_
    refine W.condT (.t rfl) ?_
    refine W.seq ?_
    refine W.region ?_
    refine W.q (Ev.assign .k) rfl ?_
    refine W.q (Ev.assign .k) rfl ?_
    refine W.nil ?_
    refine W.then ?_
    refine W.ret ?_
    refine W.then_ret ?_
    refine W.retn (M' := [ifv 3 T tp p]) (D := []) (rs := [.tmp 6, .tmp 7]) (avs := [_, _]) Tryd.results42 ⟨rfl, rfl, trivial⟩ rfl (by first | exact .refl _ | (rw [List.append_nil]; exact .refl _)) ?_
    exact ⟨by rw [hnum]; first | rfl | (rw [hrn]; rfl), rfl⟩

theorem c_numbered16 (T tp : TypeId) (p : Value) (ds : List UInt8) (hb : ds.length ≤ 1099511627776) : FnC Tryd.prog 42 [.str ds, .int 16, .int 6] [ifv 3 T tp p] (fun r M => r = .tup [.lit (.int .i32 ((Une.num 16 6 ds).1 : Int)), .bool (Une.num 16 6 ds).2] ∧ M = [ifv 3 T tp p]) := by
  cases h : Une.okd 16 ds with
  | true => exact c_num161 T tp p ds hb h
  | false => exact c_num160 T tp p ds hb h

end WNumb

end Go.Proofs.YtohncieijjhnjaaDoor
end

section
set_option linter.unusedVariables false
set_option linter.unusedSimpArgs false
set_option maxRecDepth 100000
namespace Go.Proofs.YtohncieijjhnjaaDoor
open Go.Vl

namespace WLetter2

theorem c_named (s : List UInt8) : FnP Tryd.prog 43 [.str s] (.lit (.int .i32 (Une.nmd s : Int))) :=  by
  refine FnC.mk Tryd.func43 (by kernel_rfl) rfl Tryd.ntmps43 rfl (fun w0 F => ?_)
  refine W.seq ?_
  refine W.region ?_
  refine W.q (Ev.assign .k) rfl ?_
  refine W.nil ?_
  refine W.then ?_
  refine W.seq ?_
  refine W.seq ?_
  refine W.region ?_
  refine W.q (Ev.move (.t rfl)) rfl ?_
  refine W.nil ?_
  refine W.then ?_
  refine W.block ?_
  refine W.seq ?_
  refine W.region ?_
  refine W.q (Ev.eqs (.t rfl) .k) rfl ?_
  refine W.q (Ev.assign (.t rfl)) rfl ?_
  refine W.nil ?_
  refine W.then ?_
  refine W.cond (.t rfl) (fun hc_t4 => ?_) (fun hc_t4 => ?_)
  · skip
    refine W.seq ?_
    refine W.region ?_
    refine W.q (Ev.assign .k) rfl ?_
    refine W.nil ?_
    refine W.then ?_
    refine W.ret ?_
    refine W.blk_ret ?_
    refine W.then_ret ?_
    refine W.retn (M' := []) (D := _) (rs := [.tmp 2]) (avs := [_]) Tryd.results43 ⟨rfl, trivial⟩ rfl (.refl _) ?_
    exact ⟨congrArg (fun z => AV.lit (.int .i32 z)) (by simp only [beq_iff_eq, beq_eq_false_iff_ne] at *; unfold Une.nmd; simp_all), rfl⟩
  · skip
    refine W.seq ?_
    refine W.region ?_
    refine W.q (Ev.eqs (.t rfl) .k) rfl ?_
    refine W.q (Ev.assign (.t rfl)) rfl ?_
    refine W.nil ?_
    refine W.then ?_
    refine W.cond (.t rfl) (fun hc_t6 => ?_) (fun hc_t6 => ?_)
    · skip
      refine W.seq ?_
      refine W.region ?_
      refine W.q (Ev.assign .k) rfl ?_
      refine W.nil ?_
      refine W.then ?_
      refine W.ret ?_
      refine W.blk_ret ?_
      refine W.then_ret ?_
      refine W.retn (M' := []) (D := _) (rs := [.tmp 2]) (avs := [_]) Tryd.results43 ⟨rfl, trivial⟩ rfl (.refl _) ?_
      exact ⟨congrArg (fun z => AV.lit (.int .i32 z)) (by simp only [beq_iff_eq, beq_eq_false_iff_ne] at *; unfold Une.nmd; simp_all), rfl⟩
    · skip
      refine W.seq ?_
      refine W.region ?_
      refine W.q (Ev.eqs (.t rfl) .k) rfl ?_
      refine W.q (Ev.assign (.t rfl)) rfl ?_
      refine W.nil ?_
      refine W.then ?_
      refine W.cond (.t rfl) (fun hc_t8 => ?_) (fun hc_t8 => ?_)
      · skip
        refine W.seq ?_
        refine W.region ?_
        refine W.q (Ev.assign .k) rfl ?_
        refine W.nil ?_
        refine W.then ?_
        refine W.ret ?_
        refine W.blk_ret ?_
        refine W.then_ret ?_
        refine W.retn (M' := []) (D := _) (rs := [.tmp 2]) (avs := [_]) Tryd.results43 ⟨rfl, trivial⟩ rfl (.refl _) ?_
        exact ⟨congrArg (fun z => AV.lit (.int .i32 z)) (by simp only [beq_iff_eq, beq_eq_false_iff_ne] at *; unfold Une.nmd; simp_all), rfl⟩
      · skip
        refine W.seq ?_
        refine W.region ?_
        refine W.q (Ev.eqs (.t rfl) .k) rfl ?_
        refine W.q (Ev.assign (.t rfl)) rfl ?_
        refine W.nil ?_
        refine W.then ?_
        refine W.cond (.t rfl) (fun hc_t10 => ?_) (fun hc_t10 => ?_)
        · skip
          refine W.seq ?_
          refine W.region ?_
          refine W.q (Ev.assign .k) rfl ?_
          refine W.nil ?_
          refine W.then ?_
          refine W.ret ?_
          refine W.blk_ret ?_
          refine W.then_ret ?_
          refine W.retn (M' := []) (D := _) (rs := [.tmp 2]) (avs := [_]) Tryd.results43 ⟨rfl, trivial⟩ rfl (.refl _) ?_
          exact ⟨congrArg (fun z => AV.lit (.int .i32 z)) (by simp only [beq_iff_eq, beq_eq_false_iff_ne] at *; unfold Une.nmd; simp_all), rfl⟩
        · skip
          refine W.seq ?_
          refine W.region ?_
          refine W.q (Ev.eqs (.t rfl) .k) rfl ?_
          refine W.q (Ev.assign (.t rfl)) rfl ?_
          refine W.nil ?_
          refine W.then ?_
          refine W.cond (.t rfl) (fun hc_t12 => ?_) (fun hc_t12 => ?_)
          · skip
            refine W.seq ?_
            refine W.region ?_
            refine W.q (Ev.assign .k) rfl ?_
            refine W.nil ?_
            refine W.then ?_
            refine W.ret ?_
            refine W.blk_ret ?_
            refine W.then_ret ?_
            refine W.retn (M' := []) (D := _) (rs := [.tmp 2]) (avs := [_]) Tryd.results43 ⟨rfl, trivial⟩ rfl (.refl _) ?_
            exact ⟨congrArg (fun z => AV.lit (.int .i32 z)) (by simp only [beq_iff_eq, beq_eq_false_iff_ne] at *; unfold Une.nmd; simp_all), rfl⟩
          · skip
            refine W.seq ?_
            refine W.region ?_
            refine W.q (Ev.eqs (.t rfl) .k) rfl ?_
            refine W.q (Ev.assign (.t rfl)) rfl ?_
            refine W.nil ?_
            refine W.then ?_
            refine W.cond (.t rfl) (fun hc_t14 => ?_) (fun hc_t14 => ?_)
            · skip
              refine W.seq ?_
              refine W.region ?_
              refine W.q (Ev.assign .k) rfl ?_
              refine W.nil ?_
              refine W.then ?_
              refine W.ret ?_
              refine W.blk_ret ?_
              refine W.then_ret ?_
              refine W.retn (M' := []) (D := _) (rs := [.tmp 2]) (avs := [_]) Tryd.results43 ⟨rfl, trivial⟩ rfl (.refl _) ?_
              exact ⟨congrArg (fun z => AV.lit (.int .i32 z)) (by simp only [beq_iff_eq, beq_eq_false_iff_ne] at *; unfold Une.nmd; simp_all), rfl⟩
            · skip
              refine W.skip ?_
              refine W.blk_normal ?_
              refine W.then ?_
              refine W.seq ?_
              refine W.region ?_
              refine W.q (Ev.assign .k) rfl ?_
              refine W.nil ?_
              refine W.then ?_
              refine W.ret ?_
              refine W.retn (M' := []) (D := _) (rs := [.tmp 2]) (avs := [_]) Tryd.results43 ⟨rfl, trivial⟩ rfl (.refl _) ?_
              exact ⟨congrArg (fun z => AV.lit (.int .i32 z)) (by simp only [beq_iff_eq, beq_eq_false_iff_ne] at *; unfold Une.nmd; simp_all), rfl⟩

theorem c_HP0 : FnP Tryd.prog 69 [.str [], .str [35]] (.bool false) :=  by
  refine FnC.mk Tryd.func69 (by kernel_rfl) rfl Tryd.ntmps69 rfl (fun w0 F => ?_)
  refine W.seq ?_
  refine W.region ?_
  refine W.q (Ev.assign .k) rfl ?_
  refine W.nil ?_
  refine W.then ?_
  refine W.seq ?_
  refine W.region ?_
  refine W.q (Ev.move (.t rfl)) rfl ?_
  refine W.q (Ev.lens (.t rfl) Tryd.underlying9) rfl ?_
  refine W.q (Ev.move (.t rfl)) rfl ?_
  refine W.q (Ev.lens (.t rfl) Tryd.underlying9) rfl ?_
  refine W.q (Ev.gei (.t rfl) (.t rfl)) rfl ?_
  refine W.q (Ev.move (.t rfl)) rfl ?_
  refine W.gnob rfl rfl (by simp) rfl ?_
  refine W.gnob rfl rfl (by simp) rfl ?_
  refine W.gnob rfl rfl (by simp) rfl ?_
  refine W.gnob rfl rfl (by simp) rfl ?_
  refine W.gnob rfl rfl (by simp) rfl ?_
  refine W.gnob rfl rfl (by simp) rfl ?_
  refine W.q (Ev.and (.t rfl) ⟨_, _, rfl, rfl, by first | (simp; done) | (intro hg_ hp_; simp [hp_]; done) | (simp <;> omega; done) | (simp_all; done) | grind⟩) rfl ?_
  refine W.q (Ev.assign (.t rfl)) rfl ?_
  refine W.nil ?_
  refine W.then ?_
  refine W.ret ?_
  refine W.is (t := 4) (g := true) (av' := .bool false) rfl (congrArg AV.bool (by first | rfl | simp)) ?_
  refine W.retn (M' := []) (rs := [.tmp 4]) (avs := [_]) Tryd.results69 ⟨rfl, trivial⟩ rfl (.refl _) ?_
  exact ⟨rfl, rfl⟩

theorem c_HP1 (s : List UInt8) (hs : 1 ≤ s.length) : FnP Tryd.prog 69 [.str s, .str [35]] (.bool (s.take 1 == [35])) :=  by
  refine FnC.mk Tryd.func69 (by kernel_rfl) rfl Tryd.ntmps69 rfl (fun w0 F => ?_)
  refine W.seq ?_
  refine W.region ?_
  refine W.q (Ev.assign .k) rfl ?_
  refine W.nil ?_
  refine W.then ?_
  refine W.seq ?_
  refine W.region ?_
  refine W.q (Ev.move (.t rfl)) rfl ?_
  refine W.q (Ev.lens (.t rfl) Tryd.underlying9) rfl ?_
  refine W.q (Ev.move (.t rfl)) rfl ?_
  refine W.q (Ev.lens (.t rfl) Tryd.underlying9) rfl ?_
  refine W.q (Ev.gei (.t rfl) (.t rfl)) rfl ?_
  refine W.q (Ev.move (.t rfl)) rfl ?_
  refine W.qgT rfl rfl (Ev.move (.t rfl)) rfl ?_
  refine W.qgT rfl rfl (Ev.move (.t rfl)) rfl ?_
  refine W.qgT rfl rfl (Ev.lens (.c rfl) Tryd.underlying9) rfl ?_
  refine W.qgT rfl rfl (Ev.subs (lo := none) (hi := some (.tmp 13)) (.c rfl) Tryd.underlying9 rfl (.c rfl) (fun _ => by simp; omega)) rfl ?_
  refine W.qgT rfl rfl (Ev.move (.t rfl)) rfl ?_
  refine W.qgT rfl rfl (Ev.eqs (.c rfl) (.c rfl)) rfl ?_
  refine W.q (Ev.and (.t rfl) ⟨_, _, rfl, rfl, by first | (simp; done) | (intro hg_ hp_; simp [hp_]; done) | (simp <;> omega; done) | (simp_all; done) | grind⟩) rfl ?_
  refine W.q (Ev.assign (.t rfl)) rfl ?_
  refine W.nil ?_
  refine W.then ?_
  refine W.ret ?_
  refine W.is (t := 4) (g := true) (av' := .bool (s.take 1 == [35])) rfl (congrArg AV.bool (by simp; intro _; omega)) ?_
  refine W.retn (M' := []) (rs := [.tmp 4]) (avs := [_]) Tryd.results69 ⟨rfl, trivial⟩ rfl (.refl _) ?_
  exact ⟨rfl, rfl⟩

theorem c_HP (s : List UInt8) (b : Bool) (h : (s.take 1 == [35]) = b) : FnP Tryd.prog 69 [.str s, .str [35]] (.bool b) := by
  subst h
  cases s with
  | nil => exact c_HP0
  | cons c r => exact c_HP1 (c :: r) (by simp)

theorem c_Cut01 (s : List UInt8) (hs : s.length ≤ 1099511627776) (h : (s.take 1 == [35]) = true) : FnP Tryd.prog 55 [.str s, .str [35]] (.tup [.str (s.drop 1), .bool true]) :=  by
  refine FnC.mk Tryd.func55 (by kernel_rfl) rfl Tryd.ntmps55 rfl (fun w0 F => ?_)
  have hl : 1 ≤ s.length := by cases s; (cases h); simp
  have h35l : ([35] : List UInt8).length = 1 := rfl
  refine W.seq ?_
  refine W.region ?_
  refine W.q (Ev.assign .k) rfl ?_
  refine W.q (Ev.assign .k) rfl ?_
  refine W.nil ?_
  refine W.then ?_
  refine W.seq ?_
  refine W.seq ?_
  refine W.region ?_
  refine W.q (Ev.move (.t rfl)) rfl ?_
  refine W.q (Ev.move (.t rfl)) rfl ?_
  refine W.callp (c_HP s true h) ⟨(.t rfl), (.t rfl), trivial⟩ rfl ?_
  refine W.q (Ev.not (.t rfl)) rfl ?_
  refine W.nil ?_
  refine W.then ?_
  refine W.is (t := 9) (g := true) (av' := .lit (.bool false)) rfl (congrArg (fun b => AV.lit (.bool b)) (by rfl)) ?_
  refine W.condF (.t rfl) ?_
  refine W.skip ?_
  refine W.then ?_
  refine W.seq ?_
  refine W.region ?_
  refine W.q (Ev.move (.t rfl)) rfl ?_
  refine W.q (Ev.move (.t rfl)) rfl ?_
  refine W.q (Ev.lens (.t rfl) Tryd.underlying9) rfl ?_
  refine W.q (Ev.subs (lo := some (.tmp 13)) (hi := none) (.t rfl) Tryd.underlying9 (.t rfl) rfl (fun _ => by omega)) rfl ?_
  refine W.is (t := 14) (g := true) (av' := .str (s.drop 1)) rfl (congrArg AV.str (by simp)) ?_
  refine W.q (Ev.assign (.t rfl)) rfl ?_
  refine W.q (Ev.assign .k) rfl ?_
  refine W.nil ?_
  refine W.then ?_
  refine W.ret ?_
  refine W.retn (M' := []) (rs := [.tmp 4, .tmp 5]) (avs := [_, _]) Tryd.results55 ⟨rfl, rfl, trivial⟩ rfl (.refl _) ?_
  exact ⟨rfl, rfl⟩

theorem c_Cut1 (s : List UInt8) (hs : s.length ≤ 1099511627776) (h : (s.take 1 == [35]) = true) : FnP Tryd.prog 41 [.str s, .str [35]] (.tup [.str (s.drop 1), .bool true]) :=  by
  refine FnC.mk Tryd.func41 (by kernel_rfl) rfl Tryd.ntmps41 rfl (fun w0 F => ?_)
  refine W.seq ?_
  refine W.region ?_
  refine W.q (Ev.assign .k) rfl ?_
  refine W.q (Ev.assign .k) rfl ?_
  refine W.nil ?_
  refine W.then ?_
  refine W.seq ?_
  refine W.region ?_
  refine W.q (Ev.move (.t rfl)) rfl ?_
  refine W.q (Ev.move (.t rfl)) rfl ?_
  refine W.callp (c_Cut01 s hs h) ⟨(.t rfl), (.t rfl), trivial⟩ rfl ?_
  refine W.q (Ev.extract (.t rfl) rfl) rfl ?_
  refine W.q (Ev.extract (.t rfl) rfl) rfl ?_
  refine W.q (Ev.assign (.t rfl)) rfl ?_
  refine W.q (Ev.assign (.t rfl)) rfl ?_
  refine W.nil ?_
  refine W.then ?_
  refine W.ret ?_
  refine W.retn (M' := []) (rs := [.tmp 4, .tmp 5]) (avs := [_, _]) Tryd.results41 ⟨rfl, rfl, trivial⟩ rfl (.refl _) ?_
  exact ⟨rfl, rfl⟩

theorem c_letter1 (T tp : TypeId) (p : Value) (s : List UInt8) (hs : s.length ≤ 1099511627776) (h : (s.take 1 == [35]) = true) : FnC Tryd.prog 27 [.str s] [ifv 3 T tp p] (fun r M => r = .tup [.lit (.int .i32 ((Une.ltr s).1 : Int)), .bool (Une.ltr s).2] ∧ M = [ifv 3 T tp p]) :=  by
  refine FnC.mk Tryd.func27 (by kernel_rfl) rfl Tryd.ntmps27 rfl (fun w0 F => ?_)
  have h35 := eq_of_beq h
  obtain ⟨ds, hds⟩ : ∃ ds, s.drop 1 = ds := ⟨_, rfl⟩
  have hdl : ds.length ≤ s.length := by rw [← hds, List.length_drop]; omega
  have hC := c_Cut1 s hs h
  rw [hds] at hC
  have hdp : ds ≠ [] → 1 ≤ ds.length := List.length_pos_iff.2
  refine W.seq ?_
  refine W.region ?_
  refine W.q (Ev.assign .k) rfl ?_
  refine W.q (Ev.assign .k) rfl ?_
  refine W.nil ?_
  refine W.then ?_
  refine W.seq ?_
  refine W.seq ?_
  refine W.region ?_
  refine W.q (Ev.move (.t rfl)) rfl ?_
  refine W.callp (hC) ⟨(.t rfl), .k, trivial⟩ rfl ?_
  refine W.q (Ev.move (.t rfl)) rfl ?_
  refine W.q (Ev.extract (.t rfl) rfl) rfl ?_
  refine W.q (Ev.extract (.t rfl) rfl) rfl ?_
  refine W.q (Ev.assign (.t rfl)) rfl ?_
  refine W.q (Ev.assign (.t rfl)) rfl ?_
  refine W.nil ?_
  refine W.then ?_
  refine W.seq ?_
  refine W.region ?_
  refine W.q (Ev.move (.t rfl)) rfl ?_
  refine W.nil ?_
  refine W.then ?_
  refine W.is (t := 12) (g := true) (av' := .lit (.bool true)) rfl (congrArg (fun b => AV.lit (.bool b)) (by rfl)) ?_
  refine W.condT (.t rfl) ?_
  refine W.seq ?_
  refine W.seq ?_
  refine W.region ?_
  refine W.q (Ev.move (.t rfl)) rfl ?_
  refine W.q (Ev.eqs (.t rfl) .k) rfl ?_
  refine W.q (Ev.move (.t rfl)) rfl ?_
  refine W.qgF rfl rfl (Ev.move (.t rfl)) rfl ?_
  refine W.qgF rfl rfl (Ev.ats' (.c rfl) .k Tryd.underlying9 (fun hg => by simp at hg; have := hdp hg; omega)) rfl ?_
  refine W.qgF rfl rfl (Ev.nei (.c rfl) .k) rfl ?_
  refine W.qgF rfl rfl (Ev.move (.c rfl)) rfl ?_
  refine W.qgT' rfl rfl (Ev.move (.t rfl)) rfl ?_
  refine W.qgT' rfl rfl (Ev.ats' (.c rfl) .k Tryd.underlying9 (fun hg => by simp at hg; have := hdp hg.1; omega)) rfl ?_
  refine W.qgT' rfl rfl (Ev.nei (.c rfl) .k) rfl ?_
  refine W.qgF rfl rfl (Ev.and (.c rfl) ⟨_, _, rfl, rfl, by first | (simp; done) | (intro hg_ hp_; simp [hp_]; done) | (simp <;> omega; done) | (simp_all; done) | grind⟩) rfl ?_
  refine W.q (Ev.or (.t rfl) ⟨_, _, rfl, rfl, by first | (simp; done) | (intro hg_ hp_; simp [hp_]; done) | (simp <;> omega; done) | (simp_all; done) | grind⟩) rfl ?_
  refine W.nil ?_
  refine W.then ?_
  refine W.cond (.t rfl) (fun hc_t24 => ?_) (fun hc_t24 => ?_)
  · have hl : Une.ltr s = Une.num 10 7 ds := by
      unfold Une.ltr; rw [if_pos h35, hds]; refine if_pos ?_
      simp only [Bool.or_eq_true, beq_iff_eq, Bool.and_eq_true, bne_iff_ne, ne_eq] at hc_t24
      rcases hc_t24 with h | h
      · exact .inl h
      · exact .inr ⟨fun e => h.1 (by rw [show ds.getD (Int.toNat 0) 0 = 120 from e]; rfl), fun e => h.2 (by rw [show ds.getD (Int.toNat 0) 0 = 88 from e]; rfl)⟩
    refine W.seq ?_
    refine W.region ?_
    refine W.q (Ev.move (.t rfl)) rfl ?_
    refine W.call (WNumb.c_numbered10 T tp p ds (by omega)) ⟨(.t rfl), .k, .k, trivial⟩ (.refl _) rfl ?_
    rintro _ _ ⟨rfl, rfl⟩
    refine W.q (Ev.extract (.t rfl) rfl) rfl ?_
    refine W.q (Ev.extract (.t rfl) rfl) rfl ?_
    refine W.q (Ev.assign (.t rfl)) rfl ?_
    refine W.q (Ev.assign (.t rfl)) rfl ?_
    refine W.nil ?_
    refine W.then ?_
    refine W.ret ?_
    refine W.then_ret ?_
    refine W.then_ret ?_
    refine W.retn (M' := [ifv 3 T tp p]) (D := []) (rs := [.tmp 2, .tmp 3]) (avs := [_, _]) Tryd.results27 ⟨rfl, rfl, trivial⟩ rfl (by first | exact .refl _ | (rw [List.append_nil]; exact .refl _)) ?_
    exact ⟨by rw [hl]; rfl, rfl⟩
  · have hne : ds ≠ [] := by rintro rfl; simp at hc_t24
    have hdp1 := hdp hne
    have hl : Une.ltr s = Une.num 16 6 (ds.drop 1) := by
      unfold Une.ltr; rw [if_pos h35, hds, show s.drop 2 = ds.drop 1 from by rw [← hds, List.drop_drop]]; refine if_neg ?_
      rintro (h | ⟨h1, h2⟩)
      · exact hne h
      · rw [Bool.eq_false_iff] at hc_t24; apply hc_t24
        simp only [Bool.or_eq_true, beq_iff_eq, Bool.and_eq_true, bne_iff_ne, ne_eq]
        exact .inr ⟨fun e => h1 (UInt8.toNat_inj.1 (by have e1 : (((ds.getD 0 0).toNat : Nat) : Int) = 120 := e; show (ds.getD 0 0).toNat = 120; omega)), fun e => h2 (UInt8.toNat_inj.1 (by have e1 : (((ds.getD 0 0).toNat : Nat) : Int) = 88 := e; show (ds.getD 0 0).toNat = 88; omega))⟩
    refine W.skip ?_
    refine W.then ?_
    refine W.seq ?_
    refine W.region ?_
    refine W.q (Ev.move (.t rfl)) rfl ?_
    refine W.q (Ev.subs (lo := some (.const (.int .i64 1))) (hi := none) (.t rfl) Tryd.underlying9 (Ov.k (g := true) (L := [])) rfl (fun _ => by omega)) rfl ?_
    refine W.is (t := 30) (g := true) (av' := .str (ds.drop 1)) rfl (congrArg AV.str (by simp)) ?_
    refine W.call (WNumb.c_numbered16 T tp p (ds.drop 1) (by rw [List.length_drop]; omega)) ⟨(.t rfl), .k, .k, trivial⟩ (.refl _) rfl ?_
    rintro _ _ ⟨rfl, rfl⟩
    refine W.q (Ev.extract (.t rfl) rfl) rfl ?_
    refine W.q (Ev.extract (.t rfl) rfl) rfl ?_
    refine W.q (Ev.assign (.t rfl)) rfl ?_
    refine W.q (Ev.assign (.t rfl)) rfl ?_
    refine W.nil ?_
    refine W.then ?_
    refine W.ret ?_
    refine W.then_ret ?_
    refine W.retn (M' := [ifv 3 T tp p]) (D := []) (rs := [.tmp 2, .tmp 3]) (avs := [_, _]) Tryd.results27 ⟨rfl, rfl, trivial⟩ rfl (by first | exact .refl _ | (rw [List.append_nil]; exact .refl _)) ?_
    exact ⟨by rw [hl]; rfl, rfl⟩

theorem c_Cut00 (s : List UInt8) (hs : s.length ≤ 1099511627776) (h : (s.take 1 == [35]) = false) : FnP Tryd.prog 55 [.str s, .str [35]] (.tup [.str s, .bool false]) :=  by
  refine FnC.mk Tryd.func55 (by kernel_rfl) rfl Tryd.ntmps55 rfl (fun w0 F => ?_)
  refine W.seq ?_
  refine W.region ?_
  refine W.q (Ev.assign .k) rfl ?_
  refine W.q (Ev.assign .k) rfl ?_
  refine W.nil ?_
  refine W.then ?_
  refine W.seq ?_
  refine W.seq ?_
  refine W.region ?_
  refine W.q (Ev.move (.t rfl)) rfl ?_
  refine W.q (Ev.move (.t rfl)) rfl ?_
  refine W.callp (c_HP s false h) ⟨(.t rfl), (.t rfl), trivial⟩ rfl ?_
  refine W.q (Ev.not (.t rfl)) rfl ?_
  refine W.nil ?_
  refine W.then ?_
  refine W.is (t := 9) (g := true) (av' := .lit (.bool true)) rfl (congrArg (fun b => AV.lit (.bool b)) (by rfl)) ?_
  refine W.condT (.t rfl) ?_
  refine W.seq ?_
  refine W.region ?_
  refine W.q (Ev.move (.t rfl)) rfl ?_
  refine W.q (Ev.assign (.t rfl)) rfl ?_
  refine W.q (Ev.assign .k) rfl ?_
  refine W.nil ?_
  refine W.then ?_
  refine W.ret ?_
  refine W.then_ret ?_
  refine W.retn (M' := []) (rs := [.tmp 4, .tmp 5]) (avs := [_, _]) Tryd.results55 ⟨rfl, rfl, trivial⟩ rfl (.refl _) ?_
  exact ⟨rfl, rfl⟩

theorem c_Cut0 (s : List UInt8) (hs : s.length ≤ 1099511627776) (h : (s.take 1 == [35]) = false) : FnP Tryd.prog 41 [.str s, .str [35]] (.tup [.str s, .bool false]) :=  by
  refine FnC.mk Tryd.func41 (by kernel_rfl) rfl Tryd.ntmps41 rfl (fun w0 F => ?_)
  refine W.seq ?_
  refine W.region ?_
  refine W.q (Ev.assign .k) rfl ?_
  refine W.q (Ev.assign .k) rfl ?_
  refine W.nil ?_
  refine W.then ?_
  refine W.seq ?_
  refine W.region ?_
  refine W.q (Ev.move (.t rfl)) rfl ?_
  refine W.q (Ev.move (.t rfl)) rfl ?_
  refine W.callp (c_Cut00 s hs h) ⟨(.t rfl), (.t rfl), trivial⟩ rfl ?_
  refine W.q (Ev.extract (.t rfl) rfl) rfl ?_
  refine W.q (Ev.extract (.t rfl) rfl) rfl ?_
  refine W.q (Ev.assign (.t rfl)) rfl ?_
  refine W.q (Ev.assign (.t rfl)) rfl ?_
  refine W.nil ?_
  refine W.then ?_
  refine W.ret ?_
  refine W.retn (M' := []) (rs := [.tmp 4, .tmp 5]) (avs := [_, _]) Tryd.results41 ⟨rfl, rfl, trivial⟩ rfl (.refl _) ?_
  exact ⟨rfl, rfl⟩

theorem c_letter0 (T tp : TypeId) (p : Value) (s : List UInt8) (hs : s.length ≤ 1099511627776) (h : (s.take 1 == [35]) = false) : FnC Tryd.prog 27 [.str s] [ifv 3 T tp p] (fun r M => r = .tup [.lit (.int .i32 ((Une.ltr s).1 : Int)), .bool (Une.ltr s).2] ∧ M = [ifv 3 T tp p]) :=  by
  refine FnC.mk Tryd.func27 (by kernel_rfl) rfl Tryd.ntmps27 rfl (fun w0 F => ?_)
  have hl : Une.ltr s = (Une.nmd s, Une.nmd s != 0) := if_neg (by intro e; rw [e] at h; cases h)
  refine W.seq ?_
  refine W.region ?_
  refine W.q (Ev.assign .k) rfl ?_
  refine W.q (Ev.assign .k) rfl ?_
  refine W.nil ?_
  refine W.then ?_
  refine W.seq ?_
  refine W.seq ?_
  refine W.region ?_
  refine W.q (Ev.move (.t rfl)) rfl ?_
  refine W.callp (c_Cut0 s hs h) ⟨(.t rfl), .k, trivial⟩ rfl ?_
  refine W.q (Ev.move (.t rfl)) rfl ?_
  refine W.q (Ev.extract (.t rfl) rfl) rfl ?_
  refine W.q (Ev.extract (.t rfl) rfl) rfl ?_
  refine W.q (Ev.assign (.t rfl)) rfl ?_
  refine W.q (Ev.assign (.t rfl)) rfl ?_
  refine W.nil ?_
  refine W.then ?_
  refine W.seq ?_
  refine W.region ?_
  refine W.q (Ev.move (.t rfl)) rfl ?_
  refine W.nil ?_
  refine W.then ?_
  refine W.is (t := 12) (g := true) (av' := .lit (.bool false)) rfl (congrArg (fun b => AV.lit (.bool b)) (by rfl)) ?_
  refine W.condF (.t rfl) ?_
  refine W.skip ?_
  refine W.then ?_
  refine W.seq ?_
  refine W.region ?_
  refine W.q (Ev.move (.t rfl)) rfl ?_
  refine W.callp (c_named s) ⟨(.t rfl), trivial⟩ rfl ?_
  refine W.q (Ev.assign (.t rfl)) rfl ?_
  refine W.nil ?_
  refine W.then ?_
  refine W.seq ?_
  refine W.region ?_
  refine W.q (Ev.move (.t rfl)) rfl ?_
  refine W.q (Ev.move (.t rfl)) rfl ?_
  refine W.q (Ev.nei (.t rfl) .k) rfl ?_
  refine W.q (Ev.assign (.t rfl)) rfl ?_
  refine W.q (Ev.assign (.t rfl)) rfl ?_
  refine W.nil ?_
  refine W.then ?_
  refine W.ret ?_
  refine W.retn (M' := [ifv 3 T tp p]) (D := []) (rs := [.tmp 2, .tmp 3]) (avs := [_, _]) Tryd.results27 ⟨rfl, rfl, trivial⟩ rfl (by first | exact .refl _ | (rw [List.append_nil]; exact .refl _)) ?_
  exact ⟨by rw [hl]; exact congrArg (fun z => AV.tup [_, AV.bool z]) (by cases hz : Une.nmd s <;> first | rfl | (simp <;> omega)), rfl⟩

theorem c_letter (T tp : TypeId) (p : Value) (s : List UInt8) (hs : s.length ≤ 1099511627776) : FnC Tryd.prog 27 [.str s] [ifv 3 T tp p] (fun r M => r = .tup [.lit (.int .i32 ((Une.ltr s).1 : Int)), .bool (Une.ltr s).2] ∧ M = [ifv 3 T tp p]) := by
  cases h : (s.take 1 == [35]) with
  | true => exact c_letter1 T tp p s hs h
  | false => exact c_letter0 T tp p s hs h

end WLetter2

end Go.Proofs.YtohncieijjhnjaaDoor
end

section
set_option linter.unusedVariables false
set_option linter.unusedSimpArgs false
set_option maxRecDepth 100000
namespace Go.Proofs.YtohncieijjhnjaaDoor
open Go.Vl

namespace WUne
theorem ty48 : Ty Tryd.prog 48 2 32 (.agg #[.pointer none, .slice none 0 0]) := Ty.of (by kernel_rfl)
theorem c_Une (T tp : TypeId) (p : Value) (s : List UInt8) (hs : s.length ≤ 16777216) : FnC Tryd.prog 14 [.str s] [.shr 3 T [.lit (.iface tp p)]] (fun r M => r = .str (Une.une s) ∧ M = [.shr 3 T [.lit (.iface tp p)]]) :=  by
  refine FnC.mk Tryd.func14 (by kernel_rfl) rfl Tryd.ntmps14 rfl (fun w0 F => ?_)
  refine W.seq ?_
  refine W.region ?_
  refine W.q (Ev.assign .k) rfl ?_
  refine W.nil ?_
  refine W.then ?_
  refine W.seq ?_
  refine W.region ?_
  refine W.alloc ty48 rfl rfl ?_
  intro b3
  refine W.nil ?_
  refine W.then ?_
  refine W.seq ?_
  refine W.seq ?_
  refine W.region ?_
  refine W.q (Ev.assign .k) rfl ?_
  refine W.nil ?_
  refine W.then ?_
  refine W.block ?_
  refine W.own_nil 5 1 ?_
  refine W.perm (List.Perm.swap _ _ [_]) ?_
  refine W.loop (D := []) (ι := Nat × List UInt8 × Value × Option Addr) (fun z => [(4, true, .int (z.1 : Int)), (0, true, .str s), (3, true, .lit (.pointer (some ⟨b3, 0, none⟩)))]) (fun z => [.box b3 48 [.lit (.pointer z.2.2.2), .lit z.2.2.1], .arr z.2.2.1 5 1 (z.2.1.map AV.u8), .shr 3 T [.lit (.iface tp p)]]) (fun z => z.1 ≤ s.length ∧ z.2.1 ++ Une.une (s.drop z.1) = Une.une s ∧ z.2.1.length ≤ z.1 ∧ (z.2.2.1 = .slice none 0 0 ∨ z.2.1 ≠ []) ∧ (z.2.2.2 = none ∨ z.2.2.2 = some ⟨b3, 0, none⟩)) (fun z => s.length - z.1) (0, [], .slice none 0 0, none) ⟨rfl, rfl, rfl, trivial⟩ (.refl _) ⟨Nat.zero_le _, rfl, Nat.le_refl _, .inl rfl, .inl rfl⟩ ?_
  rintro ⟨i, out, v, pp⟩ ⟨hi1, hi2, hi3, hi4, hi5⟩
  dsimp only at hi1 hi2 hi3 hi4 hi5 ⊢
  rcases (show i < s.length ∨ i = s.length from by omega) with hlt | hend
  · obtain ⟨c0, hc0⟩ : ∃ c, s.getD i 0 = c := ⟨_, rfl⟩
    have hdn : s.drop i ≠ [] := by intro e; have := congrArg List.length e; simp at this; omega
    have hd0 : (s.drop i).getD 0 0 = c0 := by rw [← hc0, List.getD_eq_getElem?_getD, List.getElem?_drop, List.getD_eq_getElem?_getD]; rfl
    have hd1 : (s.drop i).take 1 = [c0] := by
      obtain ⟨a, r, har⟩ := List.exists_cons_of_ne_nil hdn
      rw [har] at hd0 ⊢
      have : a = c0 := hd0
      rw [this]; rfl
    refine W.seq ?_
    refine W.seq ?_
    refine W.region ?_
    refine W.q (Ev.move (.t rfl)) rfl ?_
    refine W.q (Ev.move (.t rfl)) rfl ?_
    refine W.q (Ev.lens (.t rfl) Tryd.underlying9) rfl ?_
    refine W.q (Ev.lti (.t rfl) (.t rfl)) rfl ?_
    refine W.nil ?_
    refine W.then ?_
    refine W.is (t := 11) (g := true) (av' := .lit (.bool true)) rfl (congrArg (fun b => AV.lit (.bool b)) (by exact decide_eq_true (by omega))) ?_
    refine W.condT (.t rfl) ?_
    refine W.skip ?_
    refine W.then ?_
    refine W.seq ?_
    refine W.block ?_
    refine W.seq ?_
    refine W.seq ?_
    refine W.region ?_
    refine W.q (Ev.move (.t rfl)) rfl ?_
    refine W.q (Ev.move (.t rfl)) rfl ?_
    refine W.q (Ev.ats' (.t rfl) (.t rfl) Tryd.underlying9 (fun hg => by omega)) rfl ?_
    refine W.is (t := 16) (g := true) (av' := AV.u8 c0) rfl (congrArg AV.u8 (by rw [Int.toNat_natCast, hc0])) ?_
    refine W.q (Ev.eqi (.t rfl) .k) rfl ?_
    refine W.nil ?_
    refine W.then ?_
    refine W.cond (.t rfl) (fun hc_t17 => ?_) (fun hc_t17 => ?_)
    · have h38 : c0 = 38 := UInt8.toNat_inj.1 (by have h := eq_of_beq hc_t17; show c0.toNat = 38; omega)
      refine W.seq ?_
      refine W.region ?_
      refine W.q (Ev.move (.t rfl)) rfl ?_
      refine W.q (Ev.move (.t rfl)) rfl ?_
      refine W.q (Ev.subs (lo := some (.tmp 19)) (hi := none) (.t rfl) Tryd.underlying9 (.t rfl) rfl (fun _ => by omega)) rfl ?_
      refine W.is (t := 20) (g := true) (av' := .str (s.drop i)) rfl (congrArg AV.str (by simp)) ?_
      refine W.callp (WIndex.c_IndexByte (s.drop i) 59) ⟨(.t rfl), .k, trivial⟩ rfl ?_
      obtain ⟨n, hn⟩ : ∃ z, idxI (fun b => b == 59) (s.drop i) = z := ⟨_, rfl⟩
      rw [hn]
      refine W.q (Ev.assign (.t rfl)) rfl ?_
      refine W.nil ?_
      refine W.then ?_
      refine W.seq ?_
      refine W.region ?_
      refine W.q (Ev.move (.t rfl)) rfl ?_
      refine W.q (Ev.gti (.t rfl) .k) rfl ?_
      refine W.nil ?_
      refine W.then ?_
      refine W.cond (.t rfl) (fun hc_t23 => ?_) (fun hc_t23 => ?_)
      · have h23 := of_decide_eq_true hc_t23
        have hlt2 := Une.idx_lt (s.drop i) (fun b => b == 59)
        rw [hn, List.length_drop] at hlt2
        obtain ⟨k, rfl⟩ := Int.eq_ofNat_of_zero_le (by omega : 0 ≤ n)
        have hfar : Une.far (s.drop i) = k := by unfold Une.far; rw [hn, Int.toNat_natCast]
        refine W.seq ?_
        refine W.region ?_
        refine W.q (Ev.move (.t rfl)) rfl ?_
        refine W.q (Ev.move (.t rfl)) rfl ?_
        first | refine W.q (Ev.add (.t rfl) .k (fun _ => by omega)) rfl ?_ | refine W.q (Ev.addw (.t rfl) .k) rfl ?_
        refine W.is (t := 27) (g := true) (av' := .int ((i + 1 : Nat) : Int)) rfl (congrArg AV.int (by omega)) ?_
        refine W.q (Ev.move (.t rfl)) rfl ?_
        refine W.q (Ev.move (.t rfl)) rfl ?_
        first | refine W.q (Ev.add (.t rfl) (.t rfl) (fun _ => by omega)) rfl ?_ | refine W.q (Ev.addw (.t rfl) (.t rfl)) rfl ?_
        refine W.is (t := 30) (g := true) (av' := .int ((i + k : Nat) : Int)) rfl (congrArg AV.int (by omega)) ?_
        refine W.q (Ev.subs (lo := some (.tmp 27)) (hi := some (.tmp 30)) (.t rfl) Tryd.underlying9 (.t rfl) (.t rfl) (fun _ => by omega)) rfl ?_
        refine W.is (t := 31) (g := true) (av' := .str (((s.drop i).take k).drop 1)) rfl (congrArg AV.str (by rw [Int.toNat_natCast, Int.toNat_natCast, List.take_drop, List.drop_drop])) ?_
        refine W.call (WLetter2.c_letter T tp p (((s.drop i).take k).drop 1) (by rw [List.length_drop, List.length_take, List.length_drop]; omega)) ⟨(.t rfl), trivial⟩ (((List.perm_middle (l₁ := [_, _])).trans <| List.Perm.cons _ <| List.Perm.cons _ <| List.Perm.cons _ <| .refl _)) rfl ?_
        rintro _ _ ⟨rfl, rfl⟩
        refine W.perm ((List.perm_middle (l₁ := [_])).trans <| List.Perm.cons _ <| (List.perm_middle (l₁ := [_])).trans <| List.Perm.cons _ <| List.Perm.cons _ <| .refl _) ?_
        refine W.q (Ev.move (.t rfl)) rfl ?_
        refine W.q (Ev.extract (.t rfl) rfl) rfl ?_
        refine W.q (Ev.extract (.t rfl) rfl) rfl ?_
        refine W.q (Ev.assign (.t rfl)) rfl ?_
        refine W.q (Ev.assign (.t rfl)) rfl ?_
        refine W.nil ?_
        refine W.then ?_
        refine W.seq ?_
        refine W.region ?_
        refine W.q (Ev.move (.t rfl)) rfl ?_
        refine W.nil ?_
        refine W.then ?_
        refine W.cond (.t rfl) (fun hc_t35 => ?_) (fun hc_t35 => ?_)
        · have hlk := Une.ltr_ok _ hc_t35
          have hll := hlk.1
          rw [List.length_drop, List.length_take, List.length_drop] at hll
          have hone : Une.one (s.drop i) = (enc ((Une.ltr (((s.drop i).take k).drop 1)).1 : Nat), k + 1) := by
            unfold Une.one; rw [hfar, if_pos ⟨by rw [hd0, h38], by omega, hc_t35⟩]
          obtain ⟨R, hR⟩ : ∃ R, (Une.ltr (((s.drop i).take k).drop 1)).1 = R := ⟨_, rfl⟩
          rw [hR] at hlk hone
          refine W.is (t := 6) (g := true) (av' := .lit (.int .i32 (R : Int))) rfl (congrArg (fun z => AV.lit (.int .i32 z)) (by rw [hR])) ?_
          have hel := (enc_len (R : Int)).2
          have hel1 := (enc_len (R : Int)).1
          have hne0 : enc (R : Int) ≠ [] := by intro e; rw [e] at hel1; simp at hel1
          have hnx : (out ++ enc (R : Int)) ++ Une.une (s.drop (i + k + 1)) = Une.une s := by rw [← hi2, Une.une_cons _ hdn, hone, List.drop_drop, List.append_assoc, Nat.add_assoc]
          refine W.seq ?_
          refine W.region ?_
          refine W.q (Ev.move (.t rfl)) rfl ?_
          refine W.call (WPut2.c_WriteRune b3 pp v out hi5 (by omega) R (by omega)) ⟨(.t rfl), (.t rfl), trivial⟩ (.refl _) rfl ?_
          rintro _ _ ⟨⟨k37, rfl⟩, v37, rfl⟩
          refine W.nil ?_
          refine W.then ?_
          refine W.seq ?_
          refine W.region ?_
          refine W.q (Ev.move (.t rfl)) rfl ?_
          refine W.q (Ev.move (.t rfl)) rfl ?_
          first | refine W.q (Ev.add (.t rfl) (.t rfl) (fun _ => by omega)) rfl ?_ | refine W.q (Ev.addw (.t rfl) (.t rfl)) rfl ?_
          refine W.is (t := 40) (g := true) (av' := .int ((i + k : Nat) : Int)) rfl (congrArg AV.int (by omega)) ?_
          refine W.q (Ev.assign (.t rfl)) rfl ?_
          refine W.nil ?_
          refine W.then ?_
          refine W.exit ?_
          refine W.then_exit ?_
          refine W.blk_hit ?_
          refine W.then ?_
          refine W.region ?_
          refine W.q (Ev.move (.t rfl)) rfl ?_
          first | refine W.q (Ev.add (.t rfl) .k (fun _ => by omega)) rfl ?_ | refine W.q (Ev.addw (.t rfl) .k) rfl ?_
          refine W.q (Ev.assign (.t rfl)) rfl ?_
          refine W.nil ?_
          refine W.then ?_
          refine W.reach (D := []) (i + k + 1, out ++ enc (R : Int), v37, some ⟨b3, 0, none⟩) ⟨rfl, rfl, rfl, trivial⟩ (.refl _) ⟨⟨by show i + k + 1 ≤ _; omega, hnx, by show List.length (_ ++ _) ≤ _; rw [List.length_append]; (first | (have hen := hel; omega) | (simp only [List.length_cons, List.length_nil]; omega)), .inr (by simp [hne0]), .inr rfl⟩, by show _ - (i + k + 1) < _; omega⟩
        · have hone : Une.one (s.drop i) = ([c0], 1) := by
            unfold Une.one
            rw [hfar, if_neg (fun h => by
              rw [hc_t35] at h; exact absurd h.2.2 (by decide)), hd1]
          refine W.skip ?_
          refine W.then ?_
          refine W.region ?_
          refine W.q (Ev.move (.t rfl)) rfl ?_
          refine W.q (Ev.move (.t rfl)) rfl ?_
          refine W.q (Ev.ats' (.t rfl) (.t rfl) Tryd.underlying9 (fun hg => by omega)) rfl ?_
          refine W.is (t := 43) (g := true) (av' := AV.u8 c0) rfl (congrArg AV.u8 (by rw [Int.toNat_natCast, hc0])) ?_
          refine W.call (WBld.c_WriteByte b3 pp v out hi5 (by omega) c0) ⟨(.t rfl), (.t rfl), trivial⟩ (.refl _) rfl ?_
          rintro _ _ ⟨rfl, v44, rfl⟩
          refine W.nil ?_
          refine W.blk_normal ?_
          refine W.then ?_
          refine W.region ?_
          refine W.q (Ev.move (.t rfl)) rfl ?_
          first | refine W.q (Ev.add (.t rfl) .k (fun _ => by omega)) rfl ?_ | refine W.q (Ev.addw (.t rfl) .k) rfl ?_
          refine W.q (Ev.assign (.t rfl)) rfl ?_
          refine W.nil ?_
          refine W.then ?_
          have hnx : (out ++ [c0]) ++ Une.une (s.drop (i + 1)) = Une.une s := by rw [← hi2, Une.une_cons _ hdn, hone, List.drop_drop, List.append_assoc]
          have hne0 : ([c0] : List UInt8) ≠ [] := by simp
          refine W.reach (D := []) (i + 1, out ++ [c0], v44, some ⟨b3, 0, none⟩) ⟨rfl, rfl, rfl, trivial⟩ (.refl _) ⟨⟨by show i + 1 ≤ _; omega, hnx, by show List.length (_ ++ _) ≤ _; rw [List.length_append]; (first | (have hen := hel; omega) | (simp only [List.length_cons, List.length_nil]; omega)), .inr (by simp [hne0]), .inr rfl⟩, by show _ - (i + 1) < _; omega⟩
      · have h23 := of_decide_eq_false hc_t23
        have hone : Une.one (s.drop i) = ([c0], 1) := by
          unfold Une.one Une.far
          rw [if_neg (fun h => by
            rw [hn] at h; omega), hd1]
        refine W.skip ?_
        refine W.then ?_
        refine W.region ?_
        refine W.q (Ev.move (.t rfl)) rfl ?_
        refine W.q (Ev.move (.t rfl)) rfl ?_
        refine W.q (Ev.ats' (.t rfl) (.t rfl) Tryd.underlying9 (fun hg => by omega)) rfl ?_
        refine W.is (t := 43) (g := true) (av' := AV.u8 c0) rfl (congrArg AV.u8 (by rw [Int.toNat_natCast, hc0])) ?_
        refine W.call (WBld.c_WriteByte b3 pp v out hi5 (by omega) c0) ⟨(.t rfl), (.t rfl), trivial⟩ (.refl _) rfl ?_
        rintro _ _ ⟨rfl, v44, rfl⟩
        refine W.nil ?_
        refine W.blk_normal ?_
        refine W.then ?_
        refine W.region ?_
        refine W.q (Ev.move (.t rfl)) rfl ?_
        first | refine W.q (Ev.add (.t rfl) .k (fun _ => by omega)) rfl ?_ | refine W.q (Ev.addw (.t rfl) .k) rfl ?_
        refine W.q (Ev.assign (.t rfl)) rfl ?_
        refine W.nil ?_
        refine W.then ?_
        have hnx : (out ++ [c0]) ++ Une.une (s.drop (i + 1)) = Une.une s := by rw [← hi2, Une.une_cons _ hdn, hone, List.drop_drop, List.append_assoc]
        have hne0 : ([c0] : List UInt8) ≠ [] := by simp
        refine W.reach (D := []) (i + 1, out ++ [c0], v44, some ⟨b3, 0, none⟩) ⟨rfl, rfl, rfl, trivial⟩ (.refl _) ⟨⟨by show i + 1 ≤ _; omega, hnx, by show List.length (_ ++ _) ≤ _; rw [List.length_append]; (first | (have hen := hel; omega) | (simp only [List.length_cons, List.length_nil]; omega)), .inr (by simp [hne0]), .inr rfl⟩, by show _ - (i + 1) < _; omega⟩
    · have hone : Une.one (s.drop i) = ([c0], 1) := by
        unfold Une.one
        rw [if_neg (fun h => by
          rw [hd0] at h; rw [h.1] at hc_t17; exact absurd hc_t17 (by decide)), hd1]
      refine W.skip ?_
      refine W.then ?_
      refine W.region ?_
      refine W.q (Ev.move (.t rfl)) rfl ?_
      refine W.q (Ev.move (.t rfl)) rfl ?_
      refine W.q (Ev.ats' (.t rfl) (.t rfl) Tryd.underlying9 (fun hg => by omega)) rfl ?_
      refine W.is (t := 43) (g := true) (av' := AV.u8 c0) rfl (congrArg AV.u8 (by rw [Int.toNat_natCast, hc0])) ?_
      refine W.call (WBld.c_WriteByte b3 pp v out hi5 (by omega) c0) ⟨(.t rfl), (.t rfl), trivial⟩ (.refl _) rfl ?_
      rintro _ _ ⟨rfl, v44, rfl⟩
      refine W.nil ?_
      refine W.blk_normal ?_
      refine W.then ?_
      refine W.region ?_
      refine W.q (Ev.move (.t rfl)) rfl ?_
      first | refine W.q (Ev.add (.t rfl) .k (fun _ => by omega)) rfl ?_ | refine W.q (Ev.addw (.t rfl) .k) rfl ?_
      refine W.q (Ev.assign (.t rfl)) rfl ?_
      refine W.nil ?_
      refine W.then ?_
      have hnx : (out ++ [c0]) ++ Une.une (s.drop (i + 1)) = Une.une s := by rw [← hi2, Une.une_cons _ hdn, hone, List.drop_drop, List.append_assoc]
      have hne0 : ([c0] : List UInt8) ≠ [] := by simp
      refine W.reach (D := []) (i + 1, out ++ [c0], v44, some ⟨b3, 0, none⟩) ⟨rfl, rfl, rfl, trivial⟩ (.refl _) ⟨⟨by show i + 1 ≤ _; omega, hnx, by show List.length (_ ++ _) ≤ _; rw [List.length_append]; (first | (have hen := hel; omega) | (simp only [List.length_cons, List.length_nil]; omega)), .inr (by simp [hne0]), .inr rfl⟩, by show _ - (i + 1) < _; omega⟩
  · rw [hend, List.drop_length, Une.une_nil, List.append_nil] at hi2
    refine W.seq ?_
    refine W.seq ?_
    refine W.region ?_
    refine W.q (Ev.move (.t rfl)) rfl ?_
    refine W.q (Ev.move (.t rfl)) rfl ?_
    refine W.q (Ev.lens (.t rfl) Tryd.underlying9) rfl ?_
    refine W.q (Ev.lti (.t rfl) (.t rfl)) rfl ?_
    refine W.nil ?_
    refine W.then ?_
    refine W.is (t := 11) (g := true) (av' := .lit (.bool false)) rfl (congrArg (fun b => AV.lit (.bool b)) (by exact decide_eq_false (by omega))) ?_
    refine W.condF (.t rfl) ?_
    refine W.exit ?_
    refine W.then_exit ?_
    refine W.then_exit ?_
    refine W.blk_hit ?_
    refine W.then ?_
    refine W.seq ?_
    refine W.region ?_
    refine W.call (WBld.c_String b3 pp v out hi5 (by omega) hi4) ⟨(.t rfl), trivial⟩ (.refl _) rfl ?_
    rintro _ _ ⟨rfl, rfl⟩
    refine W.q (Ev.assign (.t rfl)) rfl ?_
    refine W.nil ?_
    refine W.then ?_
    refine W.ret ?_
    refine W.retn (M' := [.shr 3 T [.lit (.iface tp p)]]) (D := []) (rs := [.tmp 2]) (avs := [_]) Tryd.results14 ⟨rfl, trivial⟩ rfl (.refl _) ?_
    exact ⟨congrArg AV.str hi2, rfl⟩

end WUne

end Go.Proofs.YtohncieijjhnjaaDoor
end

section
set_option linter.unusedVariables false
set_option linter.unusedSimpArgs false
set_option maxRecDepth 100000
namespace Go.Proofs.YtohncieijjhnjaaDoor
open Go.Vl

namespace WStr
theorem ty5 : Ty Tryd.prog 5 1 1 (.int .u8 0) := Ty.of (by kernel_rfl)
theorem ty46 : Ty Tryd.prog 46 1 24 (.slice none 0 0) := Ty.of (by kernel_rfl)
theorem ag46 : IsAgg Tryd.prog 46 false := ⟨_, Tryd.underlying46, rfl⟩
theorem fa48_1 : FieldAt Tryd.prog 48 1 1 1 false := ⟨_, _, Tryd.underlying48, rfl, rfl, ty46.size, ag46, by decide⟩
theorem ni9 : NotInt Tryd.prog 9 := .inr Tryd.underlying9
theorem c_WriteString (b : Nat) (p : Option Addr) (v : Value) (l : List UInt8) (hp : p = none ∨ p = some ⟨b, 0, none⟩) (s : List UInt8) (hl : l.length + s.length ≤ 17592186044416) : FnC Tryd.prog 23 [.lit (.pointer (some ⟨b, 0, none⟩)), .str s] [.box b 48 [.lit (.pointer p), .lit v], .arr v 5 1 (l.map AV.u8)] (fun r M => r = .tup [.int (s.length : Int), .lit .nilIface] ∧ ∃ v', M = [.box b 48 [.lit (.pointer (some ⟨b, 0, none⟩)), .lit v'], .arr v' 5 1 ((l ++ s).map AV.u8)]) :=  by
  refine FnC.mk Tryd.func23 (by kernel_rfl) rfl Tryd.ntmps23 rfl (fun w0 F => ?_)
  have hlm : (l.map AV.u8).length = l.length := List.length_map ..
  have hsm : (s.map AV.u8).length = s.length := List.length_map ..
  refine W.seq ?_
  refine W.region ?_
  refine W.q (Ev.assign .k) rfl ?_
  refine W.q (Ev.assign .k) rfl ?_
  refine W.nil ?_
  refine W.then ?_
  refine W.seq ?_
  refine W.region ?_
  refine W.q (Ev.move (.t rfl)) rfl ?_
  refine W.call (WBld.c_copyCheck b v p hp) ⟨(.t rfl), trivial⟩ (.refl _) rfl ?_
  rintro _ _ ⟨rfl, rfl⟩
  refine W.nil ?_
  refine W.then ?_
  refine W.seq ?_
  refine W.region ?_
  refine W.q (Ev.move (.t rfl)) rfl ?_
  refine W.q (Ev.move (.t rfl)) rfl ?_
  refine W.q (Ev.nilc (.t rfl)) rfl ?_
  first | refine W.q (Ev.fae (.t rfl) fa48_1 rfl) rfl ?_ | refine W.q (Ev.fab (.t rfl) fa48_1) rfl ?_ | refine W.q (Ev.faa (.t rfl) fa48_1) rfl ?_
  first | refine W.q (Ev.lde1 (.t rfl) ag46) rfl ?_ | refine W.q (Ev.ldb1 0 (.t rfl) rfl ag46 rfl) rfl ?_ | refine W.q (Ev.ldb1 1 (.t rfl) rfl ag46 rfl) rfl ?_ | refine W.q (Ev.ldb1 2 (.t rfl) rfl ag46 rfl) rfl ?_ | refine W.q (Ev.ldb1 3 (.t rfl) rfl ag46 rfl) rfl ?_
  refine W.q (Ev.move (.t rfl)) rfl ?_
  first | refine W.app 0 (.t rfl) rfl (.str (.t rfl)) Tryd.underlying46 ni9 ty5 rfl rfl (by rw [hlm, hsm]; omega) rfl ?_ | refine W.app 1 (.t rfl) rfl (.str (.t rfl)) Tryd.underlying46 ni9 ty5 rfl rfl (by rw [hlm, hsm]; omega) rfl ?_ | refine W.app 2 (.t rfl) rfl (.str (.t rfl)) Tryd.underlying46 ni9 ty5 rfl rfl (by rw [hlm, hsm]; omega) rfl ?_ | refine W.app 3 (.t rfl) rfl (.str (.t rfl)) Tryd.underlying46 ni9 ty5 rfl rfl (by rw [hlm, hsm]; omega) rfl ?_
  intro v14
  refine W.arr_inv 1 rfl (fun a14 n14 c14 h14 => ?_)
  subst h14
  refine W.q (Ev.nilc (.t rfl)) rfl ?_
  first | refine W.q (Ev.fae (.t rfl) fa48_1 rfl) rfl ?_ | refine W.q (Ev.fab (.t rfl) fa48_1) rfl ?_ | refine W.q (Ev.faa (.t rfl) fa48_1) rfl ?_
  first | refine W.stb 0 (.t rfl) (.t rfl) rfl ty46 rfl rfl rfl ?_ | refine W.stb 1 (.t rfl) (.t rfl) rfl ty46 rfl rfl rfl ?_ | refine W.stb 2 (.t rfl) (.t rfl) rfl ty46 rfl rfl rfl ?_ | refine W.stb 3 (.t rfl) (.t rfl) rfl ty46 rfl rfl rfl ?_
  refine W.nil ?_
  refine W.then ?_
  refine W.seq ?_
  refine W.region ?_
  refine W.q (Ev.move (.t rfl)) rfl ?_
  refine W.q (Ev.lens (.t rfl) Tryd.underlying9) rfl ?_
  refine W.q (Ev.assign (.t rfl)) rfl ?_
  refine W.q (Ev.assign .k) rfl ?_
  refine W.nil ?_
  refine W.then ?_
  refine W.ret ?_
  refine W.retn (M' := [.box b 48 _, .arr _ 5 1 _]) (rs := [.tmp 4, .tmp 5]) (avs := [_, _]) Tryd.results23 ⟨rfl, rfl, trivial⟩ rfl (.refl _) ?_
  exact ⟨rfl, _, by rw [List.map_append]; rfl⟩

end WStr

end Go.Proofs.YtohncieijjhnjaaDoor
end

section
set_option linter.unusedVariables false
set_option linter.unusedSimpArgs false
set_option maxRecDepth 100000
namespace Go.Proofs.YtohncieijjhnjaaDoor
open Go.Vl

namespace WEsc
theorem ty48 : Ty Tryd.prog 48 2 32 (.agg #[.pointer none, .slice none 0 0]) := Ty.of (by kernel_rfl)
theorem c_Escape (s : List UInt8) (q : Bool) (hs : s.length ≤ 1099511627776) : FnP Tryd.prog 13 [.str s, .bool q] (.str (esc q s)) :=  by
  refine FnC.mk Tryd.func13 (by kernel_rfl) rfl Tryd.ntmps13 rfl (fun w0 F => ?_)
  refine W.seq ?_
  refine W.region ?_
  refine W.q (Ev.assign .k) rfl ?_
  refine W.nil ?_
  refine W.then ?_
  refine W.seq ?_
  refine W.region ?_
  refine W.alloc ty48 rfl rfl ?_
  intro b5
  refine W.nil ?_
  refine W.then ?_
  refine W.seq ?_
  refine W.seq ?_
  refine W.region ?_
  refine W.q (Ev.move (.t rfl)) rfl ?_
  refine W.q (Ev.lens (.t rfl) Tryd.underlying9) rfl ?_
  refine W.q (Ev.move .k) rfl ?_
  refine W.nil ?_
  refine W.then ?_
  refine W.block ?_
  refine W.own_nil 5 1 ?_
  refine W.perm (List.Perm.swap _ _ []) ?_
  refine W.loop (D := []) (ι := Nat × List UInt8 × Value × Option Addr) (fun z => [(10, true, .int (z.1 : Int)), (9, true, .int (s.length : Int)), (0, true, .str s), (1, true, .bool q), (5, true, .lit (.pointer (some ⟨b5, 0, none⟩)))]) (fun z => [.box b5 48 [.lit (.pointer z.2.2.2), .lit z.2.2.1], .arr z.2.2.1 5 1 (z.2.1.map AV.u8)]) (fun z => z.1 ≤ s.length ∧ esc q (s.take z.1) = z.2.1 ∧ z.2.1.length ≤ 6 * z.1 ∧ (z.2.2.1 = .slice none 0 0 ∨ z.2.1 ≠ []) ∧ (z.2.2.2 = none ∨ z.2.2.2 = some ⟨b5, 0, none⟩)) (fun z => s.length - z.1) (0, [], .slice none 0 0, none) ⟨rfl, rfl, rfl, rfl, rfl, trivial⟩ (.refl _) ⟨Nat.zero_le _, by simp [esc], by simp, .inl rfl, .inl rfl⟩ ?_
  rintro ⟨i, out, v, p⟩ ⟨hi1, hi2, hi3, hi4, hi5⟩
  dsimp only at hi1 hi2 hi3 hi4 hi5 ⊢
  rcases (show i < s.length ∨ i = s.length from by omega) with hlt | hend
  · have hsn := esc_snoc q s i hlt
    generalize hc0 : s.getD i 0 = c at hsn
    have hel := esc1_len q c
    refine W.seq ?_
    refine W.region ?_
    refine W.q (Ev.lti (.t rfl) (.t rfl)) rfl ?_
    refine W.nil ?_
    refine W.then ?_
    refine W.seq ?_
    refine W.is (t := 11) (g := true) (av' := .lit (.bool true)) rfl (congrArg (fun b => AV.lit (.bool b)) (by exact decide_eq_true (by omega))) ?_
    refine W.condT (.t rfl) ?_
    refine W.skip ?_
    refine W.then ?_
    refine W.seq ?_
    refine W.block ?_
    refine W.seq ?_
    refine W.region ?_
    refine W.q (Ev.move (.t rfl)) rfl ?_
    refine W.q (Ev.assign (.t rfl)) rfl ?_
    refine W.nil ?_
    refine W.then ?_
    refine W.seq ?_
    refine W.region ?_
    refine W.q (Ev.move (.t rfl)) rfl ?_
    refine W.q (Ev.move (.t rfl)) rfl ?_
    refine W.q (Ev.ats' (.t rfl) (.t rfl) Tryd.underlying9 (fun hg => by omega)) rfl ?_
    refine W.is (t := 15) (g := true) (av' := AV.u8 c) rfl (by rw [show ((i : Int)).toNat = i from by omega, hc0]) ?_
    refine W.q (Ev.assign (.t rfl)) rfl ?_
    refine W.nil ?_
    refine W.then ?_
    refine W.block ?_
    refine W.seq ?_
    refine W.region ?_
    refine W.q (Ev.move (.t rfl)) rfl ?_
    refine W.q (Ev.eqi (.t rfl) .k) rfl ?_
    refine W.q (Ev.assign (.t rfl)) rfl ?_
    refine W.nil ?_
    refine W.then ?_
    refine W.cond (.t rfl) (fun hc_t18 => ?_) (fun hc_t18 => ?_)
    · have hc : c = 38 := u8_is c 38 (by decide) hc_t18
      have hes : esc1 q c = [38, 97, 109, 112, 59] := by subst hc; cases q <;> decide
      refine W.region ?_
      refine W.call (WStr.c_WriteString b5 p v out hi5 [38, 97, 109, 112, 59] (by simp only [List.length_cons, List.length_nil]; omega)) ⟨(.t rfl), .k, trivial⟩ (.refl _) rfl ?_
      rintro _ _ ⟨rfl, v21, rfl⟩
      refine W.nil ?_
      refine W.blk_normal ?_
      refine W.blk_normal ?_
      refine W.then ?_
      refine W.region ?_
      first | refine W.q (Ev.add (.t rfl) .k (fun _ => by omega)) rfl ?_ | refine W.q (Ev.addw (.t rfl) .k) rfl ?_
      refine W.q (Ev.move (.t rfl)) rfl ?_
      refine W.nil ?_
      refine W.then ?_
      first
      | (refine W.reach (D := []) (i + 1, out ++ [38, 97, 109, 112, 59], v21, some ⟨b5, 0, none⟩) ⟨rfl, rfl, rfl, rfl, rfl, trivial⟩ (.refl _) ⟨⟨by show i + 1 ≤ _; omega, by rw [hsn, hes, hi2], by simp only [List.length_append, List.length_cons, List.length_nil]; omega, .inr (by simp), .inr rfl⟩, by show _ - (i + 1) < _; omega⟩)
      | (refine W.reach (D := []) (i + 1, out ++ [38, 108, 116, 59], v25, some ⟨b5, 0, none⟩) ⟨rfl, rfl, rfl, rfl, rfl, trivial⟩ (.refl _) ⟨⟨by show i + 1 ≤ _; omega, by rw [hsn, hes, hi2], by simp only [List.length_append, List.length_cons, List.length_nil]; omega, .inr (by simp), .inr rfl⟩, by show _ - (i + 1) < _; omega⟩)
      | (refine W.reach (D := []) (i + 1, out ++ [38, 103, 116, 59], v29, some ⟨b5, 0, none⟩) ⟨rfl, rfl, rfl, rfl, rfl, trivial⟩ (.refl _) ⟨⟨by show i + 1 ≤ _; omega, by rw [hsn, hes, hi2], by simp only [List.length_append, List.length_cons, List.length_nil]; omega, .inr (by simp), .inr rfl⟩, by show _ - (i + 1) < _; omega⟩)
      | (refine W.reach (D := []) (i + 1, out ++ [38, 113, 117, 111, 116, 59], v36, some ⟨b5, 0, none⟩) ⟨rfl, rfl, rfl, rfl, rfl, trivial⟩ (.refl _) ⟨⟨by show i + 1 ≤ _; omega, by rw [hsn, hes, hi2], by simp only [List.length_append, List.length_cons, List.length_nil]; omega, .inr (by simp), .inr rfl⟩, by show _ - (i + 1) < _; omega⟩)
      | (refine W.reach (D := []) (i + 1, out ++ [c], v17, some ⟨b5, 0, none⟩) ⟨rfl, rfl, rfl, rfl, rfl, trivial⟩ (.refl _) ⟨⟨by show i + 1 ≤ _; omega, by rw [hsn, hes, hi2], by simp only [List.length_append, List.length_cons, List.length_nil]; omega, .inr (by simp), .inr rfl⟩, by show _ - (i + 1) < _; omega⟩)
    · have hn38 : c ≠ 38 := u8_isnt c 38 (by decide) hc_t18
      refine W.seq ?_
      refine W.region ?_
      refine W.q (Ev.move (.t rfl)) rfl ?_
      refine W.q (Ev.eqi (.t rfl) .k) rfl ?_
      refine W.q (Ev.assign (.t rfl)) rfl ?_
      refine W.nil ?_
      refine W.then ?_
      refine W.cond (.t rfl) (fun hc_t22 => ?_) (fun hc_t22 => ?_)
      · have hc : c = 60 := u8_is c 60 (by decide) hc_t22
        have hes : esc1 q c = [38, 108, 116, 59] := by subst hc; cases q <;> decide
        refine W.region ?_
        refine W.call (WStr.c_WriteString b5 p v out hi5 [38, 108, 116, 59] (by simp only [List.length_cons, List.length_nil]; omega)) ⟨(.t rfl), .k, trivial⟩ (.refl _) rfl ?_
        rintro _ _ ⟨rfl, v25, rfl⟩
        refine W.nil ?_
        refine W.blk_normal ?_
        refine W.blk_normal ?_
        refine W.then ?_
        refine W.region ?_
        first | refine W.q (Ev.add (.t rfl) .k (fun _ => by omega)) rfl ?_ | refine W.q (Ev.addw (.t rfl) .k) rfl ?_
        refine W.q (Ev.move (.t rfl)) rfl ?_
        refine W.nil ?_
        refine W.then ?_
        first
        | (refine W.reach (D := []) (i + 1, out ++ [38, 97, 109, 112, 59], v21, some ⟨b5, 0, none⟩) ⟨rfl, rfl, rfl, rfl, rfl, trivial⟩ (.refl _) ⟨⟨by show i + 1 ≤ _; omega, by rw [hsn, hes, hi2], by simp only [List.length_append, List.length_cons, List.length_nil]; omega, .inr (by simp), .inr rfl⟩, by show _ - (i + 1) < _; omega⟩)
        | (refine W.reach (D := []) (i + 1, out ++ [38, 108, 116, 59], v25, some ⟨b5, 0, none⟩) ⟨rfl, rfl, rfl, rfl, rfl, trivial⟩ (.refl _) ⟨⟨by show i + 1 ≤ _; omega, by rw [hsn, hes, hi2], by simp only [List.length_append, List.length_cons, List.length_nil]; omega, .inr (by simp), .inr rfl⟩, by show _ - (i + 1) < _; omega⟩)
        | (refine W.reach (D := []) (i + 1, out ++ [38, 103, 116, 59], v29, some ⟨b5, 0, none⟩) ⟨rfl, rfl, rfl, rfl, rfl, trivial⟩ (.refl _) ⟨⟨by show i + 1 ≤ _; omega, by rw [hsn, hes, hi2], by simp only [List.length_append, List.length_cons, List.length_nil]; omega, .inr (by simp), .inr rfl⟩, by show _ - (i + 1) < _; omega⟩)
        | (refine W.reach (D := []) (i + 1, out ++ [38, 113, 117, 111, 116, 59], v36, some ⟨b5, 0, none⟩) ⟨rfl, rfl, rfl, rfl, rfl, trivial⟩ (.refl _) ⟨⟨by show i + 1 ≤ _; omega, by rw [hsn, hes, hi2], by simp only [List.length_append, List.length_cons, List.length_nil]; omega, .inr (by simp), .inr rfl⟩, by show _ - (i + 1) < _; omega⟩)
        | (refine W.reach (D := []) (i + 1, out ++ [c], v17, some ⟨b5, 0, none⟩) ⟨rfl, rfl, rfl, rfl, rfl, trivial⟩ (.refl _) ⟨⟨by show i + 1 ≤ _; omega, by rw [hsn, hes, hi2], by simp only [List.length_append, List.length_cons, List.length_nil]; omega, .inr (by simp), .inr rfl⟩, by show _ - (i + 1) < _; omega⟩)
      · have hn60 : c ≠ 60 := u8_isnt c 60 (by decide) hc_t22
        refine W.seq ?_
        refine W.region ?_
        refine W.q (Ev.move (.t rfl)) rfl ?_
        refine W.q (Ev.eqi (.t rfl) .k) rfl ?_
        refine W.q (Ev.assign (.t rfl)) rfl ?_
        refine W.nil ?_
        refine W.then ?_
        refine W.cond (.t rfl) (fun hc_t26 => ?_) (fun hc_t26 => ?_)
        · have hc : c = 62 := u8_is c 62 (by decide) hc_t26
          have hes : esc1 q c = [38, 103, 116, 59] := by subst hc; cases q <;> decide
          refine W.region ?_
          refine W.call (WStr.c_WriteString b5 p v out hi5 [38, 103, 116, 59] (by simp only [List.length_cons, List.length_nil]; omega)) ⟨(.t rfl), .k, trivial⟩ (.refl _) rfl ?_
          rintro _ _ ⟨rfl, v29, rfl⟩
          refine W.nil ?_
          refine W.blk_normal ?_
          refine W.blk_normal ?_
          refine W.then ?_
          refine W.region ?_
          first | refine W.q (Ev.add (.t rfl) .k (fun _ => by omega)) rfl ?_ | refine W.q (Ev.addw (.t rfl) .k) rfl ?_
          refine W.q (Ev.move (.t rfl)) rfl ?_
          refine W.nil ?_
          refine W.then ?_
          first
          | (refine W.reach (D := []) (i + 1, out ++ [38, 97, 109, 112, 59], v21, some ⟨b5, 0, none⟩) ⟨rfl, rfl, rfl, rfl, rfl, trivial⟩ (.refl _) ⟨⟨by show i + 1 ≤ _; omega, by rw [hsn, hes, hi2], by simp only [List.length_append, List.length_cons, List.length_nil]; omega, .inr (by simp), .inr rfl⟩, by show _ - (i + 1) < _; omega⟩)
          | (refine W.reach (D := []) (i + 1, out ++ [38, 108, 116, 59], v25, some ⟨b5, 0, none⟩) ⟨rfl, rfl, rfl, rfl, rfl, trivial⟩ (.refl _) ⟨⟨by show i + 1 ≤ _; omega, by rw [hsn, hes, hi2], by simp only [List.length_append, List.length_cons, List.length_nil]; omega, .inr (by simp), .inr rfl⟩, by show _ - (i + 1) < _; omega⟩)
          | (refine W.reach (D := []) (i + 1, out ++ [38, 103, 116, 59], v29, some ⟨b5, 0, none⟩) ⟨rfl, rfl, rfl, rfl, rfl, trivial⟩ (.refl _) ⟨⟨by show i + 1 ≤ _; omega, by rw [hsn, hes, hi2], by simp only [List.length_append, List.length_cons, List.length_nil]; omega, .inr (by simp), .inr rfl⟩, by show _ - (i + 1) < _; omega⟩)
          | (refine W.reach (D := []) (i + 1, out ++ [38, 113, 117, 111, 116, 59], v36, some ⟨b5, 0, none⟩) ⟨rfl, rfl, rfl, rfl, rfl, trivial⟩ (.refl _) ⟨⟨by show i + 1 ≤ _; omega, by rw [hsn, hes, hi2], by simp only [List.length_append, List.length_cons, List.length_nil]; omega, .inr (by simp), .inr rfl⟩, by show _ - (i + 1) < _; omega⟩)
          | (refine W.reach (D := []) (i + 1, out ++ [c], v17, some ⟨b5, 0, none⟩) ⟨rfl, rfl, rfl, rfl, rfl, trivial⟩ (.refl _) ⟨⟨by show i + 1 ≤ _; omega, by rw [hsn, hes, hi2], by simp only [List.length_append, List.length_cons, List.length_nil]; omega, .inr (by simp), .inr rfl⟩, by show _ - (i + 1) < _; omega⟩)
        · have hn62 : c ≠ 62 := u8_isnt c 62 (by decide) hc_t26
          refine W.seq ?_
          refine W.region ?_
          refine W.q (Ev.move (.t rfl)) rfl ?_
          refine W.q (Ev.eqi (.t rfl) .k) rfl ?_
          refine W.q (Ev.move (.t rfl)) rfl ?_
          refine W.qgT rfl rfl (Ev.move (.t rfl)) rfl ?_
          refine W.q (Ev.and (.t rfl) ⟨_, _, rfl, rfl, by first | (simp; done) | (intro hg_ hp_; simp [hp_]; done) | (simp <;> omega; done) | (simp_all; done) | grind⟩) rfl ?_
          refine W.q (Ev.assign (.t rfl)) rfl ?_
          refine W.nil ?_
          refine W.then ?_
          refine W.cond (.t rfl) (fun hc_t30 => ?_) (fun hc_t30 => ?_)
          · have h30 := hc_t30
            simp only [Bool.and_eq_true] at h30
            have hc : c = 34 := u8_is c 34 (by decide) h30.1
            have hes : esc1 q c = [38, 113, 117, 111, 116, 59] := by rw [h30.2]; subst hc; decide
            refine W.region ?_
            refine W.call (WStr.c_WriteString b5 p v out hi5 [38, 113, 117, 111, 116, 59] (by simp only [List.length_cons, List.length_nil]; omega)) ⟨(.t rfl), .k, trivial⟩ (.refl _) rfl ?_
            rintro _ _ ⟨rfl, v36, rfl⟩
            refine W.nil ?_
            refine W.blk_normal ?_
            refine W.blk_normal ?_
            refine W.then ?_
            refine W.region ?_
            first | refine W.q (Ev.add (.t rfl) .k (fun _ => by omega)) rfl ?_ | refine W.q (Ev.addw (.t rfl) .k) rfl ?_
            refine W.q (Ev.move (.t rfl)) rfl ?_
            refine W.nil ?_
            refine W.then ?_
            first
            | (refine W.reach (D := []) (i + 1, out ++ [38, 97, 109, 112, 59], v21, some ⟨b5, 0, none⟩) ⟨rfl, rfl, rfl, rfl, rfl, trivial⟩ (.refl _) ⟨⟨by show i + 1 ≤ _; omega, by rw [hsn, hes, hi2], by simp only [List.length_append, List.length_cons, List.length_nil]; omega, .inr (by simp), .inr rfl⟩, by show _ - (i + 1) < _; omega⟩)
            | (refine W.reach (D := []) (i + 1, out ++ [38, 108, 116, 59], v25, some ⟨b5, 0, none⟩) ⟨rfl, rfl, rfl, rfl, rfl, trivial⟩ (.refl _) ⟨⟨by show i + 1 ≤ _; omega, by rw [hsn, hes, hi2], by simp only [List.length_append, List.length_cons, List.length_nil]; omega, .inr (by simp), .inr rfl⟩, by show _ - (i + 1) < _; omega⟩)
            | (refine W.reach (D := []) (i + 1, out ++ [38, 103, 116, 59], v29, some ⟨b5, 0, none⟩) ⟨rfl, rfl, rfl, rfl, rfl, trivial⟩ (.refl _) ⟨⟨by show i + 1 ≤ _; omega, by rw [hsn, hes, hi2], by simp only [List.length_append, List.length_cons, List.length_nil]; omega, .inr (by simp), .inr rfl⟩, by show _ - (i + 1) < _; omega⟩)
            | (refine W.reach (D := []) (i + 1, out ++ [38, 113, 117, 111, 116, 59], v36, some ⟨b5, 0, none⟩) ⟨rfl, rfl, rfl, rfl, rfl, trivial⟩ (.refl _) ⟨⟨by show i + 1 ≤ _; omega, by rw [hsn, hes, hi2], by simp only [List.length_append, List.length_cons, List.length_nil]; omega, .inr (by simp), .inr rfl⟩, by show _ - (i + 1) < _; omega⟩)
            | (refine W.reach (D := []) (i + 1, out ++ [c], v17, some ⟨b5, 0, none⟩) ⟨rfl, rfl, rfl, rfl, rfl, trivial⟩ (.refl _) ⟨⟨by show i + 1 ≤ _; omega, by rw [hsn, hes, hi2], by simp only [List.length_append, List.length_cons, List.length_nil]; omega, .inr (by simp), .inr rfl⟩, by show _ - (i + 1) < _; omega⟩)
          · have hes : esc1 q c = [c] := by
              unfold esc1
              rw [if_neg hn38, if_neg hn60, if_neg hn62, if_neg]
              rintro ⟨h1, h2⟩
              rw [h2] at hc_t30
              subst h1; simp at hc_t30
            refine W.region ?_
            refine W.q (Ev.move (.t rfl)) rfl ?_
            refine W.call (WBld.c_WriteByte b5 p v out hi5 (by omega) c) ⟨(.t rfl), (.t rfl), trivial⟩ (.refl _) rfl ?_
            rintro _ _ ⟨rfl, v17, rfl⟩
            refine W.nil ?_
            refine W.blk_normal ?_
            refine W.blk_normal ?_
            refine W.then ?_
            refine W.region ?_
            first | refine W.q (Ev.add (.t rfl) .k (fun _ => by omega)) rfl ?_ | refine W.q (Ev.addw (.t rfl) .k) rfl ?_
            refine W.q (Ev.move (.t rfl)) rfl ?_
            refine W.nil ?_
            refine W.then ?_
            first
            | (refine W.reach (D := []) (i + 1, out ++ [38, 97, 109, 112, 59], v21, some ⟨b5, 0, none⟩) ⟨rfl, rfl, rfl, rfl, rfl, trivial⟩ (.refl _) ⟨⟨by show i + 1 ≤ _; omega, by rw [hsn, hes, hi2], by simp only [List.length_append, List.length_cons, List.length_nil]; omega, .inr (by simp), .inr rfl⟩, by show _ - (i + 1) < _; omega⟩)
            | (refine W.reach (D := []) (i + 1, out ++ [38, 108, 116, 59], v25, some ⟨b5, 0, none⟩) ⟨rfl, rfl, rfl, rfl, rfl, trivial⟩ (.refl _) ⟨⟨by show i + 1 ≤ _; omega, by rw [hsn, hes, hi2], by simp only [List.length_append, List.length_cons, List.length_nil]; omega, .inr (by simp), .inr rfl⟩, by show _ - (i + 1) < _; omega⟩)
            | (refine W.reach (D := []) (i + 1, out ++ [38, 103, 116, 59], v29, some ⟨b5, 0, none⟩) ⟨rfl, rfl, rfl, rfl, rfl, trivial⟩ (.refl _) ⟨⟨by show i + 1 ≤ _; omega, by rw [hsn, hes, hi2], by simp only [List.length_append, List.length_cons, List.length_nil]; omega, .inr (by simp), .inr rfl⟩, by show _ - (i + 1) < _; omega⟩)
            | (refine W.reach (D := []) (i + 1, out ++ [38, 113, 117, 111, 116, 59], v36, some ⟨b5, 0, none⟩) ⟨rfl, rfl, rfl, rfl, rfl, trivial⟩ (.refl _) ⟨⟨by show i + 1 ≤ _; omega, by rw [hsn, hes, hi2], by simp only [List.length_append, List.length_cons, List.length_nil]; omega, .inr (by simp), .inr rfl⟩, by show _ - (i + 1) < _; omega⟩)
            | (refine W.reach (D := []) (i + 1, out ++ [c], v17, some ⟨b5, 0, none⟩) ⟨rfl, rfl, rfl, rfl, rfl, trivial⟩ (.refl _) ⟨⟨by show i + 1 ≤ _; omega, by rw [hsn, hes, hi2], by simp only [List.length_append, List.length_cons, List.length_nil]; omega, .inr (by simp), .inr rfl⟩, by show _ - (i + 1) < _; omega⟩)
  · rw [List.take_of_length_le (by omega)] at hi2
    refine W.seq ?_
    refine W.region ?_
    refine W.q (Ev.lti (.t rfl) (.t rfl)) rfl ?_
    refine W.nil ?_
    refine W.then ?_
    refine W.seq ?_
    refine W.is (t := 11) (g := true) (av' := .lit (.bool false)) rfl (congrArg (fun b => AV.lit (.bool b)) (by exact decide_eq_false (by omega))) ?_
    refine W.condF (.t rfl) ?_
    refine W.exit ?_
    refine W.then_exit ?_
    refine W.then_exit ?_
    refine W.blk_hit ?_
    refine W.then ?_
    refine W.seq ?_
    refine W.region ?_
    refine W.call (WBld.c_String b5 p v out hi5 (by omega) hi4) ⟨(.t rfl), trivial⟩ (.refl _) rfl ?_
    rintro _ _ ⟨rfl, rfl⟩
    refine W.q (Ev.assign (.t rfl)) rfl ?_
    refine W.nil ?_
    refine W.then ?_
    refine W.ret ?_
    refine W.retn (M' := []) (rs := [.tmp 4]) (avs := [_]) Tryd.results13 ⟨rfl, trivial⟩ rfl (.refl _) ?_
    exact ⟨congrArg AV.str hi2.symm, rfl⟩

end WEsc

end Go.Proofs.YtohncieijjhnjaaDoor
end

section
set_option linter.unusedVariables false
set_option linter.unusedSimpArgs false
set_option maxRecDepth 100000
namespace Go.Proofs.YtohncieijjhnjaaDoor
open Go.Vl

namespace WSureV

theorem c_sureV (T tp : TypeId) (p : Value) : FnC Tryd.prog 12 [] [ifv 3 T tp p] (fun r M => r = .bool true ∧ M = [ifv 3 T tp p]) :=  by
  refine FnC.mk Tryd.func12 (by kernel_rfl) rfl Tryd.ntmps12 rfl (fun w0 F => ?_)
  have hU : Une.une [38, 108, 116, 59, 97] = [60, 97] := by
    have h := Une.une_esc false [60] [97]
    rw [Une.une_raw 97 [] (by decide), Une.une_nil] at h
    exact h
  refine W.seq ?_
  refine W.region ?_
  refine W.q (Ev.assign .k) rfl ?_
  refine W.nil ?_
  refine W.then ?_
  refine W.seq ?_
  refine W.region ?_
  refine W.callp (WEsc.c_Escape [60, 97] true (by decide)) ⟨.k, .k, trivial⟩ rfl ?_
  refine W.q (Ev.eqs (.t rfl) .k) rfl ?_
  refine W.q (Ev.move (.t rfl)) rfl ?_
  refine W.is (t := 3) (g := true) (av' := .bool true) rfl (congrArg AV.bool (by decide)) ?_
  refine W.gyes rfl rfl ?_
  refine W.call (WUne.c_Une T tp p [38, 108, 116, 59, 97] (by decide)) ⟨.k, trivial⟩ (.refl _) rfl ?_
  rintro _ _ ⟨rfl, rfl⟩
  rw [hU]
  refine W.gyes rfl rfl ?_
  refine W.q (Ev.eqs (.t rfl) .k) rfl ?_
  refine W.q (Ev.and (.t rfl) ⟨_, _, rfl, rfl, by first | (simp; done) | (intro hg_ hp_; simp [hp_]; done) | (simp <;> omega; done) | (simp_all; done) | grind⟩) rfl ?_
  refine W.q (Ev.assign (.t rfl)) rfl ?_
  refine W.nil ?_
  refine W.then ?_
  refine W.ret ?_
  refine W.retn (M' := [ifv 3 T tp p]) (D := []) (rs := [.tmp 0]) (avs := [_]) Tryd.results12 ⟨rfl, trivial⟩ rfl (by first | exact .refl _ | (rw [List.append_nil]; exact .refl _)) ?_
  exact ⟨congrArg AV.bool (by first | rfl | decide), rfl⟩

end WSureV

end Go.Proofs.YtohncieijjhnjaaDoor
end

section
set_option linter.unusedVariables false
set_option linter.unusedSimpArgs false
set_option maxRecDepth 100000
namespace Go.Proofs.YtohncieijjhnjaaDoor
open Go.Vl

namespace WLet
theorem ty3 : Ty Tryd.prog 3 1 8 (.int .i64 0) := Ty.of (by kernel_rfl)
theorem ag3 : IsAgg Tryd.prog 3 false := ⟨_, Tryd.underlying3, rfl⟩
theorem ni26 : NotInt Tryd.prog 26 := .inl ⟨_, Tryd.underlying26⟩
theorem c_Letters (l : List Int) (n : Nat) (hl : l.length ≤ 1099511627776) (hn : n ≤ 1000) : FnP Tryd.prog 15 [.sl 1 (l.map AV.int), .int (n : Int)] (.sl 1 (((l.take n).map letterOf).map AV.int)) :=  by
  refine FnC.mk Tryd.func15 (by kernel_rfl) rfl Tryd.ntmps15 rfl (fun w0 F => ?_)
  have hll : (l.map AV.int).length = l.length := List.length_map ..
  refine W.seq ?_
  refine W.region ?_
  refine W.q (Ev.assign .k) rfl ?_
  refine W.nil ?_
  refine W.then ?_
  refine W.seq ?_
  refine W.region ?_
  refine W.q (Ev.assign .k) rfl ?_
  refine W.nil ?_
  refine W.then ?_
  refine W.seq ?_
  refine W.seq ?_
  refine W.region ?_
  refine W.q (Ev.assign .k) rfl ?_
  refine W.nil ?_
  refine W.then ?_
  refine W.block ?_
  refine W.own_nil 3 1 ?_
  refine W.loop (D := []) (ι := Nat × List AV × Value) (fun z => [(6, true, .int (z.1 : Int)), (0, true, .sl 1 (l.map AV.int)), (1, true, .int (n : Int)), (5, true, .lit z.2.2)]) (fun z => [.arr z.2.2 3 1 z.2.1]) (fun z => z.1 ≤ l.length ∧ z.1 ≤ n ∧ z.2.1 = ((l.take z.1).map letterOf).map AV.int) (fun z => l.length - z.1) (0, [], .slice none 0 0) ⟨rfl, rfl, rfl, rfl, trivial⟩ (.refl _) ⟨Nat.zero_le _, Nat.zero_le _, rfl⟩ ?_
  rintro ⟨i, es, v⟩ ⟨hi1, hi2, hi3⟩
  dsimp only at hi1 hi2 hi3 ⊢
  have hel : es.length = i := by rw [hi3, List.length_map, List.length_map, List.length_take]; omega
  refine W.seq ?_
  refine W.seq ?_
  refine W.region ?_
  refine W.q (Ev.move (.t rfl)) rfl ?_
  refine W.q (Ev.move (.t rfl)) rfl ?_
  first | refine W.q (Ev.lensl (.t rfl) Tryd.underlying26) rfl ?_ | refine W.q (Ev.lenar (i := 0) (.t rfl) rfl Tryd.underlying26) rfl ?_ | refine W.q (Ev.lenar (i := 1) (.t rfl) rfl Tryd.underlying26) rfl ?_ | refine W.q (Ev.lenar (i := 2) (.t rfl) rfl Tryd.underlying26) rfl ?_ | refine W.q (Ev.lenar (i := 3) (.t rfl) rfl Tryd.underlying26) rfl ?_
  refine W.q (Ev.lti (.t rfl) (.t rfl)) rfl ?_
  refine W.q (Ev.move (.t rfl)) rfl ?_
  refine W.qgT rfl rfl (Ev.move (.t rfl)) rfl ?_
  refine W.qgT rfl rfl (Ev.move (.t rfl)) rfl ?_
  refine W.qgT rfl rfl (Ev.lti (.c rfl) (.c rfl)) rfl ?_
  refine W.q (Ev.and (.t rfl) ⟨_, _, rfl, rfl, by first | (simp; done) | (intro hg_ hp_; simp [hp_]; done) | (simp <;> omega; done) | (simp_all; done) | grind⟩) rfl ?_
  refine W.nil ?_
  refine W.then ?_
  refine W.cond (.t rfl) (fun hc_t16 => ?_) (fun hc_t16 => ?_)
  · have hlt : i < l.length ∧ i < n := by simp at hc_t16; omega
    have hga : (l.map AV.int)[i]? = some (AV.int (l[i]'hlt.1)) := by rw [List.getElem?_map, List.getElem?_eq_getElem hlt.1]; rfl
    generalize hz : l[i]'hlt.1 = z at hga
    have hp5 := pick5_pos (IntKind.i64.wrap (z.tdiv 7) % 5)
    have hg5 := pick5_get (IntKind.i64.wrap (z.tdiv 7))
    have hle : letterOf z = if 55296 ≤ letter0 z ∧ letter0 z ≤ 57343 then 65 else letter0 z := rfl
    refine W.skip ?_
    refine W.then ?_
    refine W.seq ?_
    refine W.block ?_
    refine W.seq ?_
    refine W.drawn (by kernel_rfl) (by kernel_rfl) ?_
    refine DP.q (Ev.move (.t rfl)) rfl ?_
    refine DP.q (Ev.move (.t rfl)) rfl ?_
    refine DP.q (Ev.at (E := 3) (.t rfl) (.t rfl) Tryd.underlying26 ty3 (fun _ => ⟨by omega, hga⟩) rfl rfl) rfl ?_
    first | refine DP.q (Ev.lde1 (.t rfl) ag3) rfl ?_ | refine DP.q (Ev.ldb1 0 (.t rfl) rfl ag3 rfl) rfl ?_ | refine DP.q (Ev.ldb1 1 (.t rfl) rfl ag3 rfl) rfl ?_ | refine DP.q (Ev.ldb1 2 (.t rfl) rfl ag3 rfl) rfl ?_ | refine DP.q (Ev.ldb1 3 (.t rfl) rfl ag3 rfl) rfl ?_
    refine DP.bs (es := [_, _, _, _, _]) Tryd.underlying26 ty3 ⟨rfl, .k, rfl, rfl, rfl, .k, rfl, rfl, rfl, .k, rfl, rfl, rfl, .k, rfl, rfl, rfl, .k, rfl, rfl, trivial⟩ rfl (by decide) rfl rfl ?_
    refine DP.q (Ev.move (.t rfl)) rfl ?_
    refine DP.q (Ev.move (.t rfl)) rfl ?_
    refine DP.q (Ev.at (E := 3) (.t rfl) (.t rfl) Tryd.underlying26 ty3 (fun _ => ⟨by omega, hga⟩) rfl rfl) rfl ?_
    first | refine DP.q (Ev.lde1 (.t rfl) ag3) rfl ?_ | refine DP.q (Ev.ldb1 0 (.t rfl) rfl ag3 rfl) rfl ?_ | refine DP.q (Ev.ldb1 1 (.t rfl) rfl ag3 rfl) rfl ?_ | refine DP.q (Ev.ldb1 2 (.t rfl) rfl ag3 rfl) rfl ?_ | refine DP.q (Ev.ldb1 3 (.t rfl) rfl ag3 rfl) rfl ?_
    first | refine DP.q (Ev.quo (.t rfl) .k (fun _ => by decide)) rfl ?_ | refine DP.q (Ev.quo (.t rfl) .k (fun _ => by omega)) rfl ?_
    refine DP.callp (Base.c_Picked (IntKind.i64.wrap (z.tdiv 7)) 5 (by decide) (by decide)) ⟨(.t rfl), .k, trivial⟩ rfl ?_
    refine DP.q (Ev.at (E := 3) (.t rfl) (.t rfl) Tryd.underlying26 ty3 (fun _ => ⟨Int.emod_nonneg _ (by decide), hg5⟩) rfl rfl) rfl ?_
    first | refine DP.q (Ev.lde1 (.t rfl) ag3) rfl ?_ | refine DP.q (Ev.ldb1 0 (.t rfl) rfl ag3 rfl) rfl ?_ | refine DP.q (Ev.ldb1 1 (.t rfl) rfl ag3 rfl) rfl ?_ | refine DP.q (Ev.ldb1 2 (.t rfl) rfl ag3 rfl) rfl ?_ | refine DP.q (Ev.ldb1 3 (.t rfl) rfl ag3 rfl) rfl ?_
    refine DP.callp (Base.c_Picked z (pick5 (IntKind.i64.wrap (z.tdiv 7) % 5)) hp5.1 (by omega)) ⟨(.t rfl), (.t rfl), trivial⟩ rfl ?_
    refine DP.q (Ev.assign (.t rfl)) rfl ?_
    refine DP.nil ?_
    refine W.then ?_
    refine W.seq ?_
    refine W.seq ?_
    refine W.region ?_
    refine W.q (Ev.move (.t rfl)) rfl ?_
    refine W.q (Ev.gei (.t rfl) .k) rfl ?_
    refine W.q (Ev.move (.t rfl)) rfl ?_
    refine W.qgT rfl rfl (Ev.move (.t rfl)) rfl ?_
    refine W.qgT rfl rfl (Ev.lei (.c rfl) .k) rfl ?_
    refine W.q (Ev.and (.t rfl) ⟨_, _, rfl, rfl, by first | (simp; done) | (intro hg_ hp_; simp [hp_]; done) | (simp <;> omega; done) | (simp_all; done) | grind⟩) rfl ?_
    refine W.nil ?_
    refine W.then ?_
    refine W.cond (.t rfl) (fun hc_t38 => ?_) (fun hc_t38 => ?_)
    · have hy : (65 : Int) = letterOf z := by rw [hle, if_pos]; simp only [Bool.and_eq_true, decide_eq_true_eq] at hc_t38; exact hc_t38
      refine W.region ?_
      refine W.q (Ev.assign .k) rfl ?_
      refine W.nil ?_
      refine W.then ?_
      refine W.region ?_
      refine W.q (Ev.move (.t rfl)) rfl ?_
      refine W.q (Ev.move (.t rfl)) rfl ?_
      refine W.bs (es := [_]) Tryd.underlying26 ty3 ⟨rfl, (.t rfl), rfl, rfl, trivial⟩ rfl (by decide) rfl rfl ?_
      first | refine W.app 0 (.t rfl) rfl (.sl (.t rfl) (by first | (simp [AV.okc, shV]; done) | (intro e he; rw [List.mem_singleton.1 he]; rfl))) Tryd.underlying26 ni26 ty3 rfl rfl (by first | (simp; done) | (simp; omega)) rfl ?_ | refine W.app 1 (.t rfl) rfl (.sl (.t rfl) (by first | (simp [AV.okc, shV]; done) | (intro e he; rw [List.mem_singleton.1 he]; rfl))) Tryd.underlying26 ni26 ty3 rfl rfl (by first | (simp; done) | (simp; omega)) rfl ?_ | refine W.app 2 (.t rfl) rfl (.sl (.t rfl) (by first | (simp [AV.okc, shV]; done) | (intro e he; rw [List.mem_singleton.1 he]; rfl))) Tryd.underlying26 ni26 ty3 rfl rfl (by first | (simp; done) | (simp; omega)) rfl ?_ | refine W.app 3 (.t rfl) rfl (.sl (.t rfl) (by first | (simp [AV.okc, shV]; done) | (intro e he; rw [List.mem_singleton.1 he]; rfl))) Tryd.underlying26 ni26 ty3 rfl rfl (by first | (simp; done) | (simp; omega)) rfl ?_ | refine W.app 0 (.t rfl) rfl (.arr 0 (.t rfl) rfl (by first | (simp [AV.okc, shV]; done) | (intro e he; rw [List.mem_singleton.1 he]; rfl))) Tryd.underlying26 ni26 ty3 rfl rfl (by first | (simp; done) | (simp; omega)) rfl ?_ | refine W.app 0 (.t rfl) rfl (.arr 1 (.t rfl) rfl (by first | (simp [AV.okc, shV]; done) | (intro e he; rw [List.mem_singleton.1 he]; rfl))) Tryd.underlying26 ni26 ty3 rfl rfl (by first | (simp; done) | (simp; omega)) rfl ?_ | refine W.app 0 (.t rfl) rfl (.arr 2 (.t rfl) rfl (by first | (simp [AV.okc, shV]; done) | (intro e he; rw [List.mem_singleton.1 he]; rfl))) Tryd.underlying26 ni26 ty3 rfl rfl (by first | (simp; done) | (simp; omega)) rfl ?_ | refine W.app 0 (.t rfl) rfl (.arr 3 (.t rfl) rfl (by first | (simp [AV.okc, shV]; done) | (intro e he; rw [List.mem_singleton.1 he]; rfl))) Tryd.underlying26 ni26 ty3 rfl rfl (by first | (simp; done) | (simp; omega)) rfl ?_ | refine W.app 1 (.t rfl) rfl (.arr 0 (.t rfl) rfl (by first | (simp [AV.okc, shV]; done) | (intro e he; rw [List.mem_singleton.1 he]; rfl))) Tryd.underlying26 ni26 ty3 rfl rfl (by first | (simp; done) | (simp; omega)) rfl ?_ | refine W.app 1 (.t rfl) rfl (.arr 1 (.t rfl) rfl (by first | (simp [AV.okc, shV]; done) | (intro e he; rw [List.mem_singleton.1 he]; rfl))) Tryd.underlying26 ni26 ty3 rfl rfl (by first | (simp; done) | (simp; omega)) rfl ?_ | refine W.app 1 (.t rfl) rfl (.arr 2 (.t rfl) rfl (by first | (simp [AV.okc, shV]; done) | (intro e he; rw [List.mem_singleton.1 he]; rfl))) Tryd.underlying26 ni26 ty3 rfl rfl (by first | (simp; done) | (simp; omega)) rfl ?_ | refine W.app 1 (.t rfl) rfl (.arr 3 (.t rfl) rfl (by first | (simp [AV.okc, shV]; done) | (intro e he; rw [List.mem_singleton.1 he]; rfl))) Tryd.underlying26 ni26 ty3 rfl rfl (by first | (simp; done) | (simp; omega)) rfl ?_ | refine W.app 2 (.t rfl) rfl (.arr 0 (.t rfl) rfl (by first | (simp [AV.okc, shV]; done) | (intro e he; rw [List.mem_singleton.1 he]; rfl))) Tryd.underlying26 ni26 ty3 rfl rfl (by first | (simp; done) | (simp; omega)) rfl ?_ | refine W.app 2 (.t rfl) rfl (.arr 1 (.t rfl) rfl (by first | (simp [AV.okc, shV]; done) | (intro e he; rw [List.mem_singleton.1 he]; rfl))) Tryd.underlying26 ni26 ty3 rfl rfl (by first | (simp; done) | (simp; omega)) rfl ?_ | refine W.app 2 (.t rfl) rfl (.arr 2 (.t rfl) rfl (by first | (simp [AV.okc, shV]; done) | (intro e he; rw [List.mem_singleton.1 he]; rfl))) Tryd.underlying26 ni26 ty3 rfl rfl (by first | (simp; done) | (simp; omega)) rfl ?_ | refine W.app 2 (.t rfl) rfl (.arr 3 (.t rfl) rfl (by first | (simp [AV.okc, shV]; done) | (intro e he; rw [List.mem_singleton.1 he]; rfl))) Tryd.underlying26 ni26 ty3 rfl rfl (by first | (simp; done) | (simp; omega)) rfl ?_ | refine W.app 3 (.t rfl) rfl (.arr 0 (.t rfl) rfl (by first | (simp [AV.okc, shV]; done) | (intro e he; rw [List.mem_singleton.1 he]; rfl))) Tryd.underlying26 ni26 ty3 rfl rfl (by first | (simp; done) | (simp; omega)) rfl ?_ | refine W.app 3 (.t rfl) rfl (.arr 1 (.t rfl) rfl (by first | (simp [AV.okc, shV]; done) | (intro e he; rw [List.mem_singleton.1 he]; rfl))) Tryd.underlying26 ni26 ty3 rfl rfl (by first | (simp; done) | (simp; omega)) rfl ?_ | refine W.app 3 (.t rfl) rfl (.arr 2 (.t rfl) rfl (by first | (simp [AV.okc, shV]; done) | (intro e he; rw [List.mem_singleton.1 he]; rfl))) Tryd.underlying26 ni26 ty3 rfl rfl (by first | (simp; done) | (simp; omega)) rfl ?_ | refine W.app 3 (.t rfl) rfl (.arr 3 (.t rfl) rfl (by first | (simp [AV.okc, shV]; done) | (intro e he; rw [List.mem_singleton.1 he]; rfl))) Tryd.underlying26 ni26 ty3 rfl rfl (by first | (simp; done) | (simp; omega)) rfl ?_
      intro v42
      refine W.q (Ev.assign (.t rfl)) rfl ?_
      refine W.nil ?_
      refine W.blk_normal ?_
      refine W.then ?_
      refine W.region ?_
      refine W.q (Ev.move (.t rfl)) rfl ?_
      first | refine W.q (Ev.add (.t rfl) .k (fun _ => by omega)) rfl ?_ | refine W.q (Ev.addw (.t rfl) .k) rfl ?_
      refine W.q (Ev.assign (.t rfl)) rfl ?_
      refine W.nil ?_
      refine W.then ?_
      refine W.reach (D := []) (i + 1, es ++ [.int (letterOf z)], v42) ⟨rfl, rfl, rfl, rfl, trivial⟩ (by rw [← hy]; exact .refl _) ⟨⟨by omega, by omega, ?_⟩, by omega⟩
      show es ++ _ = _
      rw [hi3, List.take_add_one, List.getElem?_eq_getElem hlt.1, hz]; simp
    · have hy : letter0 z = letterOf z := by rw [hle, if_neg]; simp only [Bool.and_eq_false_iff, decide_eq_false_iff_not] at hc_t38; show ¬ (55296 ≤ letter0 z ∧ letter0 z ≤ 57343); unfold letter0; omega
      refine W.skip ?_
      refine W.then ?_
      refine W.region ?_
      refine W.q (Ev.move (.t rfl)) rfl ?_
      refine W.q (Ev.move (.t rfl)) rfl ?_
      refine W.bs (es := [_]) Tryd.underlying26 ty3 ⟨rfl, (.t rfl), rfl, rfl, trivial⟩ rfl (by decide) rfl rfl ?_
      first | refine W.app 0 (.t rfl) rfl (.sl (.t rfl) (by first | (simp [AV.okc, shV]; done) | (intro e he; rw [List.mem_singleton.1 he]; rfl))) Tryd.underlying26 ni26 ty3 rfl rfl (by first | (simp; done) | (simp; omega)) rfl ?_ | refine W.app 1 (.t rfl) rfl (.sl (.t rfl) (by first | (simp [AV.okc, shV]; done) | (intro e he; rw [List.mem_singleton.1 he]; rfl))) Tryd.underlying26 ni26 ty3 rfl rfl (by first | (simp; done) | (simp; omega)) rfl ?_ | refine W.app 2 (.t rfl) rfl (.sl (.t rfl) (by first | (simp [AV.okc, shV]; done) | (intro e he; rw [List.mem_singleton.1 he]; rfl))) Tryd.underlying26 ni26 ty3 rfl rfl (by first | (simp; done) | (simp; omega)) rfl ?_ | refine W.app 3 (.t rfl) rfl (.sl (.t rfl) (by first | (simp [AV.okc, shV]; done) | (intro e he; rw [List.mem_singleton.1 he]; rfl))) Tryd.underlying26 ni26 ty3 rfl rfl (by first | (simp; done) | (simp; omega)) rfl ?_ | refine W.app 0 (.t rfl) rfl (.arr 0 (.t rfl) rfl (by first | (simp [AV.okc, shV]; done) | (intro e he; rw [List.mem_singleton.1 he]; rfl))) Tryd.underlying26 ni26 ty3 rfl rfl (by first | (simp; done) | (simp; omega)) rfl ?_ | refine W.app 0 (.t rfl) rfl (.arr 1 (.t rfl) rfl (by first | (simp [AV.okc, shV]; done) | (intro e he; rw [List.mem_singleton.1 he]; rfl))) Tryd.underlying26 ni26 ty3 rfl rfl (by first | (simp; done) | (simp; omega)) rfl ?_ | refine W.app 0 (.t rfl) rfl (.arr 2 (.t rfl) rfl (by first | (simp [AV.okc, shV]; done) | (intro e he; rw [List.mem_singleton.1 he]; rfl))) Tryd.underlying26 ni26 ty3 rfl rfl (by first | (simp; done) | (simp; omega)) rfl ?_ | refine W.app 0 (.t rfl) rfl (.arr 3 (.t rfl) rfl (by first | (simp [AV.okc, shV]; done) | (intro e he; rw [List.mem_singleton.1 he]; rfl))) Tryd.underlying26 ni26 ty3 rfl rfl (by first | (simp; done) | (simp; omega)) rfl ?_ | refine W.app 1 (.t rfl) rfl (.arr 0 (.t rfl) rfl (by first | (simp [AV.okc, shV]; done) | (intro e he; rw [List.mem_singleton.1 he]; rfl))) Tryd.underlying26 ni26 ty3 rfl rfl (by first | (simp; done) | (simp; omega)) rfl ?_ | refine W.app 1 (.t rfl) rfl (.arr 1 (.t rfl) rfl (by first | (simp [AV.okc, shV]; done) | (intro e he; rw [List.mem_singleton.1 he]; rfl))) Tryd.underlying26 ni26 ty3 rfl rfl (by first | (simp; done) | (simp; omega)) rfl ?_ | refine W.app 1 (.t rfl) rfl (.arr 2 (.t rfl) rfl (by first | (simp [AV.okc, shV]; done) | (intro e he; rw [List.mem_singleton.1 he]; rfl))) Tryd.underlying26 ni26 ty3 rfl rfl (by first | (simp; done) | (simp; omega)) rfl ?_ | refine W.app 1 (.t rfl) rfl (.arr 3 (.t rfl) rfl (by first | (simp [AV.okc, shV]; done) | (intro e he; rw [List.mem_singleton.1 he]; rfl))) Tryd.underlying26 ni26 ty3 rfl rfl (by first | (simp; done) | (simp; omega)) rfl ?_ | refine W.app 2 (.t rfl) rfl (.arr 0 (.t rfl) rfl (by first | (simp [AV.okc, shV]; done) | (intro e he; rw [List.mem_singleton.1 he]; rfl))) Tryd.underlying26 ni26 ty3 rfl rfl (by first | (simp; done) | (simp; omega)) rfl ?_ | refine W.app 2 (.t rfl) rfl (.arr 1 (.t rfl) rfl (by first | (simp [AV.okc, shV]; done) | (intro e he; rw [List.mem_singleton.1 he]; rfl))) Tryd.underlying26 ni26 ty3 rfl rfl (by first | (simp; done) | (simp; omega)) rfl ?_ | refine W.app 2 (.t rfl) rfl (.arr 2 (.t rfl) rfl (by first | (simp [AV.okc, shV]; done) | (intro e he; rw [List.mem_singleton.1 he]; rfl))) Tryd.underlying26 ni26 ty3 rfl rfl (by first | (simp; done) | (simp; omega)) rfl ?_ | refine W.app 2 (.t rfl) rfl (.arr 3 (.t rfl) rfl (by first | (simp [AV.okc, shV]; done) | (intro e he; rw [List.mem_singleton.1 he]; rfl))) Tryd.underlying26 ni26 ty3 rfl rfl (by first | (simp; done) | (simp; omega)) rfl ?_ | refine W.app 3 (.t rfl) rfl (.arr 0 (.t rfl) rfl (by first | (simp [AV.okc, shV]; done) | (intro e he; rw [List.mem_singleton.1 he]; rfl))) Tryd.underlying26 ni26 ty3 rfl rfl (by first | (simp; done) | (simp; omega)) rfl ?_ | refine W.app 3 (.t rfl) rfl (.arr 1 (.t rfl) rfl (by first | (simp [AV.okc, shV]; done) | (intro e he; rw [List.mem_singleton.1 he]; rfl))) Tryd.underlying26 ni26 ty3 rfl rfl (by first | (simp; done) | (simp; omega)) rfl ?_ | refine W.app 3 (.t rfl) rfl (.arr 2 (.t rfl) rfl (by first | (simp [AV.okc, shV]; done) | (intro e he; rw [List.mem_singleton.1 he]; rfl))) Tryd.underlying26 ni26 ty3 rfl rfl (by first | (simp; done) | (simp; omega)) rfl ?_ | refine W.app 3 (.t rfl) rfl (.arr 3 (.t rfl) rfl (by first | (simp [AV.okc, shV]; done) | (intro e he; rw [List.mem_singleton.1 he]; rfl))) Tryd.underlying26 ni26 ty3 rfl rfl (by first | (simp; done) | (simp; omega)) rfl ?_
      intro v42
      refine W.q (Ev.assign (.t rfl)) rfl ?_
      refine W.nil ?_
      refine W.blk_normal ?_
      refine W.then ?_
      refine W.region ?_
      refine W.q (Ev.move (.t rfl)) rfl ?_
      first | refine W.q (Ev.add (.t rfl) .k (fun _ => by omega)) rfl ?_ | refine W.q (Ev.addw (.t rfl) .k) rfl ?_
      refine W.q (Ev.assign (.t rfl)) rfl ?_
      refine W.nil ?_
      refine W.then ?_
      refine W.reach (D := []) (i + 1, es ++ [.int (letterOf z)], v42) ⟨rfl, rfl, rfl, rfl, trivial⟩ (by rw [← hy]; exact .refl _) ⟨⟨by omega, by omega, ?_⟩, by omega⟩
      show es ++ _ = _
      rw [hi3, List.take_add_one, List.getElem?_eq_getElem hlt.1, hz]; simp
  · have hge : l.length ≤ i ∨ n ≤ i := by simp at hc_t16; omega
    refine W.exit ?_
    refine W.then_exit ?_
    refine W.then_exit ?_
    refine W.blk_hit ?_
    refine W.then ?_
    refine W.seq ?_
    refine W.region ?_
    refine W.q (Ev.move (.t rfl)) rfl ?_
    refine W.q (Ev.assign (.t rfl)) rfl ?_
    refine W.nil ?_
    refine W.then ?_
    refine W.ret ?_
    refine W.freeze (M1 := []) (M2 := []) (D := _) (v := v) (L' := [(4, true, .sl 1 es)]) (.refl _) ⟨⟨_, rfl, .one .hit⟩, trivial⟩ trivial ?_
    refine W.retn (M' := []) (rs := [.tmp 4]) (avs := [_]) Tryd.results15 ⟨rfl, trivial⟩ rfl (.refl _) ?_
    have e : l.take i = l.take n := by cases hge with | inl h => rw [List.take_of_length_le (by omega), List.take_of_length_le (by omega)] | inr h => rw [show i = n from by omega]
    rw [e] at hi3
    exact ⟨congrArg (AV.sl 1) hi3, rfl⟩

end WLet

end Go.Proofs.YtohncieijjhnjaaDoor
end
