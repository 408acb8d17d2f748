/-
  The law RefBack, walked.
-/
import Derived.Test.YtnkacoidhcokjaaDoorRef
import Derived.Test.YtnkacoidhcokjaaDoorBase
import Derived.Test.YtnkacoidhcokjaaDoorWSure
set_option linter.unusedVariables false
set_option linter.unusedSimpArgs false
set_option maxRecDepth 100000
namespace Go.Proofs.YtnkacoidhcokjaaDoor
open Go.Vl

namespace LRefBack

theorem c_RefBack (s : List UInt8) (q : Bool) (hs : s.length ≤ 1048576) : FnP Tryd.prog 6 [.str s, .bool q] (.bool true) :=  by
  refine FnC.mk Tryd.func6 (by kernel_rfl) rfl Tryd.ntmps6 rfl (fun w0 F => ?_)
  have hl1 := esc_len q s
  have cU1 : FnP Tryd.prog 16 [.str (esc q s)] (.str s) := by
    have h := WUnesc.c_Unescape (s.map (Pc.of q)) (Pc.ok_of q s) (by rw [Pc.esc_flat]; omega) (by rw [List.length_map]; omega)
    rw [Pc.esc_flat, Pc.fst_of] at h
    exact h
  refine W.seq ?_
  refine W.region ?_
  refine W.q (Ev.assign .k) rfl ?_
  refine W.nil ?_
  refine W.then ?_
  refine W.seq ?_
  refine W.region ?_
  refine W.q (Ev.move (.t rfl)) rfl ?_
  refine W.q (Ev.move (.t rfl)) rfl ?_
  refine W.callp (WEsc.c_Escape s q (by omega)) ⟨(.t rfl), (.t rfl), trivial⟩ rfl ?_
  refine W.q (Ev.assign (.t rfl)) rfl ?_
  refine W.nil ?_
  refine W.then ?_
  refine W.seq ?_
  refine W.seq ?_
  refine W.region ?_
  refine W.q (Ev.assign .k) rfl ?_
  refine W.nil ?_
  refine W.then ?_
  refine W.block ?_
  refine W.loop (D := []) (ι := Nat) (fun i => [(6, true, .int (i : Int)), (5, true, .str (esc q s)), (0, true, .str s), (1, true, .bool q)]) (fun _ => []) (fun i => i ≤ (esc q s).length) (fun i => (esc q s).length - i) 0 ⟨rfl, rfl, rfl, rfl, trivial⟩ (.refl _) (Nat.zero_le _) ?_
  intro i hi
  dsimp only at hi ⊢
  rcases (show i < (esc q s).length ∨ i = (esc q s).length from by omega) with hlt | hend
  · obtain ⟨x0, hx0⟩ : ∃ x0, (esc q s).getD i 0 = x0 := ⟨_, rfl⟩
    have h0 := Pc.esc_no q s x0 (by rw [← hx0]; exact getD_memG 0 _ i hlt)
    have n60 : (((x0.toNat : Nat) : Int) == 60) = false := beq_eq_false_iff_ne.2 (by intro h; exact h0.1 (UInt8.toNat_inj.1 (by show x0.toNat = 60; omega)))
    have n62 : (((x0.toNat : Nat) : Int) == 62) = false := beq_eq_false_iff_ne.2 (by intro h; exact h0.2.1 (UInt8.toNat_inj.1 (by show x0.toNat = 62; omega)))
    have n34 : q = true → (((x0.toNat : Nat) : Int) == 34) = false := fun hq => beq_eq_false_iff_ne.2 (by intro h; exact h0.2.2 hq (UInt8.toNat_inj.1 (by show x0.toNat = 34; omega)))
    refine W.seq ?_
    refine W.seq ?_
    refine W.region ?_
    refine W.q (Ev.move (.t rfl)) rfl ?_
    refine W.q (Ev.move (.t rfl)) rfl ?_
    refine W.q (Ev.lens (.t rfl) Tryd.underlying9) rfl ?_
    refine W.q (Ev.lti (.t rfl) (.t rfl)) rfl ?_
    refine W.nil ?_
    refine W.then ?_
    refine W.is (t := 13) (g := true) (av' := .lit (.bool true)) rfl (congrArg (fun b => AV.lit (.bool b)) (by exact decide_eq_true (by omega))) ?_
    refine W.condT (.t rfl) ?_
    refine W.skip ?_
    refine W.then ?_
    refine W.seq ?_
    refine W.block ?_
    refine W.seq ?_
    refine W.region ?_
    refine W.q (Ev.move (.t rfl)) rfl ?_
    refine W.q (Ev.move (.t rfl)) rfl ?_
    refine W.q (Ev.ats' (.t rfl) (.t rfl) Tryd.underlying9 (fun hg => by omega)) rfl ?_
    refine W.is (t := 18) (g := _) (av' := AV.u8 x0) rfl (by rw [show ((i : Int)).toNat = i from by omega, hx0]) ?_
    refine W.q (Ev.eqi (.t rfl) .k) rfl ?_
    refine W.q (Ev.move (.t rfl)) rfl ?_
    refine W.qgF rfl rfl (Ev.move (.t rfl)) rfl ?_
    refine W.qgF rfl rfl (Ev.move (.t rfl)) rfl ?_
    refine W.qgF rfl rfl (Ev.ats' (.c rfl) (.c rfl) Tryd.underlying9 (fun hg => by omega)) rfl ?_
    refine W.is (t := 23) (g := _) (av' := AV.u8 x0) rfl (by rw [show ((i : Int)).toNat = i from by omega, hx0]) ?_
    refine W.qgF rfl rfl (Ev.eqi (.c rfl) .k) rfl ?_
    refine W.q (Ev.or (.t rfl) ⟨_, _, rfl, rfl, by first | (simp; done) | (intro hg_ hp_; simp [hp_]; done) | (simp <;> omega; done) | (simp_all; done) | grind⟩) rfl ?_
    refine W.q (Ev.move (.t rfl)) rfl ?_
    refine W.qgF rfl rfl (Ev.move (.t rfl)) rfl ?_
    refine W.qgF rfl rfl (Ev.move (.c rfl)) rfl ?_
    refine W.qgT' rfl rfl (Ev.move (.t rfl)) rfl ?_
    refine W.qgT' rfl rfl (Ev.move (.t rfl)) rfl ?_
    refine W.qgT' rfl rfl (Ev.ats' (.c rfl) (.c rfl) Tryd.underlying9 (fun hg => by omega)) rfl ?_
    refine W.is (t := 31) (g := _) (av' := AV.u8 x0) rfl (by rw [show ((i : Int)).toNat = i from by omega, hx0]) ?_
    refine W.qgT' rfl rfl (Ev.eqi (.c rfl) .k) rfl ?_
    refine W.qgF rfl rfl (Ev.and (.c rfl) ⟨_, _, rfl, rfl, by first | (simp; done) | (intro hg_ hp_; simp [hp_]; done) | (simp <;> omega; done) | (simp_all; done) | grind⟩) rfl ?_
    refine W.q (Ev.or (.t rfl) ⟨_, _, rfl, rfl, by first | (simp; done) | (intro hg_ hp_; simp [hp_]; done) | (simp <;> omega; done) | (simp_all; done) | grind⟩) rfl ?_
    refine W.nil ?_
    refine W.then ?_
    refine W.is (t := 34) (g := true) (av' := .lit (.bool false)) rfl (congrArg (fun b => AV.lit (.bool b)) (by rw [n60, n62]; cases q <;> simp_all)) ?_
    refine W.condF (.t rfl) ?_
    refine W.skip ?_
    refine W.blk_normal ?_
    refine W.then ?_
    refine W.region ?_
    refine W.q (Ev.move (.t rfl)) rfl ?_
    first | refine W.q (Ev.add (.t rfl) .k (fun _ => by omega)) rfl ?_ | refine W.q (Ev.addw (.t rfl) .k) rfl ?_
    refine W.q (Ev.assign (.t rfl)) rfl ?_
    refine W.nil ?_
    refine W.then ?_
    refine W.reach (D := []) (i + 1) ⟨rfl, rfl, rfl, rfl, trivial⟩ (.refl _) ⟨by show i + 1 ≤ _; omega, by show _ - (i + 1) < _; omega⟩
  · skip
    refine W.seq ?_
    refine W.seq ?_
    refine W.region ?_
    refine W.q (Ev.move (.t rfl)) rfl ?_
    refine W.q (Ev.move (.t rfl)) rfl ?_
    refine W.q (Ev.lens (.t rfl) Tryd.underlying9) rfl ?_
    refine W.q (Ev.lti (.t rfl) (.t rfl)) rfl ?_
    refine W.nil ?_
    refine W.then ?_
    refine W.is (t := 13) (g := true) (av' := .lit (.bool false)) rfl (congrArg (fun b => AV.lit (.bool b)) (by exact decide_eq_false (by omega))) ?_
    refine W.condF (.t rfl) ?_
    refine W.exit ?_
    refine W.then_exit ?_
    refine W.then_exit ?_
    refine W.blk_hit ?_
    refine W.then ?_
    refine W.seq ?_
    refine W.region ?_
    refine W.callp (WSure.c_sure) trivial rfl ?_
    refine W.q (Ev.move (.t rfl)) rfl ?_
    refine W.gyes rfl rfl ?_
    refine W.q (Ev.move (.t rfl)) rfl ?_
    refine W.gyes rfl rfl ?_
    refine W.callp (cU1) ⟨(.t rfl), trivial⟩ rfl ?_
    refine W.gyes rfl rfl ?_
    refine W.q (Ev.move (.t rfl)) rfl ?_
    refine W.gyes rfl rfl ?_
    refine W.q (Ev.eqs (.t rfl) (.t rfl)) rfl ?_
    refine W.q (Ev.and (.t rfl) ⟨_, _, rfl, rfl, by first | (simp; done) | (intro hg_ hp_; simp [hp_]; done) | (simp <;> omega; done) | (simp_all; done) | grind⟩) rfl ?_
    refine W.is (t := 41) (g := true) (av' := .bool true) rfl (congrArg AV.bool (by simp)) ?_
    refine W.q (Ev.move (.t rfl)) rfl ?_
    refine W.gyes rfl rfl ?_
    refine W.q (Ev.move (.t rfl)) rfl ?_
    refine W.gyes rfl rfl ?_
    refine W.q (Ev.lens (.t rfl) Tryd.underlying9) rfl ?_
    refine W.gyes rfl rfl ?_
    refine W.q (Ev.move (.t rfl)) rfl ?_
    refine W.gyes rfl rfl ?_
    refine W.q (Ev.lens (.t rfl) Tryd.underlying9) rfl ?_
    refine W.gyes rfl rfl ?_
    refine W.q (Ev.gei (.t rfl) (.t rfl)) rfl ?_
    refine W.q (Ev.and (.t rfl) ⟨_, _, rfl, rfl, by first | (simp; done) | (intro hg_ hp_; simp [hp_]; done) | (simp <;> omega; done) | (simp_all; done) | grind⟩) rfl ?_
    refine W.is (t := 48) (g := true) (av' := .bool true) rfl (congrArg AV.bool (by simp; omega)) ?_
    refine W.q (Ev.move (.t rfl)) rfl ?_
    refine W.gyes rfl rfl ?_
    refine W.q (Ev.move (.t rfl)) rfl ?_
    refine W.gyes rfl rfl ?_
    refine W.q (Ev.lens (.t rfl) Tryd.underlying9) rfl ?_
    refine W.gyes rfl rfl ?_
    refine W.q (Ev.move (.t rfl)) rfl ?_
    refine W.gyes rfl rfl ?_
    refine W.q (Ev.lens (.t rfl) Tryd.underlying9) rfl ?_
    refine W.gyes rfl rfl ?_
    first | refine W.q (Ev.mul .k (.t rfl) (fun _ => by omega)) rfl ?_ | refine W.q (Ev.mulw .k (.t rfl)) rfl ?_
    refine W.gyes rfl rfl ?_
    refine W.q (Ev.lei (.t rfl) (.t rfl)) rfl ?_
    refine W.q (Ev.and (.t rfl) ⟨_, _, rfl, rfl, by first | (simp; done) | (intro hg_ hp_; simp [hp_]; done) | (simp <;> omega; done) | (simp_all; done) | grind⟩) rfl ?_
    refine W.q (Ev.assign (.t rfl)) rfl ?_
    refine W.nil ?_
    refine W.then ?_
    refine W.ret ?_
    refine W.retn (M' := []) (D := _) (rs := [.tmp 4]) (avs := [_]) Tryd.results6 ⟨rfl, trivial⟩ rfl (.refl _) ?_
    exact ⟨congrArg AV.bool (by simp; omega), rfl⟩

end LRefBack

end Go.Proofs.YtnkacoidhcokjaaDoor
