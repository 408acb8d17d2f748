/-
  The law CleanOnce, walked.
-/
import Derived.Test.YtofmjmicgddljaaWText
set_option linter.unusedVariables false
set_option linter.unusedSimpArgs false
set_option maxRecDepth 100000
namespace Go.Proofs.Ytofmjmicgddljaa
open Go.Vl

namespace LCleanOnce

theorem c_CleanOnce (s : List UInt8) (hs : s.length ≤ 1048576) : FnP Try.prog 11 [.str s] (.bool true) :=  by
  refine FnC.mk Try.func11 (by kernel_rfl) rfl Try.ntmps11 rfl (fun w0 F => ?_)
  obtain ⟨_, _, _, g1⟩ := clean_good _ s (Nat.le_refl _)
  have g2 := clean_bytes s
  obtain ⟨g3, g4⟩ := clean_runes s
  have g5 := rc_bounds _ (clean s) (Nat.le_refl _)
  have g6 : (clean s).length ≤ 600 → textS ((runes (clean s)).map fun (n : Nat) => (n : Int)) = clean s ∧ textE ((runes (clean s)).map fun (n : Nat) => (n : Int)) = 0 := by
    intro h
    obtain ⟨a1, a2⟩ := text_ok ((runes (clean s)).map fun (n : Nat) => (n : Int)) (by intro z hz; obtain ⟨c, hc, rfl⟩ := List.mem_map.1 hz; exact g3 c hc)
    rw [flatMap_enc_nat _ g3, g4, if_pos h] at a1 a2
    exact ⟨a1, a2⟩
  have g7 : AV.sl 1 (rvs (clean s)) = AV.sl 1 (((runes (clean s)).map fun (n : Nat) => (n : Int)).map AV.int) := by rw [rvs, List.map_map]; rfl
  have g8 : ((runes (clean s)).map fun (n : Nat) => (n : Int)).length = rc (clean s) := by rw [List.length_map]; rfl
  generalize hq : (runes (clean s)).map (fun (n : Nat) => (n : Int)) = q at g6 g7 g8
  refine W.seq ?_
  refine W.region ?_
  refine W.q (Ev.assign .k) rfl ?_
  refine W.nil ?_
  refine W.then ?_
  refine W.seq ?_
  refine W.region ?_
  refine W.q (Ev.move (.t rfl)) rfl ?_
  refine W.callp (WUtf.c_Clean s (by omega)) ⟨(.t rfl), trivial⟩ rfl ?_
  refine W.q (Ev.assign (.t rfl)) rfl ?_
  refine W.nil ?_
  refine W.then ?_
  refine W.seq ?_
  refine W.seq ?_
  refine W.region ?_
  refine W.q (Ev.move (.t rfl)) rfl ?_
  refine W.callp (WUtf.c_Clean (clean s) (by omega)) ⟨(.t rfl), trivial⟩ rfl ?_
  refine W.q (Ev.move (.t rfl)) rfl ?_
  refine W.q (Ev.nes (.t rfl) (.t rfl)) rfl ?_
  refine W.q (Ev.move (.t rfl)) rfl ?_
  refine W.is (t := 13) (g := true) (av' := .lit (.bool false)) rfl (congrArg (fun b => AV.lit (.bool b)) ?_) ?_
  · rw [clean_twice]; simp
  refine W.gyes rfl rfl ?_
  refine W.callp (WUtf.c_Clean [97, 13] (by decide)) ⟨.k, trivial⟩ rfl ?_
  refine W.gyes rfl rfl ?_
  refine W.q (Ev.nes (.t rfl) .k) rfl ?_
  refine W.q (Ev.or (.t rfl) ⟨_, _, rfl, rfl, by simp⟩) rfl ?_
  refine W.q (Ev.move (.t rfl)) rfl ?_
  refine W.is (t := 17) (g := true) (av' := .lit (.bool false)) rfl (congrArg (fun b => AV.lit (.bool b)) ?_) ?_
  · rw [clean_a13]; simp
  refine W.gyes rfl rfl ?_
  refine W.q (Ev.move (.t rfl)) rfl ?_
  refine W.gyes rfl rfl ?_
  refine W.q (Ev.lens (.t rfl) Try.underlying9) rfl ?_
  refine W.gyes rfl rfl ?_
  refine W.q (Ev.move (.t rfl)) rfl ?_
  refine W.gyes rfl rfl ?_
  refine W.q (Ev.lens (.t rfl) Try.underlying9) rfl ?_
  refine W.gyes rfl rfl ?_
  first | refine W.q (Ev.mul .k (.t rfl) (fun _ => by omega)) rfl ?_ | refine W.q (Ev.mulw .k (.t rfl)) rfl ?_
  refine W.gyes rfl rfl ?_
  refine W.q (Ev.gti (.t rfl) (.t rfl)) rfl ?_
  refine W.q (Ev.or (.t rfl) ⟨_, _, rfl, rfl, by simp⟩) rfl ?_
  refine W.nil ?_
  refine W.then ?_
  refine W.cond (.t rfl) (fun hc_t24 => ?_) (fun hc_t24 => ?_)
  · exact absurd hc_t24 (by rw [Bool.not_eq_true]; simp; omega)
  · refine W.skip ?_
    refine W.then ?_
    refine W.seq ?_
    refine W.seq ?_
    refine W.region ?_
    refine W.q (Ev.assign .k) rfl ?_
    refine W.nil ?_
    refine W.then ?_
    refine W.block ?_
    refine W.loop (D := []) (ι := Nat) (fun i => [(4, true, .int (i : Int)), (3, true, .str (clean s)), (0, true, .str s)]) (fun _ => []) (fun i => i ≤ (clean s).length) (fun i => (clean s).length - i) 0 ⟨rfl, rfl, rfl, trivial⟩ (.refl _) (Nat.zero_le _) ?_
    intro i hi
    dsimp only at hi ⊢
    rcases (show i < (clean s).length ∨ i = (clean s).length from by omega) with hlt | hend
    · have hb := g2 _ (List.getElem_mem hlt)
      refine W.seq ?_
      refine W.seq ?_
      refine W.region ?_
      refine W.q (Ev.move (.t rfl)) rfl ?_
      refine W.q (Ev.move (.t rfl)) rfl ?_
      refine W.q (Ev.lens (.t rfl) Try.underlying9) rfl ?_
      refine W.q (Ev.lti (.t rfl) (.t rfl)) rfl ?_
      refine W.nil ?_
      refine W.then ?_
      refine W.is (t := 28) (g := true) (av' := .lit (.bool true)) rfl (congrArg (fun b => AV.lit (.bool b)) (by simp; omega)) ?_
      refine W.condT (.t rfl) ?_
      refine W.skip ?_
      refine W.then ?_
      refine W.seq ?_
      refine W.block ?_
      refine W.seq ?_
      refine W.region ?_
      refine W.q (Ev.move (.t rfl)) rfl ?_
      refine W.q (Ev.move (.t rfl)) rfl ?_
      refine W.q (Ev.ats' (.t rfl) (.t rfl) Try.underlying9 (fun hg => by first | omega | (simp at hg; omega))) rfl ?_
      refine W.q (Ev.eqi (.t rfl) .k) rfl ?_
      refine W.q (Ev.move (.t rfl)) rfl ?_
      refine W.qgF rfl rfl (Ev.move (.t rfl)) rfl ?_
      refine W.qgF rfl rfl (Ev.move (.t rfl)) rfl ?_
      refine W.qgF rfl rfl (Ev.ats' (.c rfl) (.c rfl) Try.underlying9 (fun hg => by first | omega | (simp at hg; omega))) rfl ?_
      refine W.qgF rfl rfl (Ev.eqi (.c rfl) .k) rfl ?_
      refine W.q (Ev.or (.t rfl) ⟨_, _, rfl, rfl, by simp⟩) rfl ?_
      refine W.nil ?_
      refine W.then ?_
      refine W.cond (.t rfl) (fun hc_t40 => ?_) (fun hc_t40 => ?_)
      · exact absurd hc_t40 (by rw [Bool.not_eq_true]; simp [List.getElem?_eq_getElem hlt]; omega)
      · refine W.skip ?_
        refine W.blk_normal ?_
        refine W.then ?_
        refine W.region ?_
        refine W.q (Ev.move (.t rfl)) rfl ?_
        first | refine W.q (Ev.add (.t rfl) .k (fun _ => by omega)) rfl ?_ | refine W.q (Ev.addw (.t rfl) .k) rfl ?_
        refine W.q (Ev.assign (.t rfl)) rfl ?_
        refine W.nil ?_
        refine W.then ?_
        refine W.reach (D := []) (i + 1) ⟨rfl, rfl, rfl, trivial⟩ (.refl _) ⟨by show i + 1 ≤ _; omega, by show _ - (i + 1) < _; omega⟩
    · skip
      refine W.seq ?_
      refine W.seq ?_
      refine W.region ?_
      refine W.q (Ev.move (.t rfl)) rfl ?_
      refine W.q (Ev.move (.t rfl)) rfl ?_
      refine W.q (Ev.lens (.t rfl) Try.underlying9) rfl ?_
      refine W.q (Ev.lti (.t rfl) (.t rfl)) rfl ?_
      refine W.nil ?_
      refine W.then ?_
      refine W.is (t := 28) (g := true) (av' := .lit (.bool false)) rfl (congrArg (fun b => AV.lit (.bool b)) (by simp; omega)) ?_
      refine W.condF (.t rfl) ?_
      refine W.exit ?_
      refine W.then_exit ?_
      refine W.then_exit ?_
      refine W.blk_hit ?_
      refine W.then ?_
      refine W.seq ?_
      refine W.seq ?_
      refine W.region ?_
      refine W.q (Ev.move (.t rfl)) rfl ?_
      refine W.q (Ev.lens (.t rfl) Try.underlying9) rfl ?_
      refine W.q (Ev.gti (.t rfl) .k) rfl ?_
      refine W.nil ?_
      refine W.then ?_
      refine W.cond (.t rfl) (fun hc_t43 => ?_) (fun hc_t43 => ?_)
      · refine W.seq ?_
        refine W.region ?_
        refine W.q (Ev.assign .k) rfl ?_
        refine W.nil ?_
        refine W.then ?_
        refine W.ret ?_
        refine W.then_ret ?_
        refine W.retn (M' := []) (rs := [.tmp 2]) (avs := [_]) Try.results11 ⟨rfl, trivial⟩ rfl (.refl _) ?_
        first | exact ⟨rfl, rfl⟩ | exact ⟨congrArg AV.bool (by rw [k1, k2]; simp), rfl⟩
      · obtain ⟨k1, k2⟩ := g6 (by simp at hc_t43; omega)
        refine W.skip ?_
        refine W.then ?_
        refine W.seq ?_
        refine W.region ?_
        refine W.q (Ev.move (.t rfl)) rfl ?_
        refine W.callp (WUtf.c_Runes (clean s) (by omega)) ⟨(.t rfl), trivial⟩ rfl ?_
        refine W.is (t := 46) (g := true) rfl g7 ?_
        refine W.callp (WText.c_Text q (by omega)) ⟨(.t rfl), trivial⟩ rfl ?_
        refine W.q (Ev.move (.t rfl)) rfl ?_
        refine W.q (Ev.extract (.t rfl) rfl) rfl ?_
        refine W.q (Ev.extract (.t rfl) rfl) rfl ?_
        refine W.q (Ev.assign (.t rfl)) rfl ?_
        refine W.q (Ev.assign (.t rfl)) rfl ?_
        refine W.nil ?_
        refine W.then ?_
        refine W.seq ?_
        refine W.region ?_
        refine W.q (Ev.move (.t rfl)) rfl ?_
        refine W.q (Ev.eqi (.t rfl) .k) rfl ?_
        refine W.q (Ev.move (.t rfl)) rfl ?_
        refine W.qgT rfl rfl (Ev.move (.t rfl)) rfl ?_
        refine W.qgT rfl rfl (Ev.move (.t rfl)) rfl ?_
        refine W.qgT rfl rfl (Ev.eqs (.c rfl) (.c rfl)) rfl ?_
        refine W.q (Ev.and (.t rfl) ⟨_, _, rfl, rfl, by simp⟩) rfl ?_
        refine W.q (Ev.assign (.t rfl)) rfl ?_
        refine W.nil ?_
        refine W.then ?_
        refine W.ret ?_
        refine W.retn (M' := []) (rs := [.tmp 2]) (avs := [_]) Try.results11 ⟨rfl, trivial⟩ rfl (.refl _) ?_
        first | exact ⟨rfl, rfl⟩ | exact ⟨congrArg AV.bool (by rw [k1, k2]; simp), rfl⟩

end LCleanOnce

end Go.Proofs.Ytofmjmicgddljaa
