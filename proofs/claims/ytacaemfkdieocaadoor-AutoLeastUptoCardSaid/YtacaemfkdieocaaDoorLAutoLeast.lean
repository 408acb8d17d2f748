/-
  The law AutoLeast, walked.
-/
import Derived.Test.YtacaemfkdieocaaDoorG12
set_option linter.unusedVariables false
set_option linter.unusedSimpArgs false
set_option maxRecDepth 100000
namespace Go.Proofs.YtacaemfkdieocaaDoor
open Go.Vl

namespace LAutoLeast
theorem ty28 : Ty Tryd.prog 28 2 48 (.agg #[.slice none 0 0, .slice none 0 0]) := Ty.of (by kernel_rfl)
theorem ag28 : IsAgg Tryd.prog 28 true := ⟨_, Tryd.underlying28, rfl⟩
theorem c_AutoLeast (l : List Int) (hl : l.length ≤ 1048576) (M0 : List ME) (hI : ∀ n : Int, -1 ≤ n → n < 100 → FnC Tryd.prog 61 [.int n] M0 (fun r M => r = .str (itoa n) ∧ M = M0)) : FnC Tryd.prog 5 [.sl 1 (l.map AV.int)] M0 (fun r M => r = .bool true ∧ M = M0) :=  by
  refine FnC.mk Tryd.func5 (by kernel_rfl) rfl Tryd.ntmps5 rfl (fun w0 F => ?_)
  refine W.seq ?_
  refine W.region ?_
  refine W.q (Ev.assign .k) rfl ?_
  refine W.nil ?_
  refine W.then ?_
  refine W.seq ?_
  refine W.region ?_
  refine W.q (Ev.move (.t rfl)) rfl ?_
  refine W.call (WDrawX.c_ExprText 3 (by decide) l (by omega)) ⟨(.t rfl), .k, trivial⟩ (.refl _) rfl ?_
  rintro _ _ ⟨rfl, A, rA, rfl, hA, hrA⟩
  have tA : (It.stx A).length ≤ 20 := hA.len
  have nA : It.snl A ≤ 4 := hA.nl
  have wA := It.slg_wid A
  refine W.q (Ev.move (.t rfl)) rfl ?_
  refine W.q (Ev.extract (.t rfl) rfl) rfl ?_
  refine W.q (Ev.extract (.t rfl) rfl) rfl ?_
  refine W.q (Ev.assign (.t rfl)) rfl ?_
  refine W.q (Ev.assign (.t rfl)) rfl ?_
  refine W.nil ?_
  refine W.then ?_
  refine W.seq ?_
  refine W.seq ?_
  refine W.region ?_
  refine W.q (Ev.move (.t rfl)) rfl ?_
  refine W.q (Ev.lens (.t rfl) Tryd.underlying9) rfl ?_
  refine W.q (Ev.gti (.t rfl) .k) rfl ?_
  refine W.nil ?_
  refine W.then ?_
  refine W.is (t := 19) (g := true) (av' := .lit (.bool false)) rfl (congrArg (fun b => AV.lit (.bool b)) (by exact decide_eq_false (by omega))) ?_
  refine W.condF (.t rfl) ?_
  refine W.skip ?_
  refine W.then ?_
  refine W.seq ?_
  refine W.region ?_
  have cA := WMake.c_mk A [] hA.ok trivial (by simp only [It.anl]; omega) (L := It.slg A) (by rw [show It.alg [] = Lg.none from rfl, Lg.alt_none]) (wA.mono (by omega)) (It.stx A) (List.append_nil _).symm (by omega) M0 hI
  refine W.q (Ev.move (.t rfl)) rfl ?_
  refine W.call (cA) ⟨(.t rfl), trivial⟩ ((List.Perm.of_eq (List.append_nil M0).symm)) rfl ?_
  rintro _ M' ⟨a, ha, la, ua, rfl, hM'⟩
  rw [hM']
  clear hM'
  rw [List.append_nil]
  refine W.q (Ev.move (.t rfl)) rfl ?_
  refine W.q (Ev.extract (.t rfl) rfl) rfl ?_
  refine W.q (Ev.extract (.t rfl) rfl) rfl ?_
  refine W.alloc ty28 rfl rfl ?_
  intro b5
  (refine W.stb 0 (.t rfl) (.t rfl) rfl ty28 rfl rfl rfl ?_)
  refine W.q (Ev.assign (.t rfl)) rfl ?_
  refine W.nil ?_
  refine W.then ?_
  refine W.seq ?_
  refine W.region ?_
  (refine W.q (Ev.ldbn 0 (.t rfl) rfl ag28 ty28 rfl) rfl ?_)
  refine W.call (WLeast.c_Least a ha.shape (by omega)) ⟨(.t rfl), trivial⟩ (.refl _) rfl ?_
  rintro _ _ ⟨rfl, hor⟩
  obtain ⟨y0, hy0⟩ := It.slg_live A
  obtain ⟨w, hwa, hws, hwl, rfl⟩ := hor.resolve_right (fun h => h.1 y0 ((ua y0).2 hy0))
  have hwi := Au.acc_over hwa
  have hdw := Lg.dec_true hwa
  have hwm : (w.map AV.int).length = w.length := List.length_map ..
  refine W.q (Ev.move (.t rfl)) rfl ?_
  refine W.q (Ev.extract (.t rfl) rfl) rfl ?_
  refine W.q (Ev.extract (.t rfl) rfl) rfl ?_
  refine W.q (Ev.assign (.t rfl)) rfl ?_
  refine W.q (Ev.assign (.t rfl)) rfl ?_
  refine W.nil ?_
  refine W.then ?_
  refine W.seq ?_
  refine W.seq ?_
  refine W.region ?_
  refine W.q (Ev.move (.t rfl)) rfl ?_
  refine W.q (Ev.not (.t rfl)) rfl ?_
  refine W.q (Ev.move (.t rfl)) rfl ?_
  refine W.qgF rfl rfl (Ev.move (.t rfl)) rfl ?_
  refine W.qgF rfl rfl (Ev.nei (.c rfl) .k) rfl ?_
  refine W.q (Ev.or (.t rfl) ⟨_, _, rfl, rfl, by ((simp; done))⟩) rfl ?_
  refine W.q (Ev.move (.t rfl)) rfl ?_
  (refine W.qgF rfl rfl (Ev.ldbn 0 (.t rfl) rfl ag28 ty28 rfl) rfl ?_)
  refine W.qgF rfl rfl (Ev.move (.t rfl)) rfl ?_
  refine W.callgF (Min := []) (caps := []) (avs := [_, _]) rfl rfl (fun hg => WReads.c_reads a ha.shape (by omega) w (by omega) hwi) (fun hg => .f) (fun hg => ⟨(.i rfl (fun _ => hg)), (.i rfl (fun _ => hg)), trivial⟩) rfl (.refl _) rfl ?_
  refine W.qgF rfl rfl (Ev.not (.c rfl)) rfl ?_
  refine W.q (Ev.or (.t rfl) ⟨_, _, rfl, rfl, by ((simp; done))⟩) rfl ?_
  refine W.nil ?_
  refine W.then ?_
  refine W.is (t := 41) (g := true) (av' := .lit (.bool false)) rfl (congrArg (fun b => AV.lit (.bool b)) (by simp [hdw])) ?_
  refine W.condF (.t rfl) ?_
  refine W.skip ?_
  refine W.then ?_
  refine W.seq ?_
  refine W.seq ?_
  refine W.region ?_
  refine W.q (Ev.assign .k) rfl ?_
  refine W.nil ?_
  refine W.then ?_
  refine W.block ?_
  refine W.loop (D := []) (ι := Nat) (fun n => [(9, true, .int (n : Int)), (7, true, .sl 1 (w.map AV.int)), (5, true, .lit (.pointer (some ⟨b5, 0, none⟩)))]) (fun n => .box b5 28 [.sl 1 (a.next.map pav), .sl 1 (a.final.map AV.bool)] :: M0) (fun n => n ≤ w.length) (fun n => w.length - n) 0 ⟨rfl, rfl, rfl, trivial⟩ (by rw [List.append_nil]; exact .refl _) (Nat.zero_le _) ?_
  intro n hn
  dsimp only at hn ⊢
  rcases (show (n < w.length ∧ n ≤ 12) ∨ ¬ (n < w.length ∧ n ≤ 12) from by omega) with hlt | hge
  · have hz : Au.cnt a n 0 = 0 := Au.cnt_zero n fun u hu => hws u (by omega)
    refine W.seq ?_
    refine W.seq ?_
    refine W.region ?_
    refine W.q (Ev.move (.t rfl)) rfl ?_
    refine W.q (Ev.move (.t rfl)) rfl ?_
    (refine W.q (Ev.lensl (.t rfl) Tryd.underlying22) rfl ?_)
    refine W.q (Ev.lti (.t rfl) (.t rfl)) rfl ?_
    refine W.q (Ev.move (.t rfl)) rfl ?_
    refine W.qgT rfl rfl (Ev.move (.t rfl)) rfl ?_
    refine W.qgT rfl rfl (Ev.lei (.c rfl) .k) rfl ?_
    refine W.q (Ev.and (.t rfl) ⟨_, _, rfl, rfl, by ((simp; done))⟩) rfl ?_
    refine W.nil ?_
    refine W.then ?_
    refine W.is (t := 49) (g := true) (av' := .lit (.bool true)) rfl (congrArg (fun b => AV.lit (.bool b)) (by simp; omega)) ?_
    refine W.condT (.t rfl) ?_
    refine W.skip ?_
    refine W.then ?_
    refine W.seq ?_
    refine W.block ?_
    refine W.seq ?_
    refine W.region ?_
    (refine W.q (Ev.ldbn 0 (.t rfl) rfl ag28 ty28 rfl) rfl ?_)
    refine W.q (Ev.move (.t rfl)) rfl ?_
    refine W.callp (WCount.c_Count a ha.shape (by omega) n (by omega)) ⟨(.t rfl), (.t rfl), trivial⟩ rfl ?_
    refine W.q (Ev.move (.t rfl)) rfl ?_
    refine W.q (Ev.extract (.t rfl) rfl) rfl ?_
    refine W.q (Ev.extract (.t rfl) rfl) rfl ?_
    refine W.q (Ev.assign (.t rfl)) rfl ?_
    refine W.q (Ev.assign (.t rfl)) rfl ?_
    refine W.nil ?_
    refine W.then ?_
    refine W.seq ?_
    refine W.region ?_
    refine W.q (Ev.move (.t rfl)) rfl ?_
    refine W.q (Ev.nei (.t rfl) .k) rfl ?_
    refine W.q (Ev.move (.t rfl)) rfl ?_
    refine W.qgF rfl rfl (Ev.move (.t rfl)) rfl ?_
    refine W.qgF rfl rfl (Ev.nei (.c rfl) .k) rfl ?_
    refine W.q (Ev.or (.t rfl) ⟨_, _, rfl, rfl, by ((simp; done))⟩) rfl ?_
    refine W.nil ?_
    refine W.then ?_
    refine W.is (t := 63) (g := true) (av' := .lit (.bool false)) rfl (congrArg (fun b => AV.lit (.bool b)) (by simp [hz])) ?_
    refine W.condF (.t rfl) ?_
    refine W.skip ?_
    refine W.blk_normal ?_
    refine W.then ?_
    refine W.region ?_
    refine W.q (Ev.move (.t rfl)) rfl ?_
    (refine W.q (Ev.add (.t rfl) .k (fun _ => by omega)) rfl ?_)
    refine W.q (Ev.assign (.t rfl)) rfl ?_
    refine W.nil ?_
    refine W.then ?_
    refine W.reach (D := []) (n + 1) ⟨rfl, rfl, rfl, trivial⟩ (by (rw [List.append_nil])) ⟨by show n + 1 ≤ w.length; omega, by show w.length - (n + 1) < w.length - n; omega⟩
  · skip
    refine W.seq ?_
    refine W.seq ?_
    refine W.region ?_
    refine W.q (Ev.move (.t rfl)) rfl ?_
    refine W.q (Ev.move (.t rfl)) rfl ?_
    (refine W.q (Ev.lensl (.t rfl) Tryd.underlying22) rfl ?_)
    refine W.q (Ev.lti (.t rfl) (.t rfl)) rfl ?_
    refine W.q (Ev.move (.t rfl)) rfl ?_
    refine W.qgT rfl rfl (Ev.move (.t rfl)) rfl ?_
    refine W.qgT rfl rfl (Ev.lei (.c rfl) .k) rfl ?_
    refine W.q (Ev.and (.t rfl) ⟨_, _, rfl, rfl, by ((simp; done))⟩) rfl ?_
    refine W.nil ?_
    refine W.then ?_
    refine W.is (t := 49) (g := true) (av' := .lit (.bool false)) rfl (congrArg (fun b => AV.lit (.bool b)) (by simp; omega)) ?_
    refine W.condF (.t rfl) ?_
    refine W.exit ?_
    refine W.then_exit ?_
    refine W.then_exit ?_
    refine W.blk_hit ?_
    refine W.then ?_
    refine W.seq ?_
    refine W.region ?_
    refine W.q (Ev.assign .k) rfl ?_
    refine W.nil ?_
    refine W.then ?_
    refine W.ret ?_
    refine W.retn (M' := M0) (D := _) (rs := [.tmp 2]) (avs := [_]) Tryd.results5 ⟨rfl, trivial⟩ rfl (List.perm_append_comm (l₁ := [_])) ?_
    exact ⟨rfl, rfl⟩

end LAutoLeast

end Go.Proofs.YtacaemfkdieocaaDoor
