/-
  A row of changes is turned about.
-/
import Derived.Test.YtpjngpegkoohgaaChange
import Derived.Test.YtpjngpegkoohgaaPick
import Derived.Test.YtpjngpegkoohgaaCopy
import Derived.Test.YtpjngpegkoohgaaUndo
import Derived.Test.YtpjngpegkoohgaaBase
set_option linter.unusedVariables false
set_option linter.unusedSimpArgs false
set_option maxRecDepth 100000
namespace Go.Proofs.Ytpjngpegkoohgaa
open Go.Vl

namespace WReverse
theorem ty51 : Ty Try.prog 51 6 112 (.agg #[.int .i64 0, .slice none 0 0, .string ⟨#[]⟩, .slice none 0 0, .string ⟨#[]⟩, .slice none 0 0]) := Ty.of (by kernel_rfl)
theorem ag51 : IsAgg Try.prog 51 true := ⟨_, Try.underlying51, rfl⟩
theorem c_Reverse (cs : List Ch) (v : Value) (hl : cs.length ≤ 1099511627776) : FnC Try.prog 15 [.lit v] [.arr v 51 6 (cs.map cav)] (fun r M => r = .tup [] ∧ M = [.arr v 51 6 (cs.reverse.map cav)]) :=  by
  refine FnC.mk Try.func15 (by kernel_rfl) rfl Try.ntmps15 rfl (fun w0 F => ?_)
  have hcl : (cs.map cav).length = cs.length := List.length_map ..
  refine W.seq ?_
  refine W.region ?_
  refine W.q (Ev.move (.t rfl)) rfl ?_
  first | refine W.q (Ev.lensl (.t rfl) Try.underlying27) rfl ?_ | refine W.q (Ev.lenar (i := 0) (.t rfl) rfl Try.underlying27) rfl ?_ | refine W.q (Ev.lenar (i := 1) (.t rfl) rfl Try.underlying27) rfl ?_ | refine W.q (Ev.lenar (i := 2) (.t rfl) rfl Try.underlying27) rfl ?_ | refine W.q (Ev.lenar (i := 3) (.t rfl) rfl Try.underlying27) rfl ?_
  first | refine W.q (Ev.sub (.t rfl) .k (fun _ => by omega)) rfl ?_ | refine W.q (Ev.subw (.t rfl) .k) rfl ?_
  refine W.q (Ev.assign .k) rfl ?_
  refine W.q (Ev.assign (.t rfl)) rfl ?_
  refine W.nil ?_
  refine W.then ?_
  refine W.block ?_
  refine W.is (t := 3) (g := true) (av' := .int ((cs.length : Int) - 1 - ((0 : Nat) : Int))) rfl (congrArg AV.int (by omega)) ?_
  refine W.loop (D := []) (ι := Nat) (fun i => [(2, true, .int (i : Int)), (3, true, .int ((cs.length : Int) - 1 - i)), (0, true, .lit v)]) (fun i => [.arr v 51 6 ((rvc cs i).map cav)]) (fun i => i ≤ cs.length) (fun i => cs.length - i) 0 ⟨rfl, rfl, rfl, trivial⟩ (by rw [rvc_zero]; exact .refl _) (Nat.zero_le _) ?_
  intro i hi
  dsimp only at hi ⊢
  rcases (show 2 * i + 1 < cs.length ∨ cs.length ≤ 2 * i + 1 from by omega) with hlt | hend
  · have hgi := getD_mapG cav Ch.dfl (rvc cs i) i (by rw [rvc_len]; omega)
    have hgj := getD_mapG cav Ch.dfl (rvc cs i) (cs.length - 1 - i) (by rw [rvc_len]; omega)
    have hst := rvc_step cs i hlt
    generalize (rvc cs i).getD i Ch.dfl = ca at hgi hst
    generalize (rvc cs i).getD (cs.length - 1 - i) Ch.dfl = cb at hgj hst
    refine W.seq ?_
    refine W.seq ?_
    refine W.region ?_
    refine W.q (Ev.move (.t rfl)) rfl ?_
    refine W.q (Ev.move (.t rfl)) rfl ?_
    refine W.q (Ev.lti (.t rfl) (.t rfl)) rfl ?_
    refine W.nil ?_
    refine W.then ?_
    refine W.is (t := 9) (g := true) (av' := .lit (.bool true)) rfl (congrArg (fun b => AV.lit (.bool b)) (by exact decide_eq_true (by omega))) ?_
    refine W.condT (.t rfl) ?_
    refine W.skip ?_
    refine W.then ?_
    refine W.seq ?_
    refine W.block ?_
    refine W.drawnE (ι := Unit) (fun ee _ => [.arr v 51 6 (bif ee 15 then (((rvc cs i).map cav).set i (cav cb)).set (cs.length - 1 - i) (cav ca) else bif ee 13 then ((rvc cs i).map cav).set i (cav cb) else (rvc cs i).map cav)]) 16 () (by kernel_rfl) (by kernel_rfl) rfl ?_
    refine DE.q (fun e c hk => (Ev.move (.t rfl))) rfl (fun _ _ => rfl) (by first | exact .inr (fun _ _ => rfl) | exact .inl (by kernel_rfl)) ?_
    refine DE.q (fun e c hk => (Ev.move (.t rfl))) rfl (fun _ _ => rfl) (by first | exact .inr (fun _ _ => rfl) | exact .inl (by kernel_rfl)) ?_
    refine DE.q (fun e c hk => (Ev.move (.t rfl))) rfl (fun _ _ => rfl) (by first | exact .inr (fun _ _ => rfl) | exact .inl (by kernel_rfl)) ?_
    refine DE.q (fun e c hk => (Ev.move (.t rfl))) rfl (fun _ _ => rfl) (by first | exact .inr (fun _ _ => rfl) | exact .inl (by kernel_rfl)) ?_
    refine DE.q (fun e c hk => (Ev.move (.t rfl))) rfl (fun _ _ => rfl) (by first | exact .inr (fun _ _ => rfl) | exact .inl (by kernel_rfl)) ?_
    refine DE.q (fun e c hk => (Ev.move (.t rfl))) rfl (fun _ _ => rfl) (by first | exact .inr (fun _ _ => rfl) | exact .inl (by kernel_rfl)) ?_
    refine DE.q (fun e c hk => Ev.ata 0 (.t rfl) rfl (.t rfl) Try.underlying27 ty51 (fun _ => by cases e 15 <;> cases e 13 <;> simp only [cond_true, cond_false, List.length_set, List.length_map, rvc_len] <;> omega)) rfl (fun _ _ => rfl) (by first | exact .inr (fun _ _ => rfl) | exact .inl (by kernel_rfl)) ?_
    refine DE.q (av := fun _ => cav cb) (fun e c hk => ?_) rfl (fun _ _ => rfl) (by first | exact .inr (fun _ _ => rfl) | exact .inl (by kernel_rfl)) ?_
    · have hk_13 := hk.down 13 (by kernel_rfl)
      have hk_15 := hk.down 15 (by kernel_rfl)
      simp only [hk_13, hk_15, cond_false]
      exact Ev.ldan 0 (cs.length - 1 - i) (.t rfl) rfl hgj (by omega) rfl ag51 ty51
    refine DE.q (fun e c hk => (Ev.move (.t rfl))) rfl (fun _ _ => rfl) (by first | exact .inr (fun _ _ => rfl) | exact .inl (by kernel_rfl)) ?_
    refine DE.q (fun e c hk => (Ev.move (.t rfl))) rfl (fun _ _ => rfl) (by first | exact .inr (fun _ _ => rfl) | exact .inl (by kernel_rfl)) ?_
    refine DE.q (fun e c hk => Ev.ata 0 (.t rfl) rfl (.t rfl) Try.underlying27 ty51 (fun _ => by cases e 15 <;> cases e 13 <;> simp only [cond_true, cond_false, List.length_set, List.length_map, rvc_len] <;> omega)) rfl (fun _ _ => rfl) (by first | exact .inr (fun _ _ => rfl) | exact .inl (by kernel_rfl)) ?_
    refine DE.q (av := fun _ => cav ca) (fun e c hk => ?_) rfl (fun _ _ => rfl) (by first | exact .inr (fun _ _ => rfl) | exact .inl (by kernel_rfl)) ?_
    · have hk_13 := hk.down 13 (by kernel_rfl)
      have hk_15 := hk.down 15 (by kernel_rfl)
      simp only [hk_13, hk_15, cond_false]
      exact Ev.ldan 0 i (.t rfl) rfl hgi (by omega) rfl ag51 ty51
    refine DE.q (fun e c hk => Ev.ata 0 (.t rfl) rfl (.t rfl) Try.underlying27 ty51 (fun _ => by cases e 15 <;> cases e 13 <;> simp only [cond_true, cond_false, List.length_set, List.length_map, rvc_len] <;> omega)) rfl (fun _ _ => rfl) (by first | exact .inr (fun _ _ => rfl) | exact .inl (by kernel_rfl)) ?_
    refine DE.eff0 (fun e c hk L_ hs Q h => ?_) ?_
    · have hk_13 := hk.not
      have hk_15 := hk.down 15 (by kernel_rfl)
      simp only [addE, hk_13, hk_15, Nat.reduceAdd, Nat.reduceEqDiff, ↓reduceIte, cond_true, cond_false] at h ⊢
      exact W.sta 0 i 0 (e := cav ca) (e' := cav cb) (.t (hs _ _ rfl)) (.t (hs _ _ rfl)) rfl hgi (by omega) ty51 rfl rfl rfl rfl rfl rfl rfl h
    refine DE.q (fun e c hk => Ev.ata 0 (.t rfl) rfl (.t rfl) Try.underlying27 ty51 (fun _ => by cases e 15 <;> cases e 13 <;> simp only [cond_true, cond_false, List.length_set, List.length_map, rvc_len] <;> omega)) rfl (fun _ _ => rfl) (by first | exact .inr (fun _ _ => rfl) | exact .inl (by kernel_rfl)) ?_
    refine DE.eff0 (fun e c hk L_ hs Q h => ?_) ?_
    · have hk_15 := hk.not
      have hk_13 := hk.up 13 (by kernel_rfl)
      simp only [addE, hk_13, hk_15, Nat.reduceAdd, Nat.reduceEqDiff, ↓reduceIte, cond_true, cond_false] at h ⊢
      exact W.sta 0 (cs.length - 1 - i) 0 (e := cav cb) (e' := cav ca) (.t (hs _ _ rfl)) (.t (hs _ _ rfl)) rfl (by rw [List.getElem?_set_ne (by omega)]; exact hgj) (by omega) ty51 rfl rfl rfl rfl rfl rfl rfl h
    refine DE.nil (fun c_ e_ he_ => ?_)
    simp only [he_ 13 (by decide), he_ 15 (by decide), cond_true, cond_false]
    refine W.blk_normal ?_
    refine W.then ?_
    refine W.region ?_
    refine W.q (Ev.move (.t rfl)) rfl ?_
    first | refine W.q (Ev.add (.t rfl) .k (fun _ => by omega)) rfl ?_ | refine W.q (Ev.addw (.t rfl) .k) rfl ?_
    refine W.q (Ev.move (.t rfl)) rfl ?_
    first | refine W.q (Ev.sub (.t rfl) .k (fun _ => by omega)) rfl ?_ | refine W.q (Ev.subw (.t rfl) .k) rfl ?_
    refine W.q (Ev.assign (.t rfl)) rfl ?_
    refine W.q (Ev.assign (.t rfl)) rfl ?_
    refine W.nil ?_
    refine W.then ?_
    refine W.is (t := 3) (g := true) (av' := .int ((cs.length : Int) - 1 - ((i + 1 : Nat) : Int))) rfl (congrArg AV.int (by omega)) ?_
    refine W.reach (D := []) (i + 1) ⟨rfl, rfl, rfl, trivial⟩ (by rw [hst, List.map_set, List.map_set]; exact .refl _) ⟨by show i + 1 ≤ _; omega, by show _ - (i + 1) < _; omega⟩
  · have hdn := rvc_done cs i hend
    refine W.seq ?_
    refine W.seq ?_
    refine W.region ?_
    refine W.q (Ev.move (.t rfl)) rfl ?_
    refine W.q (Ev.move (.t rfl)) rfl ?_
    refine W.q (Ev.lti (.t rfl) (.t rfl)) rfl ?_
    refine W.nil ?_
    refine W.then ?_
    refine W.is (t := 9) (g := true) (av' := .lit (.bool false)) rfl (congrArg (fun b => AV.lit (.bool b)) (by exact decide_eq_false (by omega))) ?_
    refine W.condF (.t rfl) ?_
    refine W.exit ?_
    refine W.then_exit ?_
    refine W.then_exit ?_
    refine W.blk_hit ?_
    rw [hdn]
    refine W.endn (M' := [.arr v 51 6 (cs.reverse.map cav)]) (D := []) (rs := []) (avs := []) Try.results15 trivial rfl (.refl _) ?_
    exact ⟨rfl, rfl⟩

end WReverse

end Go.Proofs.Ytpjngpegkoohgaa
