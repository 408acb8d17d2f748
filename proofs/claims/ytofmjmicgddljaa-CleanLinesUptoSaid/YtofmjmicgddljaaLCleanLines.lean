/-
  The law CleanLines, walked.
-/
import Derived.Test.YtofmjmicgddljaaLines
import Derived.Test.YtofmjmicgddljaaWUtf
set_option linter.unusedVariables false
set_option linter.unusedSimpArgs false
set_option maxRecDepth 100000
namespace Go.Proofs.Ytofmjmicgddljaa
open Go.Vl

namespace LCleanLines
theorem ty3 : Ty Try.prog 3 1 8 (.int .i64 0) := Ty.of (by kernel_rfl)
theorem ty9 : Ty Try.prog 9 1 16 (.string ⟨#[]⟩) := Ty.of (by kernel_rfl)
theorem ag3 : IsAgg Try.prog 3 false := ⟨_, Try.underlying3, rfl⟩
theorem ag9 : IsAgg Try.prog 9 false := ⟨_, Try.underlying9, rfl⟩
theorem c_CleanLines (l ends : List Int) (hl : l.length ≤ 1048576) (he : ends.length ≤ 1048576) : FnP Try.prog 4 [.sl 1 (l.map AV.int), .sl 1 (ends.map AV.int)] (.bool true) :=  by
  refine FnC.mk Try.func4 (by kernel_rfl) rfl Try.ntmps4 rfl (fun w0 F => ?_)
  have hll : (l.map AV.int).length = l.length := List.length_map ..
  have hle : (ends.map AV.int).length = ends.length := List.length_map ..
  refine W.seq ?_
  refine W.region ?_
  refine W.q (Ev.assign .k) rfl ?_
  refine W.nil ?_
  refine W.then ?_
  refine W.seq ?_
  refine W.region ?_
  refine W.q (Ev.assign .k) rfl ?_
  refine W.nil ?_
  refine W.then ?_
  refine W.seq ?_
  refine W.region ?_
  refine W.q (Ev.assign .k) rfl ?_
  refine W.nil ?_
  refine W.then ?_
  refine W.seq ?_
  refine W.seq ?_
  refine W.region ?_
  refine W.q (Ev.assign .k) rfl ?_
  refine W.nil ?_
  refine W.then ?_
  refine W.block ?_
  refine W.loop (D := []) (ι := Nat × List (Nat × Nat)) (fun z => [(7, true, .int (z.1 : Int)), (0, true, .sl 1 (l.map AV.int)), (1, true, .sl 1 (ends.map AV.int)), (5, true, .str (z.2.flatMap pS)), (6, true, .str (z.2.flatMap pT))]) (fun _ => []) (fun z => z.1 ≤ l.length ∧ z.1 ≤ 40 ∧ z.2.length = z.1) (fun z => 40 - z.1) (0, []) ⟨rfl, rfl, rfl, rfl, rfl, trivial⟩ (.refl _) ⟨Nat.zero_le _, Nat.zero_le _, rfl⟩ ?_
  rintro ⟨i, ps⟩ ⟨hi1, hi2, hi3⟩
  dsimp only at hi1 hi2 hi3 ⊢
  have hS := pS_len ps
  have hT := pT_len ps
  rcases (show (i < l.length ∧ i < 40) ∨ ¬ (i < l.length ∧ i < 40) from by omega) with hlt | hge
  · have hga : (l.map AV.int)[i]? = some (AV.int (l.getD i 0)) := getD_map l i hlt.1
    generalize hz : l.getD i 0 = z at hga
    obtain ⟨p, hp, hpv⟩ := mod4 z
    have hgb : i < ends.length → (ends.map AV.int)[i]? = some (AV.int (ends.getD i 0)) := getD_map ends i
    generalize hy : ends.getD i 0 = y at hgb
    have hx1 : [lx p].length = 1 := rfl
    refine W.seq ?_
    refine W.seq ?_
    refine W.region ?_
    refine W.q (Ev.move (.t rfl)) rfl ?_
    refine W.q (Ev.move (.t rfl)) rfl ?_
    first | refine W.q (Ev.lensl (.t rfl) Try.underlying22) rfl ?_ | refine W.q (Ev.lenar (i := 0) (.t rfl) rfl Try.underlying22) rfl ?_ | refine W.q (Ev.lenar (i := 1) (.t rfl) rfl Try.underlying22) rfl ?_ | refine W.q (Ev.lenar (i := 2) (.t rfl) rfl Try.underlying22) rfl ?_ | refine W.q (Ev.lenar (i := 3) (.t rfl) rfl Try.underlying22) rfl ?_
    refine W.q (Ev.lti (.t rfl) (.t rfl)) rfl ?_
    refine W.q (Ev.move (.t rfl)) rfl ?_
    refine W.qgT rfl rfl (Ev.move (.t rfl)) rfl ?_
    refine W.qgT rfl rfl (Ev.lti (.c rfl) .k) rfl ?_
    refine W.q (Ev.and (.t rfl) ⟨_, _, rfl, rfl, by simp⟩) rfl ?_
    refine W.nil ?_
    refine W.then ?_
    refine W.is (t := 17) (g := true) (av' := .lit (.bool true)) rfl (congrArg (fun b => AV.lit (.bool b)) (by simp; omega)) ?_
    refine W.condT (.t rfl) ?_
    refine W.skip ?_
    refine W.then ?_
    refine W.seq ?_
    refine W.block ?_
    refine W.seq ?_
    refine W.region ?_
    refine W.bs (es := [_, _, _, _]) Try.underlying25 ty9 ⟨rfl, .k, rfl, rfl, rfl, .k, rfl, rfl, rfl, .k, rfl, rfl, rfl, .k, rfl, rfl, trivial⟩ rfl (by decide) rfl rfl ?_
    refine W.q (Ev.move (.t rfl)) rfl ?_
    refine W.q (Ev.move (.t rfl)) rfl ?_
    first | refine W.q (Ev.at (E := 3) (.t rfl) (.t rfl) Try.underlying22 ty3 (fun _ => ⟨by omega, by assumption⟩) rfl rfl) rfl ?_ | refine W.q (Ev.ata 0 (.t rfl) rfl (.t rfl) Try.underlying22 ty3 (fun _ => by omega)) rfl ?_ | refine W.q (Ev.ata 1 (.t rfl) rfl (.t rfl) Try.underlying22 ty3 (fun _ => by omega)) rfl ?_ | refine W.q (Ev.ata 2 (.t rfl) rfl (.t rfl) Try.underlying22 ty3 (fun _ => by omega)) rfl ?_ | refine W.q (Ev.ata 3 (.t rfl) rfl (.t rfl) Try.underlying22 ty3 (fun _ => by omega)) rfl ?_
    first | refine W.q (Ev.lde1 (.t rfl) ag3) rfl ?_ | refine W.q (Ev.ldb1 0 (.t rfl) rfl ag3 rfl) rfl ?_ | refine W.q (Ev.ldb1 1 (.t rfl) rfl ag3 rfl) rfl ?_ | refine W.q (Ev.ldb1 2 (.t rfl) rfl ag3 rfl) rfl ?_ | refine W.q (Ev.ldb1 3 (.t rfl) rfl ag3 rfl) rfl ?_
    refine W.callp (Base.c_Picked z 4 (by decide) (by decide)) ⟨(.t rfl), .k, trivial⟩ rfl ?_
    refine W.is (t := 25) (g := true) (av' := .int (p : Int)) rfl (congrArg AV.int hpv) ?_
    refine W.q (Ev.at (E := 9) (.t rfl) (.t rfl) Try.underlying25 ty9 (fun _ => ⟨Int.natCast_nonneg _, pickX p hp⟩) rfl rfl) rfl ?_
    first | refine W.q (Ev.lde1 (.t rfl) ag9) rfl ?_ | refine W.q (Ev.ldb1 0 (.t rfl) rfl ag9 rfl) rfl ?_ | refine W.q (Ev.ldb1 1 (.t rfl) rfl ag9 rfl) rfl ?_ | refine W.q (Ev.ldb1 2 (.t rfl) rfl ag9 rfl) rfl ?_ | refine W.q (Ev.ldb1 3 (.t rfl) rfl ag9 rfl) rfl ?_
    refine W.q (Ev.assign (.t rfl)) rfl ?_
    refine W.nil ?_
    refine W.then ?_
    refine W.seq ?_
    refine W.region ?_
    refine W.q (Ev.assign .k) rfl ?_
    refine W.nil ?_
    refine W.then ?_
    refine W.seq ?_
    refine W.seq ?_
    refine W.region ?_
    refine W.q (Ev.move (.t rfl)) rfl ?_
    refine W.q (Ev.move (.t rfl)) rfl ?_
    first | refine W.q (Ev.lensl (.t rfl) Try.underlying22) rfl ?_ | refine W.q (Ev.lenar (i := 0) (.t rfl) rfl Try.underlying22) rfl ?_ | refine W.q (Ev.lenar (i := 1) (.t rfl) rfl Try.underlying22) rfl ?_ | refine W.q (Ev.lenar (i := 2) (.t rfl) rfl Try.underlying22) rfl ?_ | refine W.q (Ev.lenar (i := 3) (.t rfl) rfl Try.underlying22) rfl ?_
    refine W.q (Ev.lti (.t rfl) (.t rfl)) rfl ?_
    refine W.nil ?_
    refine W.then ?_
    refine W.cond (.t rfl) (fun hc_t31 => ?_) (fun hc_t31 => ?_)
    · replace hgb := hgb (by simp at hc_t31; omega)
      obtain ⟨n, hn, hnv⟩ := mod4 y
      have hen := endS_len n
      refine W.region ?_
      refine W.q (Ev.move (.t rfl)) rfl ?_
      refine W.q (Ev.move (.t rfl)) rfl ?_
      first | refine W.q (Ev.at (E := 3) (.t rfl) (.t rfl) Try.underlying22 ty3 (fun _ => ⟨by omega, by assumption⟩) rfl rfl) rfl ?_ | refine W.q (Ev.ata 0 (.t rfl) rfl (.t rfl) Try.underlying22 ty3 (fun _ => by omega)) rfl ?_ | refine W.q (Ev.ata 1 (.t rfl) rfl (.t rfl) Try.underlying22 ty3 (fun _ => by omega)) rfl ?_ | refine W.q (Ev.ata 2 (.t rfl) rfl (.t rfl) Try.underlying22 ty3 (fun _ => by omega)) rfl ?_ | refine W.q (Ev.ata 3 (.t rfl) rfl (.t rfl) Try.underlying22 ty3 (fun _ => by omega)) rfl ?_
      first | refine W.q (Ev.lde1 (.t rfl) ag3) rfl ?_ | refine W.q (Ev.ldb1 0 (.t rfl) rfl ag3 rfl) rfl ?_ | refine W.q (Ev.ldb1 1 (.t rfl) rfl ag3 rfl) rfl ?_ | refine W.q (Ev.ldb1 2 (.t rfl) rfl ag3 rfl) rfl ?_ | refine W.q (Ev.ldb1 3 (.t rfl) rfl ag3 rfl) rfl ?_
      refine W.callp (Base.c_Picked y 4 (by decide) (by decide)) ⟨(.t rfl), .k, trivial⟩ rfl ?_
      refine W.q (Ev.assign (.t rfl)) rfl ?_
      refine W.nil ?_
      refine W.is (t := 9) (g := true) (av' := .int (n : Int)) rfl (congrArg AV.int hnv) ?_
      refine W.then ?_
      refine W.seq ?_
      refine W.region ?_
      refine W.q (Ev.move (.t rfl)) rfl ?_
      refine W.q (Ev.move (.t rfl)) rfl ?_
      refine W.bs (es := [_, _, _, _]) Try.underlying25 ty9 ⟨rfl, .k, rfl, rfl, rfl, .k, rfl, rfl, rfl, .k, rfl, rfl, rfl, .k, rfl, rfl, trivial⟩ rfl (by decide) rfl rfl ?_
      refine W.q (Ev.move (.t rfl)) rfl ?_
      refine W.q (Ev.at (E := 9) (.t rfl) (.t rfl) Try.underlying25 ty9 (fun _ => ⟨Int.natCast_nonneg _, pickE n hn⟩) rfl rfl) rfl ?_
      first | refine W.q (Ev.lde1 (.t rfl) ag9) rfl ?_ | refine W.q (Ev.ldb1 0 (.t rfl) rfl ag9 rfl) rfl ?_ | refine W.q (Ev.ldb1 1 (.t rfl) rfl ag9 rfl) rfl ?_ | refine W.q (Ev.ldb1 2 (.t rfl) rfl ag9 rfl) rfl ?_ | refine W.q (Ev.ldb1 3 (.t rfl) rfl ag9 rfl) rfl ?_
      refine W.q (Ev.cat (.t rfl) (.t rfl) (fun _ => by first | omega | (simp only [List.length_append]; omega) | (simp [-List.length_flatMap]; omega) | (simp; omega))) rfl ?_
      refine W.q (Ev.cat (.t rfl) (.t rfl) (fun _ => by first | omega | (simp only [List.length_append]; omega) | (simp [-List.length_flatMap]; omega) | (simp; omega))) rfl ?_
      refine W.q (Ev.assign (.t rfl)) rfl ?_
      refine W.nil ?_
      refine W.then ?_
      refine W.seq ?_
      refine W.region ?_
      refine W.q (Ev.move (.t rfl)) rfl ?_
      refine W.q (Ev.move (.t rfl)) rfl ?_
      refine W.q (Ev.cat (.t rfl) (.t rfl) (fun _ => by first | omega | (simp only [List.length_append]; omega) | (simp [-List.length_flatMap]; omega) | (simp; omega))) rfl ?_
      refine W.q (Ev.assign (.t rfl)) rfl ?_
      refine W.nil ?_
      refine W.then ?_
      refine W.seq ?_
      refine W.region ?_
      refine W.q (Ev.move (.t rfl)) rfl ?_
      refine W.q (Ev.gti (.t rfl) .k) rfl ?_
      refine W.nil ?_
      refine W.then ?_
      refine W.cond (.t rfl) (fun hc_t49 => ?_) (fun hc_t49 => ?_)
      · have hT1 : pT (p, n) = [lx p] ++ [10] := by rw [pT, if_neg (by show ¬ n = 0; simp at hc_t49; omega)]; rfl
        refine W.region ?_
        refine W.q (Ev.move (.t rfl)) rfl ?_
        refine W.q (Ev.cat (.t rfl) .k (fun _ => by first | omega | (simp only [List.length_append]; omega) | (simp [-List.length_flatMap]; omega) | (simp; omega))) rfl ?_
        refine W.q (Ev.assign (.t rfl)) rfl ?_
        refine W.nil ?_
        refine W.blk_normal ?_
        refine W.then ?_
        refine W.region ?_
        refine W.q (Ev.move (.t rfl)) rfl ?_
        first | refine W.q (Ev.add (.t rfl) .k (fun _ => by omega)) rfl ?_ | refine W.q (Ev.addw (.t rfl) .k) rfl ?_
        refine W.q (Ev.assign (.t rfl)) rfl ?_
        refine W.nil ?_
        refine W.then ?_
        refine W.is (t := 5) (g := true) (av' := .str ((ps ++ [(p, n)]).flatMap pS)) rfl (congrArg AV.str (by simp [pS])) ?_
        refine W.is (t := 6) (g := true) (av' := .str ((ps ++ [(p, n)]).flatMap pT)) rfl (congrArg AV.str (by rw [List.flatMap_append, List.flatMap_singleton, hT1]; try simp)) ?_
        refine W.reach (D := []) (i + 1, ps ++ [(p, n)]) ⟨rfl, rfl, rfl, rfl, rfl, trivial⟩ (.refl _) ⟨⟨by show i + 1 ≤ _; omega, by show i + 1 ≤ _; omega, by show List.length _ = i + 1; simp [hi3]⟩, by show 40 - (i + 1) < 40 - i; omega⟩
      · have hT1 : pT (p, n) = [lx p] := by rw [pT, if_pos (by show n = 0; simp at hc_t49; omega)]
        refine W.skip ?_
        refine W.blk_normal ?_
        refine W.then ?_
        refine W.region ?_
        refine W.q (Ev.move (.t rfl)) rfl ?_
        first | refine W.q (Ev.add (.t rfl) .k (fun _ => by omega)) rfl ?_ | refine W.q (Ev.addw (.t rfl) .k) rfl ?_
        refine W.q (Ev.assign (.t rfl)) rfl ?_
        refine W.nil ?_
        refine W.then ?_
        refine W.is (t := 5) (g := true) (av' := .str ((ps ++ [(p, n)]).flatMap pS)) rfl (congrArg AV.str (by simp [pS])) ?_
        refine W.is (t := 6) (g := true) (av' := .str ((ps ++ [(p, n)]).flatMap pT)) rfl (congrArg AV.str (by rw [List.flatMap_append, List.flatMap_singleton, hT1]; try simp)) ?_
        refine W.reach (D := []) (i + 1, ps ++ [(p, n)]) ⟨rfl, rfl, rfl, rfl, rfl, trivial⟩ (.refl _) ⟨⟨by show i + 1 ≤ _; omega, by show i + 1 ≤ _; omega, by show List.length _ = i + 1; simp [hi3]⟩, by show 40 - (i + 1) < 40 - i; omega⟩
    · obtain ⟨n, hn, hnv⟩ : ∃ n : Nat, n < 4 ∧ (0 : Int) = (n : Int) := ⟨0, by decide, rfl⟩
      have hen := endS_len n
      refine W.is (t := 9) (g := true) (av' := .int (n : Int)) rfl (congrArg AV.int hnv) ?_
      refine W.skip ?_
      refine W.then ?_
      refine W.seq ?_
      refine W.region ?_
      refine W.q (Ev.move (.t rfl)) rfl ?_
      refine W.q (Ev.move (.t rfl)) rfl ?_
      refine W.bs (es := [_, _, _, _]) Try.underlying25 ty9 ⟨rfl, .k, rfl, rfl, rfl, .k, rfl, rfl, rfl, .k, rfl, rfl, rfl, .k, rfl, rfl, trivial⟩ rfl (by decide) rfl rfl ?_
      refine W.q (Ev.move (.t rfl)) rfl ?_
      refine W.q (Ev.at (E := 9) (.t rfl) (.t rfl) Try.underlying25 ty9 (fun _ => ⟨Int.natCast_nonneg _, pickE n hn⟩) rfl rfl) rfl ?_
      first | refine W.q (Ev.lde1 (.t rfl) ag9) rfl ?_ | refine W.q (Ev.ldb1 0 (.t rfl) rfl ag9 rfl) rfl ?_ | refine W.q (Ev.ldb1 1 (.t rfl) rfl ag9 rfl) rfl ?_ | refine W.q (Ev.ldb1 2 (.t rfl) rfl ag9 rfl) rfl ?_ | refine W.q (Ev.ldb1 3 (.t rfl) rfl ag9 rfl) rfl ?_
      refine W.q (Ev.cat (.t rfl) (.t rfl) (fun _ => by first | omega | (simp only [List.length_append]; omega) | (simp [-List.length_flatMap]; omega) | (simp; omega))) rfl ?_
      refine W.q (Ev.cat (.t rfl) (.t rfl) (fun _ => by first | omega | (simp only [List.length_append]; omega) | (simp [-List.length_flatMap]; omega) | (simp; omega))) rfl ?_
      refine W.q (Ev.assign (.t rfl)) rfl ?_
      refine W.nil ?_
      refine W.then ?_
      refine W.seq ?_
      refine W.region ?_
      refine W.q (Ev.move (.t rfl)) rfl ?_
      refine W.q (Ev.move (.t rfl)) rfl ?_
      refine W.q (Ev.cat (.t rfl) (.t rfl) (fun _ => by first | omega | (simp only [List.length_append]; omega) | (simp [-List.length_flatMap]; omega) | (simp; omega))) rfl ?_
      refine W.q (Ev.assign (.t rfl)) rfl ?_
      refine W.nil ?_
      refine W.then ?_
      refine W.seq ?_
      refine W.region ?_
      refine W.q (Ev.move (.t rfl)) rfl ?_
      refine W.q (Ev.gti (.t rfl) .k) rfl ?_
      refine W.nil ?_
      refine W.then ?_
      refine W.cond (.t rfl) (fun hc_t49 => ?_) (fun hc_t49 => ?_)
      · have hT1 : pT (p, n) = [lx p] ++ [10] := by rw [pT, if_neg (by show ¬ n = 0; simp at hc_t49; omega)]; rfl
        refine W.region ?_
        refine W.q (Ev.move (.t rfl)) rfl ?_
        refine W.q (Ev.cat (.t rfl) .k (fun _ => by first | omega | (simp only [List.length_append]; omega) | (simp [-List.length_flatMap]; omega) | (simp; omega))) rfl ?_
        refine W.q (Ev.assign (.t rfl)) rfl ?_
        refine W.nil ?_
        refine W.blk_normal ?_
        refine W.then ?_
        refine W.region ?_
        refine W.q (Ev.move (.t rfl)) rfl ?_
        first | refine W.q (Ev.add (.t rfl) .k (fun _ => by omega)) rfl ?_ | refine W.q (Ev.addw (.t rfl) .k) rfl ?_
        refine W.q (Ev.assign (.t rfl)) rfl ?_
        refine W.nil ?_
        refine W.then ?_
        refine W.is (t := 5) (g := true) (av' := .str ((ps ++ [(p, n)]).flatMap pS)) rfl (congrArg AV.str (by simp [pS])) ?_
        refine W.is (t := 6) (g := true) (av' := .str ((ps ++ [(p, n)]).flatMap pT)) rfl (congrArg AV.str (by rw [List.flatMap_append, List.flatMap_singleton, hT1]; try simp)) ?_
        refine W.reach (D := []) (i + 1, ps ++ [(p, n)]) ⟨rfl, rfl, rfl, rfl, rfl, trivial⟩ (.refl _) ⟨⟨by show i + 1 ≤ _; omega, by show i + 1 ≤ _; omega, by show List.length _ = i + 1; simp [hi3]⟩, by show 40 - (i + 1) < 40 - i; omega⟩
      · have hT1 : pT (p, n) = [lx p] := by rw [pT, if_pos (by show n = 0; simp at hc_t49; omega)]
        refine W.skip ?_
        refine W.blk_normal ?_
        refine W.then ?_
        refine W.region ?_
        refine W.q (Ev.move (.t rfl)) rfl ?_
        first | refine W.q (Ev.add (.t rfl) .k (fun _ => by omega)) rfl ?_ | refine W.q (Ev.addw (.t rfl) .k) rfl ?_
        refine W.q (Ev.assign (.t rfl)) rfl ?_
        refine W.nil ?_
        refine W.then ?_
        refine W.is (t := 5) (g := true) (av' := .str ((ps ++ [(p, n)]).flatMap pS)) rfl (congrArg AV.str (by simp [pS])) ?_
        refine W.is (t := 6) (g := true) (av' := .str ((ps ++ [(p, n)]).flatMap pT)) rfl (congrArg AV.str (by rw [List.flatMap_append, List.flatMap_singleton, hT1]; try simp)) ?_
        refine W.reach (D := []) (i + 1, ps ++ [(p, n)]) ⟨rfl, rfl, rfl, rfl, rfl, trivial⟩ (.refl _) ⟨⟨by show i + 1 ≤ _; omega, by show i + 1 ≤ _; omega, by show List.length _ = i + 1; simp [hi3]⟩, by show 40 - (i + 1) < 40 - i; omega⟩
  · skip
    refine W.seq ?_
    refine W.seq ?_
    refine W.region ?_
    refine W.q (Ev.move (.t rfl)) rfl ?_
    refine W.q (Ev.move (.t rfl)) rfl ?_
    first | refine W.q (Ev.lensl (.t rfl) Try.underlying22) rfl ?_ | refine W.q (Ev.lenar (i := 0) (.t rfl) rfl Try.underlying22) rfl ?_ | refine W.q (Ev.lenar (i := 1) (.t rfl) rfl Try.underlying22) rfl ?_ | refine W.q (Ev.lenar (i := 2) (.t rfl) rfl Try.underlying22) rfl ?_ | refine W.q (Ev.lenar (i := 3) (.t rfl) rfl Try.underlying22) rfl ?_
    refine W.q (Ev.lti (.t rfl) (.t rfl)) rfl ?_
    refine W.q (Ev.move (.t rfl)) rfl ?_
    refine W.qgT rfl rfl (Ev.move (.t rfl)) rfl ?_
    refine W.qgT rfl rfl (Ev.lti (.c rfl) .k) rfl ?_
    refine W.q (Ev.and (.t rfl) ⟨_, _, rfl, rfl, by simp⟩) rfl ?_
    refine W.nil ?_
    refine W.then ?_
    refine W.is (t := 17) (g := true) (av' := .lit (.bool false)) rfl (congrArg (fun b => AV.lit (.bool b)) (by simp; omega)) ?_
    refine W.condF (.t rfl) ?_
    refine W.exit ?_
    refine W.then_exit ?_
    refine W.then_exit ?_
    refine W.blk_hit ?_
    refine W.then ?_
    refine W.seq ?_
    refine W.region ?_
    refine W.q (Ev.move (.t rfl)) rfl ?_
    refine W.callp (WUtf.c_Clean (ps.flatMap pS) (by omega)) ⟨(.t rfl), trivial⟩ rfl ?_
    refine W.q (Ev.move (.t rfl)) rfl ?_
    refine W.q (Ev.eqs (.t rfl) (.t rfl)) rfl ?_
    refine W.q (Ev.move (.t rfl)) rfl ?_
    refine W.is (t := 56) (g := true) (av' := .lit (.bool true)) rfl (congrArg (fun b => AV.lit (.bool b)) ?_) ?_
    · rw [beq_iff_eq]; exact clean_pieces ps
    refine W.gyes rfl rfl ?_
    refine W.callp (WUtf.c_Clean [97] (by decide)) ⟨.k, trivial⟩ rfl ?_
    refine W.gyes rfl rfl ?_
    refine W.q (Ev.eqs (.t rfl) .k) rfl ?_
    refine W.q (Ev.and (.t rfl) ⟨_, _, rfl, rfl, by simp⟩) rfl ?_
    refine W.q (Ev.assign (.t rfl)) rfl ?_
    refine W.nil ?_
    refine W.then ?_
    refine W.ret ?_
    refine W.retn (M' := []) (rs := [.tmp 4]) (avs := [_]) Try.results4 ⟨rfl, trivial⟩ rfl (.refl _) ?_
    exact ⟨congrArg AV.bool (by rw [show clean [97] = [97] from by decide]; rfl), rfl⟩

end LCleanLines

end Go.Proofs.Ytofmjmicgddljaa
