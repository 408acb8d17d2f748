/-
  The node at a path, by a law.
-/
import Derived.Test.YteepllfbnoaiaaaWalk
import Derived.Test.YteepllfbnoaiaaaBase
set_option linter.unusedVariables false
set_option linter.unusedSimpArgs false
set_option maxRecDepth 100000
namespace Go.Proofs.Yteepllfbnoaiaaa
open Go.Vl

namespace WNodeAt
theorem ty3 : Ty Try.prog 3 1 8 (.int .i64 0) := Ty.of (by kernel_rfl)
theorem ty25 : Ty Try.prog 25 1 24 (.slice none 0 0) := Ty.of (by kernel_rfl)
theorem ty35 : Ty Try.prog 35 4 80 (.agg #[.string ⟨#[]⟩, .slice none 0 0, .string ⟨#[]⟩, .slice none 0 0]) := Ty.of (by kernel_rfl)
theorem ag3 : IsAgg Try.prog 3 false := ⟨_, Try.underlying3, rfl⟩
theorem ag25 : IsAgg Try.prog 25 false := ⟨_, Try.underlying25, rfl⟩
theorem ag35 : IsAgg Try.prog 35 true := ⟨_, Try.underlying35, rfl⟩
theorem fa35_3 : FieldAt Try.prog 35 3 3 1 false := ⟨_, _, Try.underlying35, rfl, rfl, ty25.size, ag25, by decide⟩
theorem c_nodeAt (l : List Nd) (p : List Int) (d : Nd) (hp : Nd.atP l p d) (hpl : p.length ≤ 1099511627776) : FnP Try.prog 17 [.sl 4 (l.map Nd.av), .sl 1 (p.map AV.int)] (.tup [Nd.avx d, .bool true]) :=  by
  refine FnC.mk Try.func17 (by kernel_rfl) rfl Try.ntmps17 rfl (fun w0 F => ?_)
  have hpm : (p.map AV.int).length = p.length := List.length_map ..
  have hpos : 0 < p.length := by cases p with
    | nil => exact hp.elim
    | cons _ _ => simp
  refine W.seq ?_
  refine W.region ?_
  refine W.alloc ty35 rfl rfl ?_
  intro b4
  refine W.q (Ev.assign .k) rfl ?_
  refine W.nil ?_
  refine W.then ?_
  refine W.seq ?_
  refine W.region ?_
  refine W.alloc ty35 rfl rfl ?_
  intro b6
  refine W.nil ?_
  refine W.then ?_
  refine W.seq ?_
  refine W.seq ?_
  refine W.region ?_
  refine W.q (Ev.assign .k) rfl ?_
  refine W.nil ?_
  refine W.then ?_
  refine W.block ?_
  refine W.loop (D := []) (ι := Nat × List Nd × List AV) (fun z => [(7, true, .int (z.1 : Int)), (0, true, .sl 4 (z.2.1.map Nd.av)), (1, true, .sl 1 (p.map AV.int)), (6, true, .lit (.pointer (some ⟨b6, 0, none⟩))), (4, true, .lit (.pointer (some ⟨b4, 0, none⟩)))]) (fun z => [.box b6 35 z.2.2, .box b4 35 [AV.lit (.string ⟨#[]⟩), .lit (.slice none 0 0), .lit (.string ⟨#[]⟩), .lit (.slice none 0 0)]]) (fun z => z.1 ≤ p.length ∧ (z.1 < p.length → Nd.atP z.2.1 (p.drop z.1) d) ∧ (z.1 = p.length → z.2.2 = (Nd.avx d).cells) ∧ z.2.2.length = 4) (fun z => p.length - z.1) (0, l, [AV.lit (.string ⟨#[]⟩), .lit (.slice none 0 0), .lit (.string ⟨#[]⟩), .lit (.slice none 0 0)]) ⟨rfl, rfl, rfl, rfl, rfl, trivial⟩ (.refl _) ⟨Nat.zero_le _, fun _ => by simpa using hp, fun h => by omega, rfl⟩ ?_
  rintro ⟨j, l2, cs⟩ ⟨hj1, hj2, hj3, hj4⟩
  dsimp only at hj1 hj2 hj3 hj4 ⊢
  obtain ⟨c0, c1, c2, c3, rfl⟩ : ∃ c0 c1 c2 c3, cs = [c0, c1, c2, c3] := by
    match cs, hj4 with
    | [c0, c1, c2, c3], _ => exact ⟨c0, c1, c2, c3, rfl⟩
  rcases (show j < p.length ∨ j = p.length from by omega) with hltj | hendj
  · obtain ⟨k, r, hkr⟩ : ∃ k r, p.drop j = k :: r := List.exists_cons_of_ne_nil (by intro h; have := congrArg List.length h; simp at this; omega)
    have hat := hj2 hltj
    rw [hkr] at hat
    obtain ⟨i, rfl, hlt, hnx⟩ := hat
    have hgp : (p.map AV.int)[j]? = some (AV.int (i : Int)) := by rw [getD_map p j hltj]; congr 2; have := congrArg (fun l => l.getD 0 0) hkr; simpa using this
    have hrd : p.drop (j + 1) = r := by have := congrArg List.tail hkr; simpa using this
    have hrl : r.length = p.length - (j + 1) := by rw [← hrd, List.length_drop]
    have hga := Nd.at_av l2 i hlt
    have hl2 : (l2.map Nd.av).length = l2.length := List.length_map ..
    generalize hd2 : l2.getD i Nd.dflt = e at hga hnx
    refine W.seq ?_
    refine W.seq ?_
    refine W.region ?_
    refine W.q (Ev.move (.t rfl)) rfl ?_
    refine W.q (Ev.move (.t rfl)) rfl ?_
    first | refine W.q (Ev.lensl (.t rfl) Try.underlying22) rfl ?_ | refine W.q (Ev.lenar (i := 0) (.t rfl) rfl Try.underlying22) rfl ?_ | refine W.q (Ev.lenar (i := 1) (.t rfl) rfl Try.underlying22) rfl ?_ | refine W.q (Ev.lenar (i := 2) (.t rfl) rfl Try.underlying22) rfl ?_ | refine W.q (Ev.lenar (i := 3) (.t rfl) rfl Try.underlying22) rfl ?_
    refine W.q (Ev.lti (.t rfl) (.t rfl)) rfl ?_
    refine W.nil ?_
    refine W.then ?_
    refine W.is (t := 11) (g := true) (av' := .lit (.bool true)) rfl (congrArg (fun b => AV.lit (.bool b)) (by simp; omega)) ?_
    refine W.condT (.t rfl) ?_
    refine W.skip ?_
    refine W.then ?_
    refine W.seq ?_
    refine W.block ?_
    refine W.seq ?_
    refine W.seq ?_
    refine W.region ?_
    refine W.q (Ev.move (.t rfl)) rfl ?_
    refine W.q (Ev.move (.t rfl)) rfl ?_
    refine W.q (Ev.at (E := 3) (.t rfl) (.t rfl) Try.underlying22 ty3 (fun _ => ⟨by omega, hgp⟩) rfl rfl) rfl ?_
    first | refine W.q (Ev.lde1 (.t rfl) ag3) rfl ?_ | refine W.q (Ev.ldb1 0 (.t rfl) rfl ag3 rfl) rfl ?_ | refine W.q (Ev.ldb1 1 (.t rfl) rfl ag3 rfl) rfl ?_ | refine W.q (Ev.ldb1 2 (.t rfl) rfl ag3 rfl) rfl ?_ | refine W.q (Ev.ldb1 3 (.t rfl) rfl ag3 rfl) rfl ?_
    refine W.q (Ev.lti (.t rfl) .k) rfl ?_
    refine W.q (Ev.move (.t rfl)) rfl ?_
    refine W.qgF rfl rfl (Ev.move (.t rfl)) rfl ?_
    refine W.qgF rfl rfl (Ev.move (.t rfl)) rfl ?_
    refine W.qgF rfl rfl (Ev.at (E := 3) (.c rfl) (.c rfl) Try.underlying22 ty3 (fun _ => ⟨by omega, hgp⟩) rfl rfl) rfl ?_
    first | refine W.qgF rfl rfl (Ev.lde1 (.c rfl) ag3) rfl ?_ | refine W.qgF rfl rfl (Ev.ldb1 0 (.c rfl) rfl ag3 rfl) rfl ?_ | refine W.qgF rfl rfl (Ev.ldb1 1 (.c rfl) rfl ag3 rfl) rfl ?_ | refine W.qgF rfl rfl (Ev.ldb1 2 (.c rfl) rfl ag3 rfl) rfl ?_ | refine W.qgF rfl rfl (Ev.ldb1 3 (.c rfl) rfl ag3 rfl) rfl ?_
    refine W.qgF rfl rfl (Ev.move (.t rfl)) rfl ?_
    first | refine W.qgF rfl rfl (Ev.lensl (.c rfl) Try.underlying25) rfl ?_ | refine W.qgF rfl rfl (Ev.lenar (i := 0) (.c rfl) rfl Try.underlying25) rfl ?_ | refine W.qgF rfl rfl (Ev.lenar (i := 1) (.c rfl) rfl Try.underlying25) rfl ?_ | refine W.qgF rfl rfl (Ev.lenar (i := 2) (.c rfl) rfl Try.underlying25) rfl ?_ | refine W.qgF rfl rfl (Ev.lenar (i := 3) (.c rfl) rfl Try.underlying25) rfl ?_
    refine W.qgF rfl rfl (Ev.gei (.c rfl) (.c rfl)) rfl ?_
    refine W.q (Ev.or (.t rfl) ⟨_, _, rfl, rfl, by first | (simp; done) | (intro hg_ hp_; simp [hp_]; done) | (simp <;> omega; done) | (simp_all; done) | grind⟩) rfl ?_
    refine W.nil ?_
    refine W.then ?_
    refine W.is (t := 27) (g := true) (av' := .lit (.bool false)) rfl (congrArg (fun b => AV.lit (.bool b)) (by simp; omega)) ?_
    refine W.condF (.t rfl) ?_
    refine W.skip ?_
    refine W.then ?_
    refine W.seq ?_
    refine W.region ?_
    refine W.q (Ev.move (.t rfl)) rfl ?_
    refine W.q (Ev.move (.t rfl)) rfl ?_
    refine W.q (Ev.move (.t rfl)) rfl ?_
    refine W.q (Ev.at (E := 3) (.t rfl) (.t rfl) Try.underlying22 ty3 (fun _ => ⟨by omega, hgp⟩) rfl rfl) rfl ?_
    first | refine W.q (Ev.lde1 (.t rfl) ag3) rfl ?_ | refine W.q (Ev.ldb1 0 (.t rfl) rfl ag3 rfl) rfl ?_ | refine W.q (Ev.ldb1 1 (.t rfl) rfl ag3 rfl) rfl ?_ | refine W.q (Ev.ldb1 2 (.t rfl) rfl ag3 rfl) rfl ?_ | refine W.q (Ev.ldb1 3 (.t rfl) rfl ag3 rfl) rfl ?_
    refine W.q (Ev.at (E := 35) (.t rfl) (.t rfl) Try.underlying25 ty35 (fun _ => ⟨by omega, hga⟩) rfl rfl) rfl ?_
    first | refine W.q (Ev.lden (.t rfl) ag35 ty35 rfl rfl) rfl ?_ | refine W.q (Ev.ldbn 0 (.t rfl) rfl ag35 ty35 rfl) rfl ?_ | refine W.q (Ev.ldbn 1 (.t rfl) rfl ag35 ty35 rfl) rfl ?_ | refine W.q (Ev.ldbn 2 (.t rfl) rfl ag35 ty35 rfl) rfl ?_ | refine W.q (Ev.ldbn 3 (.t rfl) rfl ag35 ty35 rfl) rfl ?_
    first | refine W.stb 0 (.t rfl) (.t rfl) rfl ty35 rfl rfl rfl ?_ | refine W.stb 1 (.t rfl) (.t rfl) rfl ty35 rfl rfl rfl ?_ | refine W.stb 2 (.t rfl) (.t rfl) rfl ty35 rfl rfl rfl ?_ | refine W.stb 3 (.t rfl) (.t rfl) rfl ty35 rfl rfl rfl ?_
    refine W.nil ?_
    refine W.then ?_
    refine W.region ?_
    first | refine W.q (Ev.fae (.t rfl) fa35_3 rfl) rfl ?_ | refine W.q (Ev.fab (.t rfl) fa35_3) rfl ?_ | refine W.q (Ev.faa (.t rfl) fa35_3) rfl ?_
    first | refine W.q (Ev.lde1 (.t rfl) ag25) rfl ?_ | refine W.q (Ev.ldb1 0 (.t rfl) rfl ag25 rfl) rfl ?_ | refine W.q (Ev.ldb1 1 (.t rfl) rfl ag25 rfl) rfl ?_ | refine W.q (Ev.ldb1 2 (.t rfl) rfl ag25 rfl) rfl ?_ | refine W.q (Ev.ldb1 3 (.t rfl) rfl ag25 rfl) rfl ?_
    refine W.q (Ev.assign (.t rfl)) rfl ?_
    refine W.nil ?_
    refine W.blk_normal ?_
    refine W.then ?_
    refine W.region ?_
    refine W.q (Ev.move (.t rfl)) rfl ?_
    first | refine W.q (Ev.add (.t rfl) .k (fun _ => by omega)) rfl ?_ | refine W.q (Ev.addw (.t rfl) .k) rfl ?_
    refine W.q (Ev.assign (.t rfl)) rfl ?_
    refine W.nil ?_
    refine W.then ?_
    refine W.reach (D := []) (j + 1, e.parts, (Nd.avx e).cells) ⟨rfl, rfl, rfl, rfl, rfl, trivial⟩ (.refl _) ⟨⟨by show j + 1 ≤ _; omega, ?_, ?_, rfl⟩, by show _ - (j + 1) < _; omega⟩
    · show j + 1 < p.length → Nd.atP e.parts (p.drop (j + 1)) d
      intro hlt2
      rw [hrd]
      rcases hnx with ⟨h, _⟩ | ⟨_, h⟩
      · rw [h] at hrl; simp at hrl; omega
      · exact h
    · show j + 1 = p.length → (Nd.avx e).cells = (Nd.avx d).cells
      intro hlt2
      rcases hnx with ⟨_, h⟩ | ⟨h, _⟩
      · rw [h]
      · exact absurd (List.eq_nil_of_length_eq_zero (by omega)) h
  · rw [hj3 hendj]
    refine W.seq ?_
    refine W.seq ?_
    refine W.region ?_
    refine W.q (Ev.move (.t rfl)) rfl ?_
    refine W.q (Ev.move (.t rfl)) rfl ?_
    first | refine W.q (Ev.lensl (.t rfl) Try.underlying22) rfl ?_ | refine W.q (Ev.lenar (i := 0) (.t rfl) rfl Try.underlying22) rfl ?_ | refine W.q (Ev.lenar (i := 1) (.t rfl) rfl Try.underlying22) rfl ?_ | refine W.q (Ev.lenar (i := 2) (.t rfl) rfl Try.underlying22) rfl ?_ | refine W.q (Ev.lenar (i := 3) (.t rfl) rfl Try.underlying22) rfl ?_
    refine W.q (Ev.lti (.t rfl) (.t rfl)) rfl ?_
    refine W.nil ?_
    refine W.then ?_
    refine W.is (t := 11) (g := true) (av' := .lit (.bool false)) rfl (congrArg (fun b => AV.lit (.bool b)) (by simp; omega)) ?_
    refine W.condF (.t rfl) ?_
    refine W.exit ?_
    refine W.then_exit ?_
    refine W.then_exit ?_
    refine W.blk_hit ?_
    refine W.then ?_
    refine W.seq ?_
    refine W.region ?_
    first | refine W.q (Ev.lden (.t rfl) ag35 ty35 rfl rfl) rfl ?_ | refine W.q (Ev.ldbn 0 (.t rfl) rfl ag35 ty35 rfl) rfl ?_ | refine W.q (Ev.ldbn 1 (.t rfl) rfl ag35 ty35 rfl) rfl ?_ | refine W.q (Ev.ldbn 2 (.t rfl) rfl ag35 ty35 rfl) rfl ?_ | refine W.q (Ev.ldbn 3 (.t rfl) rfl ag35 ty35 rfl) rfl ?_
    refine W.q (Ev.move (.t rfl)) rfl ?_
    first | refine W.q (Ev.lensl (.t rfl) Try.underlying22) rfl ?_ | refine W.q (Ev.lenar (i := 0) (.t rfl) rfl Try.underlying22) rfl ?_ | refine W.q (Ev.lenar (i := 1) (.t rfl) rfl Try.underlying22) rfl ?_ | refine W.q (Ev.lenar (i := 2) (.t rfl) rfl Try.underlying22) rfl ?_ | refine W.q (Ev.lenar (i := 3) (.t rfl) rfl Try.underlying22) rfl ?_
    refine W.q (Ev.gti (.t rfl) .k) rfl ?_
    first | refine W.stb 0 (.t rfl) (.t rfl) rfl ty35 rfl rfl rfl ?_ | refine W.stb 1 (.t rfl) (.t rfl) rfl ty35 rfl rfl rfl ?_ | refine W.stb 2 (.t rfl) (.t rfl) rfl ty35 rfl rfl rfl ?_ | refine W.stb 3 (.t rfl) (.t rfl) rfl ty35 rfl rfl rfl ?_
    refine W.q (Ev.assign (.t rfl)) rfl ?_
    refine W.nil ?_
    refine W.then ?_
    refine W.ret ?_
    refine W.retn (M' := []) (D := _) (rs := [.cell 4 35, .tmp 5]) (avs := [_, _]) Try.results17 ⟨⟨_, _, _, rfl, (.tail _ (.head _)), rfl, by funext w; exact ag35.run w, by funext w; exact ty35.size w⟩, rfl, trivial⟩ rfl (.refl _) ?_
    exact ⟨congrArg (fun b => AV.tup [Nd.avx d, .lit (.bool b)]) (by simp; omega), rfl⟩

end WNodeAt

end Go.Proofs.Yteepllfbnoaiaaa
