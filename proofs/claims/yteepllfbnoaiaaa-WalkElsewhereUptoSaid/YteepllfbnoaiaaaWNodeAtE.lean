/-
  A node at any path, if there is one.
-/
import Derived.Test.YteepllfbnoaiaaaChange
import Derived.Test.YteepllfbnoaiaaaPick
import Derived.Test.YteepllfbnoaiaaaBase
set_option linter.unusedVariables false
set_option linter.unusedSimpArgs false
set_option maxRecDepth 100000
namespace Go.Proofs.Yteepllfbnoaiaaa
open Go.Vl

namespace WNodeAtE
theorem ty3 : Ty Try.prog 3 1 8 (.int .i64 0) := Ty.of (by kernel_rfl)
theorem ty9 : Ty Try.prog 9 1 16 (.string ⟨#[]⟩) := Ty.of (by kernel_rfl)
theorem ty25 : Ty Try.prog 25 1 24 (.slice none 0 0) := Ty.of (by kernel_rfl)
theorem ty33 : Ty Try.prog 33 1 24 (.slice none 0 0) := Ty.of (by kernel_rfl)
theorem ty35 : Ty Try.prog 35 4 80 (.agg #[.string ⟨#[]⟩, .slice none 0 0, .string ⟨#[]⟩, .slice none 0 0]) := Ty.of (by kernel_rfl)
theorem ag3 : IsAgg Try.prog 3 false := ⟨_, Try.underlying3, rfl⟩
theorem ag25 : IsAgg Try.prog 25 false := ⟨_, Try.underlying25, rfl⟩
theorem ag35 : IsAgg Try.prog 35 true := ⟨_, Try.underlying35, rfl⟩
theorem fa35_3 : FieldAt Try.prog 35 3 3 1 false := ⟨_, _, Try.underlying35, rfl, rfl, ty25.size, ag25, by decide⟩
theorem st35 : StructAt Try.prog 35 [(0, 1), (1, 1), (2, 1), (3, 1)] := ⟨_, Try.underlying35, rfl, ty9.size, rfl, ty33.size, rfl, ty9.size, rfl, ty25.size, trivial⟩
theorem c_nodeAtE (l : List Nd) (p : List Int) (hl : l.length ≤ 1099511627776) (hpl : p.length ≤ 1099511627776) : FnC Try.prog 17 [.sl 4 (l.map Nd.av), .sl 1 (p.map AV.int)] [] (fun r M => ∃ q0 q1 q2 q3 bb, r = .tup [.agg [q0, q1, q2, q3], .bool bb] ∧ M = []) :=  by
  refine FnC.mk Try.func17 (by kernel_rfl) rfl Try.ntmps17 rfl (fun w0 F => ?_)
  have hpm : (p.map AV.int).length = p.length := List.length_map ..
  refine W.seq ?_
  refine W.region ?_
  refine W.alloc ty35 rfl rfl ?_
  intro b4
  refine W.q (Ev.assign .k) rfl ?_
  refine W.nil ?_
  refine W.then ?_
  refine W.seq ?_
  refine W.region ?_
  refine W.alloc ty35 rfl rfl ?_
  intro b6
  refine W.nil ?_
  refine W.then ?_
  refine W.seq ?_
  refine W.seq ?_
  refine W.region ?_
  refine W.q (Ev.assign .k) rfl ?_
  refine W.nil ?_
  refine W.then ?_
  refine W.block ?_
  refine W.loop (D := []) (ι := Nat × List Nd × List AV) (fun z => [(7, true, .int (z.1 : Int)), (0, true, .sl 4 (z.2.1.map Nd.av)), (1, true, .sl 1 (p.map AV.int)), (6, true, .lit (.pointer (some ⟨b6, 0, none⟩))), (4, true, .lit (.pointer (some ⟨b4, 0, none⟩)))]) (fun z => [.box b6 35 z.2.2, .box b4 35 [AV.lit (.string ⟨#[]⟩), .lit (.slice none 0 0), .lit (.string ⟨#[]⟩), .lit (.slice none 0 0)]]) (fun z => z.1 ≤ p.length ∧ z.2.2.length = 4) (fun z => p.length - z.1) (0, l, [AV.lit (.string ⟨#[]⟩), .lit (.slice none 0 0), .lit (.string ⟨#[]⟩), .lit (.slice none 0 0)]) ⟨rfl, rfl, rfl, rfl, rfl, trivial⟩ (.refl _) ⟨Nat.zero_le _, rfl⟩ ?_
  rintro ⟨j, l2, cs⟩ ⟨hj1, hj4⟩
  dsimp only at hj1 hj4 ⊢
  obtain ⟨q0, q1, q2, q3, rfl⟩ : ∃ q0 q1 q2 q3, cs = [q0, q1, q2, q3] := by
    match cs, hj4 with
    | [q0, q1, q2, q3], _ => exact ⟨q0, q1, q2, q3, rfl⟩
  rcases (show j < p.length ∨ j = p.length from by omega) with hltj | hendj
  · have hgp := getD_map p j hltj
    have hl2 : (l2.map Nd.av).length = l2.length := List.length_map ..
    generalize p.getD j 0 = k at hgp
    refine W.seq ?_
    refine W.seq ?_
    refine W.region ?_
    refine W.q (Ev.move (.t rfl)) rfl ?_
    refine W.q (Ev.move (.t rfl)) rfl ?_
    first | refine W.q (Ev.lensl (.t rfl) Try.underlying22) rfl ?_ | refine W.q (Ev.lenar (i := 0) (.t rfl) rfl Try.underlying22) rfl ?_ | refine W.q (Ev.lenar (i := 1) (.t rfl) rfl Try.underlying22) rfl ?_ | refine W.q (Ev.lenar (i := 2) (.t rfl) rfl Try.underlying22) rfl ?_ | refine W.q (Ev.lenar (i := 3) (.t rfl) rfl Try.underlying22) rfl ?_
    refine W.q (Ev.lti (.t rfl) (.t rfl)) rfl ?_
    refine W.nil ?_
    refine W.then ?_
    refine W.is (t := 11) (g := true) (av' := .lit (.bool true)) rfl (congrArg (fun b => AV.lit (.bool b)) (by simp; omega)) ?_
    refine W.condT (.t rfl) ?_
    refine W.skip ?_
    refine W.then ?_
    refine W.seq ?_
    refine W.block ?_
    refine W.seq ?_
    refine W.seq ?_
    refine W.region ?_
    refine W.q (Ev.move (.t rfl)) rfl ?_
    refine W.q (Ev.move (.t rfl)) rfl ?_
    refine W.q (Ev.at (E := 3) (.t rfl) (.t rfl) Try.underlying22 ty3 (fun _ => ⟨by omega, hgp⟩) rfl rfl) rfl ?_
    first | refine W.q (Ev.lde1 (.t rfl) ag3) rfl ?_ | refine W.q (Ev.ldb1 0 (.t rfl) rfl ag3 rfl) rfl ?_ | refine W.q (Ev.ldb1 1 (.t rfl) rfl ag3 rfl) rfl ?_ | refine W.q (Ev.ldb1 2 (.t rfl) rfl ag3 rfl) rfl ?_ | refine W.q (Ev.ldb1 3 (.t rfl) rfl ag3 rfl) rfl ?_
    refine W.q (Ev.lti (.t rfl) .k) rfl ?_
    refine W.q (Ev.move (.t rfl)) rfl ?_
    refine W.qgF rfl rfl (Ev.move (.t rfl)) rfl ?_
    refine W.qgF rfl rfl (Ev.move (.t rfl)) rfl ?_
    refine W.qgF rfl rfl (Ev.at (E := 3) (.c rfl) (.c rfl) Try.underlying22 ty3 (fun _ => ⟨by omega, hgp⟩) rfl rfl) rfl ?_
    first | refine W.qgF rfl rfl (Ev.lde1 (.c rfl) ag3) rfl ?_ | refine W.qgF rfl rfl (Ev.ldb1 0 (.c rfl) rfl ag3 rfl) rfl ?_ | refine W.qgF rfl rfl (Ev.ldb1 1 (.c rfl) rfl ag3 rfl) rfl ?_ | refine W.qgF rfl rfl (Ev.ldb1 2 (.c rfl) rfl ag3 rfl) rfl ?_ | refine W.qgF rfl rfl (Ev.ldb1 3 (.c rfl) rfl ag3 rfl) rfl ?_
    refine W.qgF rfl rfl (Ev.move (.t rfl)) rfl ?_
    first | refine W.qgF rfl rfl (Ev.lensl (.c rfl) Try.underlying25) rfl ?_ | refine W.qgF rfl rfl (Ev.lenar (i := 0) (.c rfl) rfl Try.underlying25) rfl ?_ | refine W.qgF rfl rfl (Ev.lenar (i := 1) (.c rfl) rfl Try.underlying25) rfl ?_ | refine W.qgF rfl rfl (Ev.lenar (i := 2) (.c rfl) rfl Try.underlying25) rfl ?_ | refine W.qgF rfl rfl (Ev.lenar (i := 3) (.c rfl) rfl Try.underlying25) rfl ?_
    refine W.qgF rfl rfl (Ev.gei (.c rfl) (.c rfl)) rfl ?_
    refine W.q (Ev.or (.t rfl) ⟨_, _, rfl, rfl, by first | (simp; done) | (intro hg_ hp_; simp [hp_]; done) | (simp <;> omega; done) | (simp_all; done) | grind⟩) rfl ?_
    refine W.nil ?_
    refine W.then ?_
    refine W.cond (.t rfl) (fun hc_t27 => ?_) (fun hc_t27 => ?_)
    · refine W.seq ?_
      refine W.region ?_
      refine W.q (Ev.build ty35 st35 rfl (fun hg => rfl)) rfl ?_
      first | refine W.stb 0 (.t rfl) (.t rfl) rfl ty35 rfl rfl rfl ?_ | refine W.stb 1 (.t rfl) (.t rfl) rfl ty35 rfl rfl rfl ?_ | refine W.stb 2 (.t rfl) (.t rfl) rfl ty35 rfl rfl rfl ?_ | refine W.stb 3 (.t rfl) (.t rfl) rfl ty35 rfl rfl rfl ?_
      refine W.q (Ev.assign .k) rfl ?_
      refine W.nil ?_
      refine W.then ?_
      refine W.ret ?_
      refine W.then_ret ?_
      refine W.blk_ret ?_
      refine W.then_ret ?_
      refine W.then_ret ?_
      refine W.blk_ret ?_
      refine W.then_ret ?_
      refine W.retn (M' := []) (D := _) (rs := [.cell 4 35, .tmp 5]) (avs := [_, _]) Try.results17 ⟨⟨_, _, _, rfl, by repeat (first | exact List.mem_cons_self | apply List.mem_cons_of_mem), rfl, by funext w; exact ag35.run w, by funext w; exact ty35.size w⟩, rfl, trivial⟩ rfl (.refl _) ?_
      exact ⟨_, _, _, _, _, rfl, rfl⟩
    · have h27 : 0 ≤ k ∧ k.toNat < l2.length := by simp at hc_t27; omega
      have hga := Nd.at_av l2 k.toNat h27.2
      generalize l2.getD k.toNat Nd.dflt = e at hga
      refine W.skip ?_
      refine W.then ?_
      refine W.seq ?_
      refine W.region ?_
      refine W.q (Ev.move (.t rfl)) rfl ?_
      refine W.q (Ev.move (.t rfl)) rfl ?_
      refine W.q (Ev.move (.t rfl)) rfl ?_
      refine W.q (Ev.at (E := 3) (.t rfl) (.t rfl) Try.underlying22 ty3 (fun _ => ⟨by omega, hgp⟩) rfl rfl) rfl ?_
      first | refine W.q (Ev.lde1 (.t rfl) ag3) rfl ?_ | refine W.q (Ev.ldb1 0 (.t rfl) rfl ag3 rfl) rfl ?_ | refine W.q (Ev.ldb1 1 (.t rfl) rfl ag3 rfl) rfl ?_ | refine W.q (Ev.ldb1 2 (.t rfl) rfl ag3 rfl) rfl ?_ | refine W.q (Ev.ldb1 3 (.t rfl) rfl ag3 rfl) rfl ?_
      refine W.q (Ev.at (E := 35) (.t rfl) (.t rfl) Try.underlying25 ty35 (fun _ => ⟨h27.1, hga⟩) rfl rfl) rfl ?_
      first | refine W.q (Ev.lden (.t rfl) ag35 ty35 rfl rfl) rfl ?_ | refine W.q (Ev.ldbn 0 (.t rfl) rfl ag35 ty35 rfl) rfl ?_ | refine W.q (Ev.ldbn 1 (.t rfl) rfl ag35 ty35 rfl) rfl ?_ | refine W.q (Ev.ldbn 2 (.t rfl) rfl ag35 ty35 rfl) rfl ?_ | refine W.q (Ev.ldbn 3 (.t rfl) rfl ag35 ty35 rfl) rfl ?_
      first | refine W.stb 0 (.t rfl) (.t rfl) rfl ty35 rfl rfl rfl ?_ | refine W.stb 1 (.t rfl) (.t rfl) rfl ty35 rfl rfl rfl ?_ | refine W.stb 2 (.t rfl) (.t rfl) rfl ty35 rfl rfl rfl ?_ | refine W.stb 3 (.t rfl) (.t rfl) rfl ty35 rfl rfl rfl ?_
      refine W.nil ?_
      refine W.then ?_
      refine W.region ?_
      first | refine W.q (Ev.fae (.t rfl) fa35_3 rfl) rfl ?_ | refine W.q (Ev.fab (.t rfl) fa35_3) rfl ?_ | refine W.q (Ev.faa (.t rfl) fa35_3) rfl ?_
      first | refine W.q (Ev.lde1 (.t rfl) ag25) rfl ?_ | refine W.q (Ev.ldb1 0 (.t rfl) rfl ag25 rfl) rfl ?_ | refine W.q (Ev.ldb1 1 (.t rfl) rfl ag25 rfl) rfl ?_ | refine W.q (Ev.ldb1 2 (.t rfl) rfl ag25 rfl) rfl ?_ | refine W.q (Ev.ldb1 3 (.t rfl) rfl ag25 rfl) rfl ?_
      refine W.q (Ev.assign (.t rfl)) rfl ?_
      refine W.nil ?_
      refine W.blk_normal ?_
      refine W.then ?_
      refine W.region ?_
      refine W.q (Ev.move (.t rfl)) rfl ?_
      first | refine W.q (Ev.add (.t rfl) .k (fun _ => by omega)) rfl ?_ | refine W.q (Ev.addw (.t rfl) .k) rfl ?_
      refine W.q (Ev.assign (.t rfl)) rfl ?_
      refine W.nil ?_
      refine W.then ?_
      refine W.reach (D := []) (j + 1, e.parts, (Nd.avx e).cells) ⟨rfl, rfl, rfl, rfl, rfl, trivial⟩ (.refl _) ⟨⟨by show j + 1 ≤ _; omega, rfl⟩, by show _ - (j + 1) < _; omega⟩
  · skip
    refine W.seq ?_
    refine W.seq ?_
    refine W.region ?_
    refine W.q (Ev.move (.t rfl)) rfl ?_
    refine W.q (Ev.move (.t rfl)) rfl ?_
    first | refine W.q (Ev.lensl (.t rfl) Try.underlying22) rfl ?_ | refine W.q (Ev.lenar (i := 0) (.t rfl) rfl Try.underlying22) rfl ?_ | refine W.q (Ev.lenar (i := 1) (.t rfl) rfl Try.underlying22) rfl ?_ | refine W.q (Ev.lenar (i := 2) (.t rfl) rfl Try.underlying22) rfl ?_ | refine W.q (Ev.lenar (i := 3) (.t rfl) rfl Try.underlying22) rfl ?_
    refine W.q (Ev.lti (.t rfl) (.t rfl)) rfl ?_
    refine W.nil ?_
    refine W.then ?_
    refine W.is (t := 11) (g := true) (av' := .lit (.bool false)) rfl (congrArg (fun b => AV.lit (.bool b)) (by simp; omega)) ?_
    refine W.condF (.t rfl) ?_
    refine W.exit ?_
    refine W.then_exit ?_
    refine W.then_exit ?_
    refine W.blk_hit ?_
    refine W.then ?_
    refine W.seq ?_
    refine W.region ?_
    first | refine W.q (Ev.lden (.t rfl) ag35 ty35 rfl rfl) rfl ?_ | refine W.q (Ev.ldbn 0 (.t rfl) rfl ag35 ty35 rfl) rfl ?_ | refine W.q (Ev.ldbn 1 (.t rfl) rfl ag35 ty35 rfl) rfl ?_ | refine W.q (Ev.ldbn 2 (.t rfl) rfl ag35 ty35 rfl) rfl ?_ | refine W.q (Ev.ldbn 3 (.t rfl) rfl ag35 ty35 rfl) rfl ?_
    refine W.q (Ev.move (.t rfl)) rfl ?_
    first | refine W.q (Ev.lensl (.t rfl) Try.underlying22) rfl ?_ | refine W.q (Ev.lenar (i := 0) (.t rfl) rfl Try.underlying22) rfl ?_ | refine W.q (Ev.lenar (i := 1) (.t rfl) rfl Try.underlying22) rfl ?_ | refine W.q (Ev.lenar (i := 2) (.t rfl) rfl Try.underlying22) rfl ?_ | refine W.q (Ev.lenar (i := 3) (.t rfl) rfl Try.underlying22) rfl ?_
    refine W.q (Ev.gti (.t rfl) .k) rfl ?_
    first | refine W.stb 0 (.t rfl) (.t rfl) rfl ty35 rfl rfl rfl ?_ | refine W.stb 1 (.t rfl) (.t rfl) rfl ty35 rfl rfl rfl ?_ | refine W.stb 2 (.t rfl) (.t rfl) rfl ty35 rfl rfl rfl ?_ | refine W.stb 3 (.t rfl) (.t rfl) rfl ty35 rfl rfl rfl ?_
    refine W.q (Ev.assign (.t rfl)) rfl ?_
    refine W.nil ?_
    refine W.then ?_
    refine W.ret ?_
    refine W.retn (M' := []) (D := _) (rs := [.cell 4 35, .tmp 5]) (avs := [_, _]) Try.results17 ⟨⟨_, _, _, rfl, by repeat (first | exact List.mem_cons_self | apply List.mem_cons_of_mem), rfl, by funext w; exact ag35.run w, by funext w; exact ty35.size w⟩, rfl, trivial⟩ rfl (.refl _) ?_
    exact ⟨_, _, _, _, _, rfl, rfl⟩

end WNodeAtE

end Go.Proofs.Yteepllfbnoaiaaa
