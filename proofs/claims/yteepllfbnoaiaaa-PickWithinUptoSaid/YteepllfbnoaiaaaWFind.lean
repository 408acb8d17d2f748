/-
  Elements that are found.
-/
import Derived.Test.YteepllfbnoaiaaaPick
import Derived.Test.YteepllfbnoaiaaaWName
import Derived.Test.YteepllfbnoaiaaaWAttr
import Derived.Test.YteepllfbnoaiaaaWClone
import Derived.Test.YteepllfbnoaiaaaWFits
import Derived.Test.YteepllfbnoaiaaaWCheck
set_option linter.unusedVariables false
set_option linter.unusedSimpArgs false
set_option maxRecDepth 100000
namespace Go.Proofs.Yteepllfbnoaiaaa
open Go.Vl

namespace WFind
theorem ty3 : Ty Try.prog 3 1 8 (.int .i64 0) := Ty.of (by kernel_rfl)
theorem ty4 : Ty Try.prog 4 1 1 (.bool false) := Ty.of (by kernel_rfl)
theorem ty9 : Ty Try.prog 9 1 16 (.string ⟨#[]⟩) := Ty.of (by kernel_rfl)
theorem ty22 : Ty Try.prog 22 1 24 (.slice none 0 0) := Ty.of (by kernel_rfl)
theorem ty23 : Ty Try.prog 23 1 24 (.slice none 0 0) := Ty.of (by kernel_rfl)
theorem ty25 : Ty Try.prog 25 1 24 (.slice none 0 0) := Ty.of (by kernel_rfl)
theorem ty28 : Ty Try.prog 28 1 24 (.slice none 0 0) := Ty.of (by kernel_rfl)
theorem ty32 : Ty Try.prog 32 3 40 (.agg #[.string ⟨#[]⟩, .string ⟨#[]⟩, .bool false]) := Ty.of (by kernel_rfl)
theorem ty35 : Ty Try.prog 35 4 80 (.agg #[.string ⟨#[]⟩, .slice none 0 0, .string ⟨#[]⟩, .slice none 0 0]) := Ty.of (by kernel_rfl)
theorem ty102 : Ty Try.prog 102 2 48 (.agg #[.slice none 0 0, .slice none 0 0]) := Ty.of (by kernel_rfl)
theorem ag4 : IsAgg Try.prog 4 false := ⟨_, Try.underlying4, rfl⟩
theorem ag9 : IsAgg Try.prog 9 false := ⟨_, Try.underlying9, rfl⟩
theorem ag23 : IsAgg Try.prog 23 false := ⟨_, Try.underlying23, rfl⟩
theorem ag25 : IsAgg Try.prog 25 false := ⟨_, Try.underlying25, rfl⟩
theorem ag28 : IsAgg Try.prog 28 false := ⟨_, Try.underlying28, rfl⟩
theorem ag32 : IsAgg Try.prog 32 true := ⟨_, Try.underlying32, rfl⟩
theorem ag35 : IsAgg Try.prog 35 true := ⟨_, Try.underlying35, rfl⟩
theorem fa32_2 : FieldAt Try.prog 32 2 2 1 false := ⟨_, _, Try.underlying32, rfl, rfl, ty4.size, ag4, by decide⟩
theorem fa35_0 : FieldAt Try.prog 35 0 0 1 false := ⟨_, _, Try.underlying35, rfl, rfl, ty9.size, ag9, by decide⟩
theorem fa35_3 : FieldAt Try.prog 35 3 3 1 false := ⟨_, _, Try.underlying35, rfl, rfl, ty25.size, ag25, by decide⟩
theorem fa102_0 : FieldAt Try.prog 102 0 0 1 false := ⟨_, _, Try.underlying102, rfl, rfl, ty23.size, ag23, by decide⟩
theorem fa102_1 : FieldAt Try.prog 102 1 1 1 false := ⟨_, _, Try.underlying102, rfl, rfl, ty28.size, ag28, by decide⟩
theorem st102 : StructAt Try.prog 102 [(0, 1), (1, 1)] := ⟨_, Try.underlying102, rfl, ty23.size, rfl, ty28.size, trivial⟩
theorem ni22 : NotInt Try.prog 22 := .inl ⟨_, Try.underlying22⟩
theorem ni28 : NotInt Try.prog 28 := .inl ⟨_, Try.underlying28⟩
theorem c_walk_step (ps : List Pk) (hp0 : 0 < ps.length) (hp1 : ps.length ≤ 10) (n : Nat) (hn : n ≤ 16777216) (ih : ∀ (b : Nat) (l : List Nd) (path : List Int) (r w : Nat → Bool) (fo : List (List Int)) (v vr vw : Value), Nd.szs l < n → path.length + Nd.szs l ≤ 33554432 → fo.length + Nd.szs l ≤ 33554432 → FnC Try.prog 52 [.lit (.pointer (some ⟨b, 0, none⟩)), .sl 4 (l.map Nd.av), pav path, .lit vr, .lit vw] [.box b 102 [.sl 3 (ps.map kav), .lit v], .arr v 22 1 (fo.map pav), .arr vr 4 1 (rowB ps.length r), .arr vw 4 1 (rowB ps.length w)] (fun rr M => rr = .tup [] ∧ ∃ v', M = [.box b 102 [.sl 3 (ps.map kav), .lit v'], .arr v' 22 1 ((fo ++ Pk.fnds ps 0 l path r w).map pav)])) (b : Nat) (l : List Nd) (path : List Int) (r w : Nat → Bool) (fo : List (List Int)) (v vr vw : Value) (hl : Nd.szs l = n) (hpa : path.length + n ≤ 33554432) (hfo : fo.length + n ≤ 33554432) : FnC Try.prog 52 [.lit (.pointer (some ⟨b, 0, none⟩)), .sl 4 (l.map Nd.av), pav path, .lit vr, .lit vw] [.box b 102 [.sl 3 (ps.map kav), .lit v], .arr v 22 1 (fo.map pav), .arr vr 4 1 (rowB ps.length r), .arr vw 4 1 (rowB ps.length w)] (fun rr M => rr = .tup [] ∧ ∃ v', M = [.box b 102 [.sl 3 (ps.map kav), .lit v'], .arr v' 22 1 ((fo ++ Pk.fnds ps 0 l path r w).map pav)]) :=  by
  refine FnC.mk Try.func52 (by kernel_rfl) rfl Try.ntmps52 rfl (fun w0 F => ?_)
  have hll : (l.map Nd.av).length = l.length := List.length_map ..
  have hsl := Nd.szs_len l
  have hplen : (ps.map kav).length = ps.length := List.length_map ..
  refine W.freezeA (M1 := [_, _, _]) (M2 := [_, _, _]) (D := []) (v := vr) (L' := [(3, true, .sl 1 (rowB ps.length r))]) (List.perm_middle (l₁ := [_, _])) ⟨⟨_, rfl, .one .hit⟩, trivial⟩ (FrzMs.refl _) ?_
  refine W.freezeA (M1 := [_, _]) (M2 := [_, _]) (D := []) (v := vw) (L' := [(4, true, .sl 1 (rowB ps.length w))]) (List.perm_middle (l₁ := [_, _])) ⟨⟨_, rfl, .one .hit⟩, trivial⟩ (FrzMs.refl _) ?_
  refine W.seq ?_
  refine W.region ?_
  refine W.q (Ev.move (.t rfl)) rfl ?_
  first | refine W.q (Ev.lensl (.t rfl) Try.underlying25) rfl ?_ | refine W.q (Ev.lenar (i := 0) (.t rfl) rfl Try.underlying25) rfl ?_ | refine W.q (Ev.lenar (i := 1) (.t rfl) rfl Try.underlying25) rfl ?_ | refine W.q (Ev.lenar (i := 2) (.t rfl) rfl Try.underlying25) rfl ?_ | refine W.q (Ev.lenar (i := 3) (.t rfl) rfl Try.underlying25) rfl ?_ | refine W.q (Ev.lenar (i := 4) (.t rfl) rfl Try.underlying25) rfl ?_ | refine W.q (Ev.lenar (i := 5) (.t rfl) rfl Try.underlying25) rfl ?_
  refine W.q (Ev.move .k) rfl ?_
  refine W.nil ?_
  refine W.then ?_
  refine W.block ?_
  refine W.loop (D := []) (ι := Nat × Value) (fun z => [(20, true, .int (z.1 : Int)), (19, true, .int ((l.map Nd.av).length : Int)), (18, true, .sl 4 (l.map Nd.av)), (0, true, .lit (.pointer (some ⟨b, 0, none⟩))), (2, true, pav path), (3, true, .sl 1 (rowB ps.length r)), (4, true, .sl 1 (rowB ps.length w))]) (fun z => [.box b 102 [.sl 3 (ps.map kav), .lit z.2], .arr z.2 22 1 ((fo ++ Pk.fnds ps 0 (l.take z.1) path r w).map pav)]) (fun z => z.1 ≤ l.length) (fun z => l.length - z.1) (0, v) ⟨rfl, rfl, rfl, rfl, rfl, rfl, rfl, trivial⟩ (by simp only [List.take_zero, Pk.fnds, List.append_nil]; exact .refl _) (Nat.zero_le _) ?_
  rintro ⟨i, v1⟩ hi
  dsimp only at hi ⊢
  rcases (show i < l.length ∨ i = l.length from by omega) with hlt | hend
  · have hga := Nd.at_av l i hlt
    have hsz := Nd.at_sz l i hlt
    generalize hd : l.getD i Nd.dflt = d at hga hsz
    have hse := Nd.sz_eq d
    have hsp := Nd.szs_len d.parts
    have hat : (d.attrs.map dav).length = d.attrs.length := List.length_map ..
    have hsn := Pk.fnds_snoc ps path r w l i hlt
    rw [hd] at hsn
    have hfl := Pk.fnds_len ps (l.take i) 0 path r w
    have hft : Nd.szs (l.take i) + d.sz ≤ Nd.szs l := by have h1 := Nd.szs_append (l.take i) (l.drop i); rw [List.take_append_drop, drop_getDG Nd.dflt l i hlt, hd, Nd.szs] at h1; omega
    refine W.seq ?_
    refine W.region ?_
    refine W.q (Ev.lti (.t rfl) (.t rfl)) rfl ?_
    refine W.nil ?_
    refine W.then ?_
    refine W.seq ?_
    refine W.is (t := 21) (g := true) (av' := .lit (.bool true)) rfl (congrArg (fun b => AV.lit (.bool b)) (by simp; omega)) ?_
    refine W.condT (.t rfl) ?_
    refine W.skip ?_
    refine W.then ?_
    refine W.seq ?_
    refine W.block ?_
    refine W.seq ?_
    refine W.region ?_
    refine W.q (Ev.move (.t rfl)) rfl ?_
    refine W.q (Ev.at (E := 35) (.t rfl) (.t rfl) Try.underlying25 ty35 (fun _ => ⟨by omega, hga⟩) rfl rfl) rfl ?_
    first | refine W.q (Ev.lden (.t rfl) ag35 ty35 rfl rfl) rfl ?_ | refine W.q (Ev.ldbn 0 (.t rfl) rfl ag35 ty35 rfl) rfl ?_ | refine W.q (Ev.ldbn 1 (.t rfl) rfl ag35 ty35 rfl) rfl ?_ | refine W.q (Ev.ldbn 2 (.t rfl) rfl ag35 ty35 rfl) rfl ?_ | refine W.q (Ev.ldbn 3 (.t rfl) rfl ag35 ty35 rfl) rfl ?_ | refine W.q (Ev.ldbn 4 (.t rfl) rfl ag35 ty35 rfl) rfl ?_ | refine W.q (Ev.ldbn 5 (.t rfl) rfl ag35 ty35 rfl) rfl ?_
    refine W.alloc ty35 rfl rfl ?_
    intro b11
    refine W.q (Ev.assign (.t rfl)) rfl ?_
    first | refine W.stb 0 (.t rfl) (.t rfl) rfl ty35 rfl rfl rfl ?_ | refine W.stb 1 (.t rfl) (.t rfl) rfl ty35 rfl rfl rfl ?_ | refine W.stb 2 (.t rfl) (.t rfl) rfl ty35 rfl rfl rfl ?_ | refine W.stb 3 (.t rfl) (.t rfl) rfl ty35 rfl rfl rfl ?_ | refine W.stb 4 (.t rfl) (.t rfl) rfl ty35 rfl rfl rfl ?_ | refine W.stb 5 (.t rfl) (.t rfl) rfl ty35 rfl rfl rfl ?_
    refine W.nil ?_
    refine W.then ?_
    refine W.seq ?_
    refine W.seq ?_
    refine W.region ?_
    first | refine W.q (Ev.fae (.t rfl) fa35_0 rfl) rfl ?_ | refine W.q (Ev.fab (.t rfl) fa35_0) rfl ?_ | refine W.q (Ev.faa (.t rfl) fa35_0) rfl ?_
    first | refine W.q (Ev.lde1 (.t rfl) ag9) rfl ?_ | refine W.q (Ev.ldb1 0 (.t rfl) rfl ag9 rfl) rfl ?_ | refine W.q (Ev.ldb1 1 (.t rfl) rfl ag9 rfl) rfl ?_ | refine W.q (Ev.ldb1 2 (.t rfl) rfl ag9 rfl) rfl ?_ | refine W.q (Ev.ldb1 3 (.t rfl) rfl ag9 rfl) rfl ?_ | refine W.q (Ev.ldb1 4 (.t rfl) rfl ag9 rfl) rfl ?_ | refine W.q (Ev.ldb1 5 (.t rfl) rfl ag9 rfl) rfl ?_
    refine W.q (Ev.eqs (.t rfl) .k) rfl ?_
    refine W.nil ?_
    refine W.then ?_
    refine W.cond (.t rfl) (fun hc_t27 => ?_) (fun hc_t27 => ?_)
    · have hnm : d.name = [] := beq_iff_eq.1 hc_t27
      rw [if_pos hnm, List.append_nil] at hsn
      refine W.exit ?_
      refine W.then_exit ?_
      refine W.blk_hit ?_
      refine W.then ?_
      refine W.region ?_
      first | refine W.q (Ev.add (.t rfl) .k (fun _ => by omega)) rfl ?_ | refine W.q (Ev.addw (.t rfl) .k) rfl ?_
      refine W.q (Ev.move (.t rfl)) rfl ?_
      refine W.nil ?_
      refine W.then ?_
      first
      | (refine W.reach (D := [_]) (i + 1, _) ⟨rfl, rfl, rfl, rfl, rfl, rfl, rfl, trivial⟩ (by rw [hsn]; exact List.perm_append_comm (l₁ := [_])) ⟨by show i + 1 ≤ _; omega, by show _ - (i + 1) < _; omega⟩)
      | (refine W.reach (D := [_]) (i + 1, _) ⟨rfl, rfl, rfl, rfl, rfl, rfl, rfl, trivial⟩ (by simp only [hsn, List.nil_append, List.append_assoc] <;> exact .refl _) ⟨by show i + 1 ≤ _; omega, by show _ - (i + 1) < _; omega⟩)
    · have hnm : d.name ≠ [] := by simpa using hc_t27
      rw [if_neg hnm] at hsn
      refine W.skip ?_
      refine W.then ?_
      refine W.seq ?_
      refine W.region ?_
      refine W.q (Ev.move (.t rfl)) rfl ?_
      refine W.call (WClone.c_CloneInt (path.map AV.int) (okc_ints path) (by rw [List.length_map]; omega)) ⟨(.t rfl), trivial⟩ (.refl _) rfl ?_
      rintro _ _ ⟨v29, rfl, rfl⟩
      refine W.q (Ev.move (.t rfl)) rfl ?_
      refine W.bs (es := [_]) Try.underlying22 ty3 ⟨rfl, (.t rfl), rfl, rfl, trivial⟩ rfl (by decide) rfl rfl ?_
      first | refine W.app 0 (.t rfl) rfl (.sl (.t rfl) (by simp [AV.okc, shV])) Try.underlying22 ni22 ty3 rfl rfl (by simp; omega) rfl ?_ | refine W.app 1 (.t rfl) rfl (.sl (.t rfl) (by simp [AV.okc, shV])) Try.underlying22 ni22 ty3 rfl rfl (by simp; omega) rfl ?_ | refine W.app 2 (.t rfl) rfl (.sl (.t rfl) (by simp [AV.okc, shV])) Try.underlying22 ni22 ty3 rfl rfl (by simp; omega) rfl ?_ | refine W.app 3 (.t rfl) rfl (.sl (.t rfl) (by simp [AV.okc, shV])) Try.underlying22 ni22 ty3 rfl rfl (by simp; omega) rfl ?_ | refine W.app 4 (.t rfl) rfl (.sl (.t rfl) (by simp [AV.okc, shV])) Try.underlying22 ni22 ty3 rfl rfl (by simp; omega) rfl ?_ | refine W.app 5 (.t rfl) rfl (.sl (.t rfl) (by simp [AV.okc, shV])) Try.underlying22 ni22 ty3 rfl rfl (by simp; omega) rfl ?_ | refine W.app 0 (.t rfl) rfl (.arr 0 (.t rfl) rfl (by simp [AV.okc, shV])) Try.underlying22 ni22 ty3 rfl rfl (by simp; omega) rfl ?_ | refine W.app 0 (.t rfl) rfl (.arr 1 (.t rfl) rfl (by simp [AV.okc, shV])) Try.underlying22 ni22 ty3 rfl rfl (by simp; omega) rfl ?_ | refine W.app 0 (.t rfl) rfl (.arr 2 (.t rfl) rfl (by simp [AV.okc, shV])) Try.underlying22 ni22 ty3 rfl rfl (by simp; omega) rfl ?_ | refine W.app 0 (.t rfl) rfl (.arr 3 (.t rfl) rfl (by simp [AV.okc, shV])) Try.underlying22 ni22 ty3 rfl rfl (by simp; omega) rfl ?_ | refine W.app 0 (.t rfl) rfl (.arr 4 (.t rfl) rfl (by simp [AV.okc, shV])) Try.underlying22 ni22 ty3 rfl rfl (by simp; omega) rfl ?_ | refine W.app 0 (.t rfl) rfl (.arr 5 (.t rfl) rfl (by simp [AV.okc, shV])) Try.underlying22 ni22 ty3 rfl rfl (by simp; omega) rfl ?_ | refine W.app 1 (.t rfl) rfl (.arr 0 (.t rfl) rfl (by simp [AV.okc, shV])) Try.underlying22 ni22 ty3 rfl rfl (by simp; omega) rfl ?_ | refine W.app 1 (.t rfl) rfl (.arr 1 (.t rfl) rfl (by simp [AV.okc, shV])) Try.underlying22 ni22 ty3 rfl rfl (by simp; omega) rfl ?_ | refine W.app 1 (.t rfl) rfl (.arr 2 (.t rfl) rfl (by simp [AV.okc, shV])) Try.underlying22 ni22 ty3 rfl rfl (by simp; omega) rfl ?_ | refine W.app 1 (.t rfl) rfl (.arr 3 (.t rfl) rfl (by simp [AV.okc, shV])) Try.underlying22 ni22 ty3 rfl rfl (by simp; omega) rfl ?_ | refine W.app 1 (.t rfl) rfl (.arr 4 (.t rfl) rfl (by simp [AV.okc, shV])) Try.underlying22 ni22 ty3 rfl rfl (by simp; omega) rfl ?_ | refine W.app 1 (.t rfl) rfl (.arr 5 (.t rfl) rfl (by simp [AV.okc, shV])) Try.underlying22 ni22 ty3 rfl rfl (by simp; omega) rfl ?_ | refine W.app 2 (.t rfl) rfl (.arr 0 (.t rfl) rfl (by simp [AV.okc, shV])) Try.underlying22 ni22 ty3 rfl rfl (by simp; omega) rfl ?_ | refine W.app 2 (.t rfl) rfl (.arr 1 (.t rfl) rfl (by simp [AV.okc, shV])) Try.underlying22 ni22 ty3 rfl rfl (by simp; omega) rfl ?_ | refine W.app 2 (.t rfl) rfl (.arr 2 (.t rfl) rfl (by simp [AV.okc, shV])) Try.underlying22 ni22 ty3 rfl rfl (by simp; omega) rfl ?_ | refine W.app 2 (.t rfl) rfl (.arr 3 (.t rfl) rfl (by simp [AV.okc, shV])) Try.underlying22 ni22 ty3 rfl rfl (by simp; omega) rfl ?_ | refine W.app 2 (.t rfl) rfl (.arr 4 (.t rfl) rfl (by simp [AV.okc, shV])) Try.underlying22 ni22 ty3 rfl rfl (by simp; omega) rfl ?_ | refine W.app 2 (.t rfl) rfl (.arr 5 (.t rfl) rfl (by simp [AV.okc, shV])) Try.underlying22 ni22 ty3 rfl rfl (by simp; omega) rfl ?_ | refine W.app 3 (.t rfl) rfl (.arr 0 (.t rfl) rfl (by simp [AV.okc, shV])) Try.underlying22 ni22 ty3 rfl rfl (by simp; omega) rfl ?_ | refine W.app 3 (.t rfl) rfl (.arr 1 (.t rfl) rfl (by simp [AV.okc, shV])) Try.underlying22 ni22 ty3 rfl rfl (by simp; omega) rfl ?_ | refine W.app 3 (.t rfl) rfl (.arr 2 (.t rfl) rfl (by simp [AV.okc, shV])) Try.underlying22 ni22 ty3 rfl rfl (by simp; omega) rfl ?_ | refine W.app 3 (.t rfl) rfl (.arr 3 (.t rfl) rfl (by simp [AV.okc, shV])) Try.underlying22 ni22 ty3 rfl rfl (by simp; omega) rfl ?_ | refine W.app 3 (.t rfl) rfl (.arr 4 (.t rfl) rfl (by simp [AV.okc, shV])) Try.underlying22 ni22 ty3 rfl rfl (by simp; omega) rfl ?_ | refine W.app 3 (.t rfl) rfl (.arr 5 (.t rfl) rfl (by simp [AV.okc, shV])) Try.underlying22 ni22 ty3 rfl rfl (by simp; omega) rfl ?_ | refine W.app 4 (.t rfl) rfl (.arr 0 (.t rfl) rfl (by simp [AV.okc, shV])) Try.underlying22 ni22 ty3 rfl rfl (by simp; omega) rfl ?_ | refine W.app 4 (.t rfl) rfl (.arr 1 (.t rfl) rfl (by simp [AV.okc, shV])) Try.underlying22 ni22 ty3 rfl rfl (by simp; omega) rfl ?_ | refine W.app 4 (.t rfl) rfl (.arr 2 (.t rfl) rfl (by simp [AV.okc, shV])) Try.underlying22 ni22 ty3 rfl rfl (by simp; omega) rfl ?_ | refine W.app 4 (.t rfl) rfl (.arr 3 (.t rfl) rfl (by simp [AV.okc, shV])) Try.underlying22 ni22 ty3 rfl rfl (by simp; omega) rfl ?_ | refine W.app 4 (.t rfl) rfl (.arr 4 (.t rfl) rfl (by simp [AV.okc, shV])) Try.underlying22 ni22 ty3 rfl rfl (by simp; omega) rfl ?_ | refine W.app 4 (.t rfl) rfl (.arr 5 (.t rfl) rfl (by simp [AV.okc, shV])) Try.underlying22 ni22 ty3 rfl rfl (by simp; omega) rfl ?_ | refine W.app 5 (.t rfl) rfl (.arr 0 (.t rfl) rfl (by simp [AV.okc, shV])) Try.underlying22 ni22 ty3 rfl rfl (by simp; omega) rfl ?_ | refine W.app 5 (.t rfl) rfl (.arr 1 (.t rfl) rfl (by simp [AV.okc, shV])) Try.underlying22 ni22 ty3 rfl rfl (by simp; omega) rfl ?_ | refine W.app 5 (.t rfl) rfl (.arr 2 (.t rfl) rfl (by simp [AV.okc, shV])) Try.underlying22 ni22 ty3 rfl rfl (by simp; omega) rfl ?_ | refine W.app 5 (.t rfl) rfl (.arr 3 (.t rfl) rfl (by simp [AV.okc, shV])) Try.underlying22 ni22 ty3 rfl rfl (by simp; omega) rfl ?_ | refine W.app 5 (.t rfl) rfl (.arr 4 (.t rfl) rfl (by simp [AV.okc, shV])) Try.underlying22 ni22 ty3 rfl rfl (by simp; omega) rfl ?_ | refine W.app 5 (.t rfl) rfl (.arr 5 (.t rfl) rfl (by simp [AV.okc, shV])) Try.underlying22 ni22 ty3 rfl rfl (by simp; omega) rfl ?_
      intro v32
      refine W.q (Ev.assign (.t rfl)) rfl ?_
      refine W.nil ?_
      refine W.freeze (M1 := [_, _, _]) (M2 := [_, _, _]) (D := []) (v := v32) (L' := [(12, true, .sl 1 (path.map AV.int ++ [AV.int (i : Int)])), (11, true, .lit (.pointer (some ⟨b11, 0, none⟩))), (20, true, .int (i : Int)), (19, true, .int ((l.map Nd.av).length : Int)), (18, true, .sl 4 (l.map Nd.av)), (0, true, .lit (.pointer (some ⟨b, 0, none⟩))), (2, true, pav path), (3, true, .sl 1 (rowB ps.length r)), (4, true, .sl 1 (rowB ps.length w))]) (.refl _) ⟨⟨_, rfl, .one .hit⟩, ⟨_, rfl, .one (.refl _)⟩, ⟨_, rfl, .one (.refl _)⟩, ⟨_, rfl, .one (.refl _)⟩, ⟨_, rfl, .one (.refl _)⟩, ⟨_, rfl, .one (.refl _)⟩, ⟨_, rfl, .one (.refl _)⟩, ⟨_, rfl, .one (.refl _)⟩, ⟨_, rfl, .one (.refl _)⟩, trivial⟩ (FrzMs.refl _) ?_
      refine W.is (t := 12) (g := true) (av' := pav (path ++ [(i : Int)])) rfl (congrArg (AV.sl 1) (by rw [List.map_append]; rfl)) ?_
      refine W.then ?_
      refine W.seq ?_
      refine W.drawnM (fun ee c => .box b11 35 [.str d.name, .sl 2 (d.attrs.map dav), .str d.text, .sl 4 (d.parts.map Nd.av)] :: .box b 102 [.sl 3 (ps.map kav), .lit v1] :: .arr v1 22 1 ((fo ++ Pk.fnds ps 0 (l.take i) path r w).map pav) :: (bif ee 5 then [.arr (c 5).2 4 1 (List.replicate (ps.map kav).length (.bool false))] else []) ++ (bif ee 7 then [.arr (c 7).2 4 1 (rowB ps.length w)] else [])) (c0 := ks0) (by kernel_rfl) (by kernel_rfl) rfl ?_
      refine DM.q (fun e c hk => (Ev.move (.t rfl))) rfl (fun _ _ => rfl) (fun c c_ h => by first | rfl) ?_
      refine DM.q (fun e c hk => (Ev.nilc (.t rfl))) rfl (fun _ _ => rfl) (fun c c_ h => by first | rfl) ?_
      first | refine DM.q (fun e c hk => (Ev.fae (.t rfl) fa102_0 rfl)) rfl (fun _ _ => rfl) (fun c c_ h => by first | rfl) ?_ | refine DM.q (fun e c hk => (Ev.fab (.t rfl) fa102_0)) rfl (fun _ _ => rfl) (fun c c_ h => by first | rfl) ?_ | refine DM.q (fun e c hk => (Ev.faa (.t rfl) fa102_0)) rfl (fun _ _ => rfl) (fun c c_ h => by first | rfl) ?_
      first | refine DM.q (fun e c hk => (Ev.lde1 (.t rfl) ag23)) rfl (fun _ _ => rfl) (fun c c_ h => by first | rfl) ?_ | refine DM.q (fun e c hk => (Ev.ldb1 0 (.t rfl) rfl ag23 rfl)) rfl (fun _ _ => rfl) (fun c c_ h => by first | rfl) ?_ | refine DM.q (fun e c hk => (Ev.ldb1 1 (.t rfl) rfl ag23 rfl)) rfl (fun _ _ => rfl) (fun c c_ h => by first | rfl) ?_ | refine DM.q (fun e c hk => (Ev.ldb1 2 (.t rfl) rfl ag23 rfl)) rfl (fun _ _ => rfl) (fun c c_ h => by first | rfl) ?_ | refine DM.q (fun e c hk => (Ev.ldb1 3 (.t rfl) rfl ag23 rfl)) rfl (fun _ _ => rfl) (fun c c_ h => by first | rfl) ?_ | refine DM.q (fun e c hk => (Ev.ldb1 4 (.t rfl) rfl ag23 rfl)) rfl (fun _ _ => rfl) (fun c c_ h => by first | rfl) ?_ | refine DM.q (fun e c hk => (Ev.ldb1 5 (.t rfl) rfl ag23 rfl)) rfl (fun _ _ => rfl) (fun c c_ h => by first | rfl) ?_
      first | refine DM.q (fun e c hk => (Ev.lensl (.t rfl) Try.underlying23)) rfl (fun _ _ => rfl) (fun c c_ h => by first | rfl) ?_ | refine DM.q (fun e c hk => (Ev.lenar (i := 0) (.t rfl) rfl Try.underlying23)) rfl (fun _ _ => rfl) (fun c c_ h => by first | rfl) ?_ | refine DM.q (fun e c hk => (Ev.lenar (i := 1) (.t rfl) rfl Try.underlying23)) rfl (fun _ _ => rfl) (fun c c_ h => by first | rfl) ?_ | refine DM.q (fun e c hk => (Ev.lenar (i := 2) (.t rfl) rfl Try.underlying23)) rfl (fun _ _ => rfl) (fun c c_ h => by first | rfl) ?_ | refine DM.q (fun e c hk => (Ev.lenar (i := 3) (.t rfl) rfl Try.underlying23)) rfl (fun _ _ => rfl) (fun c c_ h => by first | rfl) ?_ | refine DM.q (fun e c hk => (Ev.lenar (i := 4) (.t rfl) rfl Try.underlying23)) rfl (fun _ _ => rfl) (fun c c_ h => by first | rfl) ?_ | refine DM.q (fun e c hk => (Ev.lenar (i := 5) (.t rfl) rfl Try.underlying23)) rfl (fun _ _ => rfl) (fun c c_ h => by first | rfl) ?_
      refine DM.eff1 (av := fun c => .lit (c 5).2) rfl (fun c c_ h => by first | rfl | simp only [h 5 (by first | exact .inl rfl | exact .inr (by kernel_rfl))]) (fun e c hk L_ hs Q h => ?_) ?_
      · have hk_5 := hk.not
        cases hk_7 : e 7 <;> (
        simp only [addE, upd, eq_self, List.nil_append, List.cons_append, List.append_nil, hk_5, hk_7, Nat.reduceAdd, Nat.reduceEqDiff, ↓reduceIte, cond_true, cond_false] at h ⊢
        exact W.mk (.t (hs _ _ rfl)) (.t (hs _ _ rfl)) Try.underlying104 ty4 rfl rfl rfl rfl rfl (by omega) rfl (fun v => h (0, v) _ (by first | exact .refl _ | exact (List.perm_middle (l₁ := [_])).symm | exact (List.perm_middle (l₁ := [_, _])).symm | exact (List.perm_middle (l₁ := [_, _, _])).symm | exact (List.perm_middle (l₁ := [_, _, _, _])).symm | exact (List.perm_middle (l₁ := [_, _, _, _, _])).symm | exact (List.perm_middle (l₁ := [_, _, _, _, _, _])).symm | exact (List.perm_middle (l₁ := [_, _, _, _, _, _, _])).symm | exact (List.perm_middle (l₁ := [_, _, _, _, _, _, _, _])).symm)))
      refine DM.q (fun e c hk => (Ev.move (.t rfl))) rfl (fun _ _ => rfl) (fun c c_ h => by first | rfl) ?_
      refine DM.eff1 (av := fun c => .lit (c 7).2) rfl (fun c c_ h => by first | rfl | simp only [h 7 (by first | exact .inl rfl | exact .inr (by kernel_rfl))]) (fun e c hk L_ hs Q h => ?_) ?_
      · have hk_7 := hk.not
        cases hk_5 : e 5 <;> (
        simp only [addE, upd, eq_self, List.nil_append, List.cons_append, List.append_nil, hk_7, hk_5, Nat.reduceAdd, Nat.reduceEqDiff, ↓reduceIte, cond_true, cond_false] at h ⊢
        refine W.call (WClone.c_CloneBool (rowB ps.length w) (okc_rowB _ _) (by rw [rowB_len]; omega)) ⟨(.t (hs _ _ rfl)), trivial⟩ (.refl _) rfl ?_
        rintro _ _ ⟨v40, rfl, rfl⟩
        exact h (0, v40) _ (by first | exact .refl _ | exact (List.perm_middle (l₁ := [_, _, _])).symm | exact (List.perm_middle (l₁ := [_, _, _, _])).symm))
      refine DM.q (fun e c hk => (Ev.assign (.t rfl))) rfl (fun _ _ => rfl) (fun c c_ h => by first | rfl | simp only [h 5 (by first | exact .inl rfl | exact .inr (by kernel_rfl)), h 7 (by first | exact .inl rfl | exact .inr (by kernel_rfl))]) ?_
      refine DM.q (fun e c hk => (Ev.assign (.t rfl))) rfl (fun _ _ => rfl) (fun c c_ h => by first | rfl | simp only [h 5 (by first | exact .inl rfl | exact .inr (by kernel_rfl)), h 7 (by first | exact .inl rfl | exact .inr (by kernel_rfl))]) ?_
      refine DM.nil (fun cc e_ he_ => ?_)
      simp only [he_ 5 (by decide), he_ 7 (by decide), cond_true, cond_false]
      generalize (cc 5).2 = v13
      generalize (cc 7).2 = v14
      refine W.then ?_
      refine W.seq ?_
      refine W.seq ?_
      refine W.region ?_
      refine W.q (Ev.move (.t rfl)) rfl ?_
      refine W.q (Ev.nilc (.t rfl)) rfl ?_
      first | refine W.q (Ev.fae (.t rfl) fa102_0 rfl) rfl ?_ | refine W.q (Ev.fab (.t rfl) fa102_0) rfl ?_ | refine W.q (Ev.faa (.t rfl) fa102_0) rfl ?_
      first | refine W.q (Ev.lde1 (.t rfl) ag23) rfl ?_ | refine W.q (Ev.ldb1 0 (.t rfl) rfl ag23 rfl) rfl ?_ | refine W.q (Ev.ldb1 1 (.t rfl) rfl ag23 rfl) rfl ?_ | refine W.q (Ev.ldb1 2 (.t rfl) rfl ag23 rfl) rfl ?_ | refine W.q (Ev.ldb1 3 (.t rfl) rfl ag23 rfl) rfl ?_ | refine W.q (Ev.ldb1 4 (.t rfl) rfl ag23 rfl) rfl ?_ | refine W.q (Ev.ldb1 5 (.t rfl) rfl ag23 rfl) rfl ?_
      first | refine W.q (Ev.lensl (.t rfl) Try.underlying23) rfl ?_ | refine W.q (Ev.lenar (i := 0) (.t rfl) rfl Try.underlying23) rfl ?_ | refine W.q (Ev.lenar (i := 1) (.t rfl) rfl Try.underlying23) rfl ?_ | refine W.q (Ev.lenar (i := 2) (.t rfl) rfl Try.underlying23) rfl ?_ | refine W.q (Ev.lenar (i := 3) (.t rfl) rfl Try.underlying23) rfl ?_ | refine W.q (Ev.lenar (i := 4) (.t rfl) rfl Try.underlying23) rfl ?_ | refine W.q (Ev.lenar (i := 5) (.t rfl) rfl Try.underlying23) rfl ?_
      refine W.q (Ev.move .k) rfl ?_
      refine W.nil ?_
      refine W.then ?_
      refine W.block ?_
      refine W.loop (D := []) (ι := Nat) (fun k => [(46, true, .int (k : Int)), (45, true, .int ((ps.map kav).length : Int)), (44, true, .sl 3 (ps.map kav)), (13, true, .lit v13), (14, true, .lit v14), (11, true, .lit (.pointer (some ⟨b11, 0, none⟩))), (12, true, pav (path ++ [(i : Int)])), (20, true, .int (i : Int)), (19, true, .int ((l.map Nd.av).length : Int)), (18, true, .sl 4 (l.map Nd.av)), (0, true, .lit (.pointer (some ⟨b, 0, none⟩))), (2, true, pav path), (3, true, .sl 1 (rowB ps.length r)), (4, true, .sl 1 (rowB ps.length w))]) (fun k => [.box b11 35 [.str d.name, .sl 2 (d.attrs.map dav), .str d.text, .sl 4 (d.parts.map Nd.av)], .box b 102 [.sl 3 (ps.map kav), .lit v1], .arr v1 22 1 ((fo ++ Pk.fnds ps 0 (l.take i) path r w).map pav), .arr v13 4 1 (rowB ps.length (fun j => decide (j < k) && (Pk.ends ps r w d) j)), .arr v14 4 1 (rowB ps.length (fun j => if j < k then (Pk.far ps r w d) j else w j))]) (fun k => k ≤ ps.length) (fun k => ps.length - k) 0 ⟨rfl, rfl, rfl, rfl, rfl, rfl, rfl, rfl, rfl, rfl, rfl, rfl, rfl, rfl, trivial⟩ (by rw [← Pk.ends_row0, ← Pk.far_row0, List.append_nil, hplen]; exact .refl _) (Nat.zero_le _) ?_
      intro k hk
      dsimp only at hk ⊢
      rcases (show k < ps.length ∨ k = ps.length from by omega) with hltk | hendk
      · have hkz : ((k : Int) == 0) = (k == 0) := by rw [Bool.eq_iff_iff]; simp
        have hgp := getD_mapG kav Pk.dfl ps k hltk
        have hwk : ∀ g : Nat → Bool, 0 < k → 0 ≤ (k : Int) - 1 ∧ (rowB ps.length g)[((k : Int) - 1).toNat]? = some (AV.bool (g (k - 1))) := fun g h => ⟨by omega, by rw [show ((k : Int) - 1).toNat = k - 1 from by omega]; exact rowB_at _ _ _ (by omega)⟩
        refine W.seq ?_
        refine W.region ?_
        refine W.q (Ev.lti (.t rfl) (.t rfl)) rfl ?_
        refine W.nil ?_
        refine W.then ?_
        refine W.seq ?_
        refine W.is (t := 47) (g := true) (av' := .lit (.bool true)) rfl (congrArg (fun b => AV.lit (.bool b)) (by simp; omega)) ?_
        refine W.condT (.t rfl) ?_
        refine W.skip ?_
        refine W.then ?_
        refine W.seq ?_
        refine W.block ?_
        refine W.seq ?_
        refine W.region ?_
        refine W.q (Ev.move (.t rfl)) rfl ?_
        refine W.q (Ev.at (E := 32) (.t rfl) (.t rfl) Try.underlying23 ty32 (fun _ => ⟨by omega, hgp⟩) rfl rfl) rfl ?_
        first | refine W.q (Ev.lden (.t rfl) ag32 ty32 rfl rfl) rfl ?_ | refine W.q (Ev.ldbn 0 (.t rfl) rfl ag32 ty32 rfl) rfl ?_ | refine W.q (Ev.ldbn 1 (.t rfl) rfl ag32 ty32 rfl) rfl ?_ | refine W.q (Ev.ldbn 2 (.t rfl) rfl ag32 ty32 rfl) rfl ?_ | refine W.q (Ev.ldbn 3 (.t rfl) rfl ag32 ty32 rfl) rfl ?_ | refine W.q (Ev.ldbn 4 (.t rfl) rfl ag32 ty32 rfl) rfl ?_ | refine W.q (Ev.ldbn 5 (.t rfl) rfl ag32 ty32 rfl) rfl ?_
        refine W.alloc ty32 rfl rfl ?_
        intro b16
        refine W.q (Ev.assign (.t rfl)) rfl ?_
        first | refine W.stb 0 (.t rfl) (.t rfl) rfl ty32 rfl rfl rfl ?_ | refine W.stb 1 (.t rfl) (.t rfl) rfl ty32 rfl rfl rfl ?_ | refine W.stb 2 (.t rfl) (.t rfl) rfl ty32 rfl rfl rfl ?_ | refine W.stb 3 (.t rfl) (.t rfl) rfl ty32 rfl rfl rfl ?_ | refine W.stb 4 (.t rfl) (.t rfl) rfl ty32 rfl rfl rfl ?_ | refine W.stb 5 (.t rfl) (.t rfl) rfl ty32 rfl rfl rfl ?_
        refine W.nil ?_
        refine W.then ?_
        refine W.seq ?_
        refine W.region ?_
        refine W.q (Ev.move (.t rfl)) rfl ?_
        refine W.q (Ev.eqi (.t rfl) .k) rfl ?_
        refine W.q (Ev.move (.t rfl)) rfl ?_
        first | refine W.qgF rfl rfl (Ev.fae (.t rfl) fa32_2 rfl) rfl ?_ | refine W.qgF rfl rfl (Ev.fab (.t rfl) fa32_2) rfl ?_ | refine W.qgF rfl rfl (Ev.faa (.t rfl) fa32_2) rfl ?_
        first | refine W.qgF rfl rfl (Ev.lde1 (.c rfl) ag4) rfl ?_ | refine W.qgF rfl rfl (Ev.ldb1 0 (.c rfl) rfl ag4 rfl) rfl ?_ | refine W.qgF rfl rfl (Ev.ldb1 1 (.c rfl) rfl ag4 rfl) rfl ?_ | refine W.qgF rfl rfl (Ev.ldb1 2 (.c rfl) rfl ag4 rfl) rfl ?_ | refine W.qgF rfl rfl (Ev.ldb1 3 (.c rfl) rfl ag4 rfl) rfl ?_ | refine W.qgF rfl rfl (Ev.ldb1 4 (.c rfl) rfl ag4 rfl) rfl ?_ | refine W.qgF rfl rfl (Ev.ldb1 5 (.c rfl) rfl ag4 rfl) rfl ?_
        refine W.qgF rfl rfl (Ev.move (.c rfl)) rfl ?_
        refine W.qgT' rfl rfl (Ev.move (.t rfl)) rfl ?_
        refine W.qgT' rfl rfl (Ev.move (.t rfl)) rfl ?_
        first | refine W.qgT' rfl rfl (Ev.sub (.c rfl) .k (fun _ => by omega)) rfl ?_ | refine W.qgT' rfl rfl (Ev.subw (.c rfl) .k) rfl ?_
        refine W.qgT' rfl rfl (Ev.at (E := 4) (.c rfl) (.c rfl) Try.underlying104 ty4 (e := .bool (w (k - 1))) (fun hg => hwk w (by simp at hg; omega)) rfl rfl) rfl ?_
        first | refine W.qgT' rfl rfl (Ev.lde1 (.c rfl) ag4) rfl ?_ | refine W.qgT' rfl rfl (Ev.ldb1 0 (.c rfl) rfl ag4 rfl) rfl ?_ | refine W.qgT' rfl rfl (Ev.ldb1 1 (.c rfl) rfl ag4 rfl) rfl ?_ | refine W.qgT' rfl rfl (Ev.ldb1 2 (.c rfl) rfl ag4 rfl) rfl ?_ | refine W.qgT' rfl rfl (Ev.ldb1 3 (.c rfl) rfl ag4 rfl) rfl ?_ | refine W.qgT' rfl rfl (Ev.ldb1 4 (.c rfl) rfl ag4 rfl) rfl ?_ | refine W.qgT' rfl rfl (Ev.ldb1 5 (.c rfl) rfl ag4 rfl) rfl ?_
        refine W.qgF rfl rfl (Ev.and (.c rfl) ⟨_, _, rfl, rfl, by first | (simp; done) | (intro hg_ hp_; simp [hp_]; done) | (simp <;> omega; done) | (simp_all; done) | grind⟩) rfl ?_
        refine W.q (Ev.or (.t rfl) ⟨_, _, rfl, rfl, by first | (simp; done) | (intro hg_ hp_; simp [hp_]; done) | (simp <;> omega; done) | (simp_all; done) | grind⟩) rfl ?_
        refine W.q (Ev.move (.t rfl)) rfl ?_
        first | refine W.qgF rfl rfl (Ev.fae (.t rfl) fa32_2 rfl) rfl ?_ | refine W.qgF rfl rfl (Ev.fab (.t rfl) fa32_2) rfl ?_ | refine W.qgF rfl rfl (Ev.faa (.t rfl) fa32_2) rfl ?_
        first | refine W.qgF rfl rfl (Ev.lde1 (.c rfl) ag4) rfl ?_ | refine W.qgF rfl rfl (Ev.ldb1 0 (.c rfl) rfl ag4 rfl) rfl ?_ | refine W.qgF rfl rfl (Ev.ldb1 1 (.c rfl) rfl ag4 rfl) rfl ?_ | refine W.qgF rfl rfl (Ev.ldb1 2 (.c rfl) rfl ag4 rfl) rfl ?_ | refine W.qgF rfl rfl (Ev.ldb1 3 (.c rfl) rfl ag4 rfl) rfl ?_ | refine W.qgF rfl rfl (Ev.ldb1 4 (.c rfl) rfl ag4 rfl) rfl ?_ | refine W.qgF rfl rfl (Ev.ldb1 5 (.c rfl) rfl ag4 rfl) rfl ?_
        refine W.qgF rfl rfl (Ev.not (.c rfl)) rfl ?_
        refine W.qgF rfl rfl (Ev.move (.c rfl)) rfl ?_
        refine W.qgT' rfl rfl (Ev.move (.t rfl)) rfl ?_
        refine W.qgT' rfl rfl (Ev.move (.t rfl)) rfl ?_
        first | refine W.qgT' rfl rfl (Ev.sub (.c rfl) .k (fun _ => by omega)) rfl ?_ | refine W.qgT' rfl rfl (Ev.subw (.c rfl) .k) rfl ?_
        refine W.qgT' rfl rfl (Ev.at (E := 4) (.c rfl) (.c rfl) Try.underlying104 ty4 (e := .bool (r (k - 1))) (fun hg => hwk r (by simp at hg; omega)) rfl rfl) rfl ?_
        first | refine W.qgT' rfl rfl (Ev.lde1 (.c rfl) ag4) rfl ?_ | refine W.qgT' rfl rfl (Ev.ldb1 0 (.c rfl) rfl ag4 rfl) rfl ?_ | refine W.qgT' rfl rfl (Ev.ldb1 1 (.c rfl) rfl ag4 rfl) rfl ?_ | refine W.qgT' rfl rfl (Ev.ldb1 2 (.c rfl) rfl ag4 rfl) rfl ?_ | refine W.qgT' rfl rfl (Ev.ldb1 3 (.c rfl) rfl ag4 rfl) rfl ?_ | refine W.qgT' rfl rfl (Ev.ldb1 4 (.c rfl) rfl ag4 rfl) rfl ?_ | refine W.qgT' rfl rfl (Ev.ldb1 5 (.c rfl) rfl ag4 rfl) rfl ?_
        refine W.qgF rfl rfl (Ev.and (.c rfl) ⟨_, _, rfl, rfl, by first | (simp; done) | (intro hg_ hp_; simp [hp_]; done) | (simp <;> omega; done) | (simp_all; done) | grind⟩) rfl ?_
        refine W.q (Ev.or (.t rfl) ⟨_, _, rfl, rfl, by first | (simp; done) | (intro hg_ hp_; simp [hp_]; done) | (simp <;> omega; done) | (simp_all; done) | grind⟩) rfl ?_
        refine W.q (Ev.assign (.t rfl)) rfl ?_
        refine W.nil ?_
        refine W.then ?_
        refine W.seq ?_
        refine W.region ?_
        refine W.q (Ev.move (.t rfl)) rfl ?_
        refine W.q (Ev.move (.t rfl)) rfl ?_
        refine W.q (Ev.move (.t rfl)) rfl ?_
        refine W.q (Ev.move (.t rfl)) rfl ?_
        first | refine W.qgT rfl rfl (Ev.lden (.t rfl) ag32 ty32 rfl rfl) rfl ?_ | refine W.qgT rfl rfl (Ev.ldbn 0 (.t rfl) rfl ag32 ty32 rfl) rfl ?_ | refine W.qgT rfl rfl (Ev.ldbn 1 (.t rfl) rfl ag32 ty32 rfl) rfl ?_ | refine W.qgT rfl rfl (Ev.ldbn 2 (.t rfl) rfl ag32 ty32 rfl) rfl ?_ | refine W.qgT rfl rfl (Ev.ldbn 3 (.t rfl) rfl ag32 ty32 rfl) rfl ?_ | refine W.qgT rfl rfl (Ev.ldbn 4 (.t rfl) rfl ag32 ty32 rfl) rfl ?_ | refine W.qgT rfl rfl (Ev.ldbn 5 (.t rfl) rfl ag32 ty32 rfl) rfl ?_
        first | refine W.qgT rfl rfl (Ev.lden (.t rfl) ag35 ty35 rfl rfl) rfl ?_ | refine W.qgT rfl rfl (Ev.ldbn 0 (.t rfl) rfl ag35 ty35 rfl) rfl ?_ | refine W.qgT rfl rfl (Ev.ldbn 1 (.t rfl) rfl ag35 ty35 rfl) rfl ?_ | refine W.qgT rfl rfl (Ev.ldbn 2 (.t rfl) rfl ag35 ty35 rfl) rfl ?_ | refine W.qgT rfl rfl (Ev.ldbn 3 (.t rfl) rfl ag35 ty35 rfl) rfl ?_ | refine W.qgT rfl rfl (Ev.ldbn 4 (.t rfl) rfl ag35 ty35 rfl) rfl ?_ | refine W.qgT rfl rfl (Ev.ldbn 5 (.t rfl) rfl ag35 ty35 rfl) rfl ?_
        refine W.callgT (Min := []) (caps := []) (avs := [_, _]) rfl rfl (fun hg => WFits.c_fits (ps.getD k Pk.dfl) d (by omega)) (fun hg => .f) (fun hg => ⟨(.i rfl (fun _ => hg)), (.i rfl (fun _ => hg)), trivial⟩) rfl (.refl _) rfl ?_
        refine W.q (Ev.and (.t rfl) ⟨_, _, rfl, rfl, by first | (simp; done) | (intro hg_ hp_; simp [hp_]; done) | (simp <;> omega; done) | (simp_all; done) | grind⟩) rfl ?_
        refine W.is (t := 83) (g := true) (av' := .bool (Pk.ends ps r w d k)) rfl (congrArg AV.bool (by rw [hkz]; rfl)) ?_
        refine W.q (Ev.ata 4 (.t rfl) rfl (.t rfl) Try.underlying104 ty4 (fun _ => by rw [rowB_len]; omega)) rfl ?_
        refine W.sta 4 k 0 (e := .bool (decide (k < k) && (Pk.ends ps r w d) k)) (e' := .bool ((Pk.ends ps r w d) k)) (.t rfl) (.t rfl) rfl (rowB_at _ _ k hltk) (by omega) ty4 rfl rfl rfl rfl rfl rfl rfl ?_
        refine W.nil ?_
        refine W.then ?_
        refine W.region ?_
        refine W.q (Ev.move (.t rfl)) rfl ?_
        refine W.q (Ev.move (.t rfl)) rfl ?_
        refine W.q (Ev.move (.t rfl)) rfl ?_
        refine W.q (Ev.move (.t rfl)) rfl ?_
        refine W.q (Ev.ata 5 (.t rfl) rfl (.t rfl) Try.underlying104 ty4 (fun _ => by rw [rowB_len]; omega)) rfl ?_
        refine W.q (Ev.lda1 5 k 0 (e := .bool (w k)) (.t rfl) rfl (by rw [rowB_at _ _ k hltk]; simp) (by omega) rfl rfl rfl ag4) rfl ?_
        refine W.q (Ev.move (.t rfl)) rfl ?_
        refine W.qgF rfl rfl (Ev.move (.t rfl)) rfl ?_
        refine W.qgF rfl rfl (Ev.move (.t rfl)) rfl ?_
        refine W.qgF rfl rfl (Ev.ata 4 (.c rfl) rfl (.c rfl) Try.underlying104 ty4 (fun _ => by rw [List.length_set, rowB_len]; omega)) rfl ?_
        refine W.qgF rfl rfl (Ev.lda1g 4 k 0 (e := .bool ((Pk.ends ps r w d) k)) (.c rfl) rfl (fun _ => by rw [List.getElem?_set_self (by rw [rowB_len]; exact hltk)]) (fun _ => by omega) rfl rfl rfl ag4) rfl ?_
        refine W.q (Ev.or (.t rfl) ⟨_, _, rfl, rfl, by first | (simp; done) | (intro hg_ hp_; simp [hp_]; done) | (simp <;> omega; done) | (simp_all; done) | grind⟩) rfl ?_
        refine W.q (Ev.ata 5 (.t rfl) rfl (.t rfl) Try.underlying104 ty4 (fun _ => by rw [rowB_len]; omega)) rfl ?_
        refine W.sta 5 k 0 (e := .bool (w k)) (e' := .bool ((Pk.far ps r w d) k)) (.t rfl) (.t rfl) rfl (by rw [rowB_at _ _ k hltk]; simp) (by omega) ty4 rfl rfl rfl rfl rfl rfl rfl ?_
        refine W.nil ?_
        refine W.blk_normal ?_
        refine W.then ?_
        refine W.region ?_
        first | refine W.q (Ev.add (.t rfl) .k (fun _ => by omega)) rfl ?_ | refine W.q (Ev.addw (.t rfl) .k) rfl ?_
        refine W.q (Ev.move (.t rfl)) rfl ?_
        refine W.nil ?_
        refine W.then ?_
        refine W.reach (D := [_]) (k + 1) ⟨rfl, rfl, rfl, rfl, rfl, rfl, rfl, rfl, rfl, rfl, rfl, rfl, rfl, rfl, trivial⟩ (by rw [Pk.ends_row, Pk.far_row]; exact List.perm_append_comm (l₁ := [_])) ⟨by show k + 1 ≤ _; omega, by show _ - (k + 1) < _; omega⟩
      · subst hendk
        rw [Pk.ends_rowN, Pk.far_rowN]
        have hrE := rowB_len ps.length (Pk.ends ps r w d)
        refine W.seq ?_
        refine W.region ?_
        refine W.q (Ev.lti (.t rfl) (.t rfl)) rfl ?_
        refine W.nil ?_
        refine W.then ?_
        refine W.seq ?_
        refine W.is (t := 47) (g := true) (av' := .lit (.bool false)) rfl (congrArg (fun b => AV.lit (.bool b)) (by exact decide_eq_false (by omega))) ?_
        refine W.condF (.t rfl) ?_
        refine W.exit ?_
        refine W.then_exit ?_
        refine W.then_exit ?_
        refine W.blk_hit ?_
        refine W.then ?_
        refine W.seq ?_
        refine W.seq ?_
        refine W.region ?_
        refine W.q (Ev.move (.t rfl)) rfl ?_
        refine W.q (Ev.move (.t rfl)) rfl ?_
        first | refine W.q (Ev.lensl (.t rfl) Try.underlying104) rfl ?_ | refine W.q (Ev.lenar (i := 0) (.t rfl) rfl Try.underlying104) rfl ?_ | refine W.q (Ev.lenar (i := 1) (.t rfl) rfl Try.underlying104) rfl ?_ | refine W.q (Ev.lenar (i := 2) (.t rfl) rfl Try.underlying104) rfl ?_ | refine W.q (Ev.lenar (i := 3) (.t rfl) rfl Try.underlying104) rfl ?_ | refine W.q (Ev.lenar (i := 4) (.t rfl) rfl Try.underlying104) rfl ?_ | refine W.q (Ev.lenar (i := 5) (.t rfl) rfl Try.underlying104) rfl ?_
        first | refine W.q (Ev.sub (.t rfl) .k (fun _ => by omega)) rfl ?_ | refine W.q (Ev.subw (.t rfl) .k) rfl ?_
        refine W.q (Ev.ata 3 (.t rfl) rfl (.t rfl) Try.underlying104 ty4 (fun _ => by rw [rowB_len]; omega)) rfl ?_
        refine W.q (Ev.lda1 3 (ps.length - 1) 0 (e := .bool ((Pk.ends ps r w d) (ps.length - 1))) (.t rfl) rfl (rowB_at _ _ _ (by omega)) (by rw [rowB_len]; omega) rfl rfl rfl ag4) rfl ?_
        refine W.nil ?_
        refine W.then ?_
        refine W.cond (.t rfl) (fun hc_t104 => ?_) (fun hc_t104 => ?_)
        · rw [if_pos hc_t104] at hsn
          refine W.region ?_
          refine W.q (Ev.move (.t rfl)) rfl ?_
          refine W.q (Ev.move (.t rfl)) rfl ?_
          refine W.q (Ev.nilc (.t rfl)) rfl ?_
          first | refine W.q (Ev.fae (.t rfl) fa102_1 rfl) rfl ?_ | refine W.q (Ev.fab (.t rfl) fa102_1) rfl ?_ | refine W.q (Ev.faa (.t rfl) fa102_1) rfl ?_
          first | refine W.q (Ev.lde1 (.t rfl) ag28) rfl ?_ | refine W.q (Ev.ldb1 0 (.t rfl) rfl ag28 rfl) rfl ?_ | refine W.q (Ev.ldb1 1 (.t rfl) rfl ag28 rfl) rfl ?_ | refine W.q (Ev.ldb1 2 (.t rfl) rfl ag28 rfl) rfl ?_ | refine W.q (Ev.ldb1 3 (.t rfl) rfl ag28 rfl) rfl ?_ | refine W.q (Ev.ldb1 4 (.t rfl) rfl ag28 rfl) rfl ?_ | refine W.q (Ev.ldb1 5 (.t rfl) rfl ag28 rfl) rfl ?_
          refine W.q (Ev.move (.t rfl)) rfl ?_
          refine W.bs (es := [_]) Try.underlying28 ty22 ⟨rfl, (.t rfl), rfl, rfl, trivial⟩ rfl (by decide) rfl rfl ?_
          first | refine W.app 0 (.t rfl) rfl (.sl (.t rfl) (by simp [AV.okc, shV])) Try.underlying28 ni28 ty22 rfl rfl (by simp only [List.length_map, List.length_append, List.length_cons, List.length_nil] <;> omega) rfl ?_ | refine W.app 1 (.t rfl) rfl (.sl (.t rfl) (by simp [AV.okc, shV])) Try.underlying28 ni28 ty22 rfl rfl (by simp only [List.length_map, List.length_append, List.length_cons, List.length_nil] <;> omega) rfl ?_ | refine W.app 2 (.t rfl) rfl (.sl (.t rfl) (by simp [AV.okc, shV])) Try.underlying28 ni28 ty22 rfl rfl (by simp only [List.length_map, List.length_append, List.length_cons, List.length_nil] <;> omega) rfl ?_ | refine W.app 3 (.t rfl) rfl (.sl (.t rfl) (by simp [AV.okc, shV])) Try.underlying28 ni28 ty22 rfl rfl (by simp only [List.length_map, List.length_append, List.length_cons, List.length_nil] <;> omega) rfl ?_ | refine W.app 4 (.t rfl) rfl (.sl (.t rfl) (by simp [AV.okc, shV])) Try.underlying28 ni28 ty22 rfl rfl (by simp only [List.length_map, List.length_append, List.length_cons, List.length_nil] <;> omega) rfl ?_ | refine W.app 5 (.t rfl) rfl (.sl (.t rfl) (by simp [AV.okc, shV])) Try.underlying28 ni28 ty22 rfl rfl (by simp only [List.length_map, List.length_append, List.length_cons, List.length_nil] <;> omega) rfl ?_ | refine W.app 0 (.t rfl) rfl (.arr 0 (.t rfl) rfl (by simp [AV.okc, shV])) Try.underlying28 ni28 ty22 rfl rfl (by simp only [List.length_map, List.length_append, List.length_cons, List.length_nil] <;> omega) rfl ?_ | refine W.app 0 (.t rfl) rfl (.arr 1 (.t rfl) rfl (by simp [AV.okc, shV])) Try.underlying28 ni28 ty22 rfl rfl (by simp only [List.length_map, List.length_append, List.length_cons, List.length_nil] <;> omega) rfl ?_ | refine W.app 0 (.t rfl) rfl (.arr 2 (.t rfl) rfl (by simp [AV.okc, shV])) Try.underlying28 ni28 ty22 rfl rfl (by simp only [List.length_map, List.length_append, List.length_cons, List.length_nil] <;> omega) rfl ?_ | refine W.app 0 (.t rfl) rfl (.arr 3 (.t rfl) rfl (by simp [AV.okc, shV])) Try.underlying28 ni28 ty22 rfl rfl (by simp only [List.length_map, List.length_append, List.length_cons, List.length_nil] <;> omega) rfl ?_ | refine W.app 0 (.t rfl) rfl (.arr 4 (.t rfl) rfl (by simp [AV.okc, shV])) Try.underlying28 ni28 ty22 rfl rfl (by simp only [List.length_map, List.length_append, List.length_cons, List.length_nil] <;> omega) rfl ?_ | refine W.app 0 (.t rfl) rfl (.arr 5 (.t rfl) rfl (by simp [AV.okc, shV])) Try.underlying28 ni28 ty22 rfl rfl (by simp only [List.length_map, List.length_append, List.length_cons, List.length_nil] <;> omega) rfl ?_ | refine W.app 1 (.t rfl) rfl (.arr 0 (.t rfl) rfl (by simp [AV.okc, shV])) Try.underlying28 ni28 ty22 rfl rfl (by simp only [List.length_map, List.length_append, List.length_cons, List.length_nil] <;> omega) rfl ?_ | refine W.app 1 (.t rfl) rfl (.arr 1 (.t rfl) rfl (by simp [AV.okc, shV])) Try.underlying28 ni28 ty22 rfl rfl (by simp only [List.length_map, List.length_append, List.length_cons, List.length_nil] <;> omega) rfl ?_ | refine W.app 1 (.t rfl) rfl (.arr 2 (.t rfl) rfl (by simp [AV.okc, shV])) Try.underlying28 ni28 ty22 rfl rfl (by simp only [List.length_map, List.length_append, List.length_cons, List.length_nil] <;> omega) rfl ?_ | refine W.app 1 (.t rfl) rfl (.arr 3 (.t rfl) rfl (by simp [AV.okc, shV])) Try.underlying28 ni28 ty22 rfl rfl (by simp only [List.length_map, List.length_append, List.length_cons, List.length_nil] <;> omega) rfl ?_ | refine W.app 1 (.t rfl) rfl (.arr 4 (.t rfl) rfl (by simp [AV.okc, shV])) Try.underlying28 ni28 ty22 rfl rfl (by simp only [List.length_map, List.length_append, List.length_cons, List.length_nil] <;> omega) rfl ?_ | refine W.app 1 (.t rfl) rfl (.arr 5 (.t rfl) rfl (by simp [AV.okc, shV])) Try.underlying28 ni28 ty22 rfl rfl (by simp only [List.length_map, List.length_append, List.length_cons, List.length_nil] <;> omega) rfl ?_ | refine W.app 2 (.t rfl) rfl (.arr 0 (.t rfl) rfl (by simp [AV.okc, shV])) Try.underlying28 ni28 ty22 rfl rfl (by simp only [List.length_map, List.length_append, List.length_cons, List.length_nil] <;> omega) rfl ?_ | refine W.app 2 (.t rfl) rfl (.arr 1 (.t rfl) rfl (by simp [AV.okc, shV])) Try.underlying28 ni28 ty22 rfl rfl (by simp only [List.length_map, List.length_append, List.length_cons, List.length_nil] <;> omega) rfl ?_ | refine W.app 2 (.t rfl) rfl (.arr 2 (.t rfl) rfl (by simp [AV.okc, shV])) Try.underlying28 ni28 ty22 rfl rfl (by simp only [List.length_map, List.length_append, List.length_cons, List.length_nil] <;> omega) rfl ?_ | refine W.app 2 (.t rfl) rfl (.arr 3 (.t rfl) rfl (by simp [AV.okc, shV])) Try.underlying28 ni28 ty22 rfl rfl (by simp only [List.length_map, List.length_append, List.length_cons, List.length_nil] <;> omega) rfl ?_ | refine W.app 2 (.t rfl) rfl (.arr 4 (.t rfl) rfl (by simp [AV.okc, shV])) Try.underlying28 ni28 ty22 rfl rfl (by simp only [List.length_map, List.length_append, List.length_cons, List.length_nil] <;> omega) rfl ?_ | refine W.app 2 (.t rfl) rfl (.arr 5 (.t rfl) rfl (by simp [AV.okc, shV])) Try.underlying28 ni28 ty22 rfl rfl (by simp only [List.length_map, List.length_append, List.length_cons, List.length_nil] <;> omega) rfl ?_ | refine W.app 3 (.t rfl) rfl (.arr 0 (.t rfl) rfl (by simp [AV.okc, shV])) Try.underlying28 ni28 ty22 rfl rfl (by simp only [List.length_map, List.length_append, List.length_cons, List.length_nil] <;> omega) rfl ?_ | refine W.app 3 (.t rfl) rfl (.arr 1 (.t rfl) rfl (by simp [AV.okc, shV])) Try.underlying28 ni28 ty22 rfl rfl (by simp only [List.length_map, List.length_append, List.length_cons, List.length_nil] <;> omega) rfl ?_ | refine W.app 3 (.t rfl) rfl (.arr 2 (.t rfl) rfl (by simp [AV.okc, shV])) Try.underlying28 ni28 ty22 rfl rfl (by simp only [List.length_map, List.length_append, List.length_cons, List.length_nil] <;> omega) rfl ?_ | refine W.app 3 (.t rfl) rfl (.arr 3 (.t rfl) rfl (by simp [AV.okc, shV])) Try.underlying28 ni28 ty22 rfl rfl (by simp only [List.length_map, List.length_append, List.length_cons, List.length_nil] <;> omega) rfl ?_ | refine W.app 3 (.t rfl) rfl (.arr 4 (.t rfl) rfl (by simp [AV.okc, shV])) Try.underlying28 ni28 ty22 rfl rfl (by simp only [List.length_map, List.length_append, List.length_cons, List.length_nil] <;> omega) rfl ?_ | refine W.app 3 (.t rfl) rfl (.arr 5 (.t rfl) rfl (by simp [AV.okc, shV])) Try.underlying28 ni28 ty22 rfl rfl (by simp only [List.length_map, List.length_append, List.length_cons, List.length_nil] <;> omega) rfl ?_ | refine W.app 4 (.t rfl) rfl (.arr 0 (.t rfl) rfl (by simp [AV.okc, shV])) Try.underlying28 ni28 ty22 rfl rfl (by simp only [List.length_map, List.length_append, List.length_cons, List.length_nil] <;> omega) rfl ?_ | refine W.app 4 (.t rfl) rfl (.arr 1 (.t rfl) rfl (by simp [AV.okc, shV])) Try.underlying28 ni28 ty22 rfl rfl (by simp only [List.length_map, List.length_append, List.length_cons, List.length_nil] <;> omega) rfl ?_ | refine W.app 4 (.t rfl) rfl (.arr 2 (.t rfl) rfl (by simp [AV.okc, shV])) Try.underlying28 ni28 ty22 rfl rfl (by simp only [List.length_map, List.length_append, List.length_cons, List.length_nil] <;> omega) rfl ?_ | refine W.app 4 (.t rfl) rfl (.arr 3 (.t rfl) rfl (by simp [AV.okc, shV])) Try.underlying28 ni28 ty22 rfl rfl (by simp only [List.length_map, List.length_append, List.length_cons, List.length_nil] <;> omega) rfl ?_ | refine W.app 4 (.t rfl) rfl (.arr 4 (.t rfl) rfl (by simp [AV.okc, shV])) Try.underlying28 ni28 ty22 rfl rfl (by simp only [List.length_map, List.length_append, List.length_cons, List.length_nil] <;> omega) rfl ?_ | refine W.app 4 (.t rfl) rfl (.arr 5 (.t rfl) rfl (by simp [AV.okc, shV])) Try.underlying28 ni28 ty22 rfl rfl (by simp only [List.length_map, List.length_append, List.length_cons, List.length_nil] <;> omega) rfl ?_ | refine W.app 5 (.t rfl) rfl (.arr 0 (.t rfl) rfl (by simp [AV.okc, shV])) Try.underlying28 ni28 ty22 rfl rfl (by simp only [List.length_map, List.length_append, List.length_cons, List.length_nil] <;> omega) rfl ?_ | refine W.app 5 (.t rfl) rfl (.arr 1 (.t rfl) rfl (by simp [AV.okc, shV])) Try.underlying28 ni28 ty22 rfl rfl (by simp only [List.length_map, List.length_append, List.length_cons, List.length_nil] <;> omega) rfl ?_ | refine W.app 5 (.t rfl) rfl (.arr 2 (.t rfl) rfl (by simp [AV.okc, shV])) Try.underlying28 ni28 ty22 rfl rfl (by simp only [List.length_map, List.length_append, List.length_cons, List.length_nil] <;> omega) rfl ?_ | refine W.app 5 (.t rfl) rfl (.arr 3 (.t rfl) rfl (by simp [AV.okc, shV])) Try.underlying28 ni28 ty22 rfl rfl (by simp only [List.length_map, List.length_append, List.length_cons, List.length_nil] <;> omega) rfl ?_ | refine W.app 5 (.t rfl) rfl (.arr 4 (.t rfl) rfl (by simp [AV.okc, shV])) Try.underlying28 ni28 ty22 rfl rfl (by simp only [List.length_map, List.length_append, List.length_cons, List.length_nil] <;> omega) rfl ?_ | refine W.app 5 (.t rfl) rfl (.arr 5 (.t rfl) rfl (by simp [AV.okc, shV])) Try.underlying28 ni28 ty22 rfl rfl (by simp only [List.length_map, List.length_append, List.length_cons, List.length_nil] <;> omega) rfl ?_
          intro v112
          refine W.arr_inv 2 rfl (fun a18 n18 c18 h18 => ?_)
          subst h18
          refine W.q (Ev.nilc (.t rfl)) rfl ?_
          first | refine W.q (Ev.fae (.t rfl) fa102_1 rfl) rfl ?_ | refine W.q (Ev.fab (.t rfl) fa102_1) rfl ?_ | refine W.q (Ev.faa (.t rfl) fa102_1) rfl ?_
          first | refine W.stb 0 (.t rfl) (.t rfl) rfl ty28 rfl rfl rfl ?_ | refine W.stb 1 (.t rfl) (.t rfl) rfl ty28 rfl rfl rfl ?_ | refine W.stb 2 (.t rfl) (.t rfl) rfl ty28 rfl rfl rfl ?_ | refine W.stb 3 (.t rfl) (.t rfl) rfl ty28 rfl rfl rfl ?_ | refine W.stb 4 (.t rfl) (.t rfl) rfl ty28 rfl rfl rfl ?_ | refine W.stb 5 (.t rfl) (.t rfl) rfl ty28 rfl rfl rfl ?_
          refine W.nil ?_
          rw [show ∀ X : List (List Int), X.map pav ++ [pav (path ++ [(i : Int)])] = (X ++ [path ++ [(i : Int)]]).map pav from fun X => by simp]
          refine W.then ?_
          refine W.region ?_
          refine W.q (Ev.move (.t rfl)) rfl ?_
          first | refine W.q (Ev.fae (.t rfl) fa35_3 rfl) rfl ?_ | refine W.q (Ev.fab (.t rfl) fa35_3) rfl ?_ | refine W.q (Ev.faa (.t rfl) fa35_3) rfl ?_
          first | refine W.q (Ev.lde1 (.t rfl) ag25) rfl ?_ | refine W.q (Ev.ldb1 0 (.t rfl) rfl ag25 rfl) rfl ?_ | refine W.q (Ev.ldb1 1 (.t rfl) rfl ag25 rfl) rfl ?_ | refine W.q (Ev.ldb1 2 (.t rfl) rfl ag25 rfl) rfl ?_ | refine W.q (Ev.ldb1 3 (.t rfl) rfl ag25 rfl) rfl ?_ | refine W.q (Ev.ldb1 4 (.t rfl) rfl ag25 rfl) rfl ?_ | refine W.q (Ev.ldb1 5 (.t rfl) rfl ag25 rfl) rfl ?_
          refine W.q (Ev.move (.t rfl)) rfl ?_
          refine W.q (Ev.move (.t rfl)) rfl ?_
          refine W.q (Ev.move (.t rfl)) rfl ?_
          refine W.call (ih b d.parts (path ++ [(i : Int)]) (Pk.ends ps r w d) (Pk.far ps r w d) _ _ v13 v14 (by omega) (by simp; omega) (by simp only [List.length_append, List.length_cons, List.length_nil]; omega)) ⟨(.t rfl), (.t rfl), (.t rfl), (.t rfl), (.t rfl), trivial⟩ (List.perm_append_comm (l₁ := [_])) rfl ?_
          rintro _ _ ⟨rfl, v2, rfl⟩
          refine W.nil ?_
          refine W.blk_normal ?_
          refine W.then ?_
          refine W.region ?_
          first | refine W.q (Ev.add (.t rfl) .k (fun _ => by omega)) rfl ?_ | refine W.q (Ev.addw (.t rfl) .k) rfl ?_
          refine W.q (Ev.move (.t rfl)) rfl ?_
          refine W.nil ?_
          refine W.then ?_
          first
          | (refine W.reach (D := [_]) (i + 1, _) ⟨rfl, rfl, rfl, rfl, rfl, rfl, rfl, trivial⟩ (by rw [hsn]; exact List.perm_append_comm (l₁ := [_])) ⟨by show i + 1 ≤ _; omega, by show _ - (i + 1) < _; omega⟩)
          | (refine W.reach (D := [_]) (i + 1, _) ⟨rfl, rfl, rfl, rfl, rfl, rfl, rfl, trivial⟩ (by simp only [hsn, List.nil_append, List.append_assoc] <;> exact .refl _) ⟨by show i + 1 ≤ _; omega, by show _ - (i + 1) < _; omega⟩)
        · rw [if_neg (by rw [hc_t104]; simp)] at hsn
          refine W.skip ?_
          refine W.then ?_
          refine W.region ?_
          refine W.q (Ev.move (.t rfl)) rfl ?_
          first | refine W.q (Ev.fae (.t rfl) fa35_3 rfl) rfl ?_ | refine W.q (Ev.fab (.t rfl) fa35_3) rfl ?_ | refine W.q (Ev.faa (.t rfl) fa35_3) rfl ?_
          first | refine W.q (Ev.lde1 (.t rfl) ag25) rfl ?_ | refine W.q (Ev.ldb1 0 (.t rfl) rfl ag25 rfl) rfl ?_ | refine W.q (Ev.ldb1 1 (.t rfl) rfl ag25 rfl) rfl ?_ | refine W.q (Ev.ldb1 2 (.t rfl) rfl ag25 rfl) rfl ?_ | refine W.q (Ev.ldb1 3 (.t rfl) rfl ag25 rfl) rfl ?_ | refine W.q (Ev.ldb1 4 (.t rfl) rfl ag25 rfl) rfl ?_ | refine W.q (Ev.ldb1 5 (.t rfl) rfl ag25 rfl) rfl ?_
          refine W.q (Ev.move (.t rfl)) rfl ?_
          refine W.q (Ev.move (.t rfl)) rfl ?_
          refine W.q (Ev.move (.t rfl)) rfl ?_
          refine W.call (ih b d.parts (path ++ [(i : Int)]) (Pk.ends ps r w d) (Pk.far ps r w d) _ _ v13 v14 (by omega) (by simp; omega) (by simp only [List.length_append, List.length_cons, List.length_nil]; omega)) ⟨(.t rfl), (.t rfl), (.t rfl), (.t rfl), (.t rfl), trivial⟩ (List.perm_append_comm (l₁ := [_])) rfl ?_
          rintro _ _ ⟨rfl, v2, rfl⟩
          refine W.nil ?_
          refine W.blk_normal ?_
          refine W.then ?_
          refine W.region ?_
          first | refine W.q (Ev.add (.t rfl) .k (fun _ => by omega)) rfl ?_ | refine W.q (Ev.addw (.t rfl) .k) rfl ?_
          refine W.q (Ev.move (.t rfl)) rfl ?_
          refine W.nil ?_
          refine W.then ?_
          first
          | (refine W.reach (D := [_]) (i + 1, _) ⟨rfl, rfl, rfl, rfl, rfl, rfl, rfl, trivial⟩ (by rw [hsn]; exact List.perm_append_comm (l₁ := [_])) ⟨by show i + 1 ≤ _; omega, by show _ - (i + 1) < _; omega⟩)
          | (refine W.reach (D := [_]) (i + 1, _) ⟨rfl, rfl, rfl, rfl, rfl, rfl, rfl, trivial⟩ (by simp only [hsn, List.nil_append, List.append_assoc] <;> exact .refl _) ⟨by show i + 1 ≤ _; omega, by show _ - (i + 1) < _; omega⟩)
  · have he : l.take i = l := List.take_of_length_le (by omega)
    rw [he]
    refine W.seq ?_
    refine W.region ?_
    refine W.q (Ev.lti (.t rfl) (.t rfl)) rfl ?_
    refine W.nil ?_
    refine W.then ?_
    refine W.seq ?_
    refine W.is (t := 21) (g := true) (av' := .lit (.bool false)) rfl (congrArg (fun b => AV.lit (.bool b)) (by simp; omega)) ?_
    refine W.condF (.t rfl) ?_
    refine W.exit ?_
    refine W.then_exit ?_
    refine W.then_exit ?_
    refine W.blk_hit ?_
    refine W.endn (M' := [.box b 102 _, .arr v1 22 1 _]) (D := _) (rs := []) (avs := []) Try.results52 trivial rfl (.refl _) ?_
    exact ⟨rfl, v1, rfl⟩

theorem c_walk (ps : List Pk) (hp0 : 0 < ps.length) (hp1 : ps.length ≤ 10) (b : Nat) (l : List Nd) (path : List Int) (r w : Nat → Bool) (fo : List (List Int)) (v vr vw : Value) (hl : Nd.szs l ≤ 16777216) (hpa : path.length + Nd.szs l ≤ 33554432) (hfo : fo.length + Nd.szs l ≤ 33554432) : FnC Try.prog 52 [.lit (.pointer (some ⟨b, 0, none⟩)), .sl 4 (l.map Nd.av), pav path, .lit vr, .lit vw] [.box b 102 [.sl 3 (ps.map kav), .lit v], .arr v 22 1 (fo.map pav), .arr vr 4 1 (rowB ps.length r), .arr vw 4 1 (rowB ps.length w)] (fun rr M => rr = .tup [] ∧ ∃ v', M = [.box b 102 [.sl 3 (ps.map kav), .lit v'], .arr v' 22 1 ((fo ++ Pk.fnds ps 0 l path r w).map pav)]) := by
  suffices H : ∀ n, n ≤ 16777216 → ∀ (b : Nat) (l : List Nd) (path : List Int) (r w : Nat → Bool) (fo : List (List Int)) (v vr vw : Value), Nd.szs l = n → path.length + n ≤ 33554432 → fo.length + n ≤ 33554432 → FnC Try.prog 52 [.lit (.pointer (some ⟨b, 0, none⟩)), .sl 4 (l.map Nd.av), pav path, .lit vr, .lit vw] [.box b 102 [.sl 3 (ps.map kav), .lit v], .arr v 22 1 (fo.map pav), .arr vr 4 1 (rowB ps.length r), .arr vw 4 1 (rowB ps.length w)] (fun rr M => rr = .tup [] ∧ ∃ v', M = [.box b 102 [.sl 3 (ps.map kav), .lit v'], .arr v' 22 1 ((fo ++ Pk.fnds ps 0 l path r w).map pav)]) from H _ hl b l path r w fo v vr vw rfl hpa hfo
  intro n
  induction n using Nat.strongRecOn with
  | _ n ih => exact fun hn b l path r w fo v vr vw hl hpa hfo => c_walk_step ps hp0 hp1 n hn (fun b l path r w fo v vr vw h1 h2 h3 => ih _ h1 (by omega) b l path r w fo v vr vw rfl h2 h3) b l path r w fo v vr vw hl hpa hfo

theorem c_Find (ps : List Pk) (hp0 : 0 < ps.length) (hp1 : ps.length ≤ 10) (hk : ∀ p ∈ ps, p.ok) (l : List Nd) (hl : Nd.szs l ≤ 16777216) : FnP Try.prog 39 [.sl 3 (ps.map kav), .sl 4 (l.map Nd.av)] (.tup [.sl 1 ((Pk.fnds ps 0 l [] (fun _ => false) (fun _ => false)).map pav), .int 0]) :=  by
  refine FnC.mk Try.func39 (by kernel_rfl) rfl Try.ntmps39 rfl (fun w0 F => ?_)
  have hplen : (ps.map kav).length = ps.length := List.length_map ..
  have hrep : List.replicate (ps.map kav).length (AV.bool false) = rowB ps.length (fun _ => false) := by rw [hplen, rowB_rep]
  refine W.seq ?_
  refine W.region ?_
  refine W.q (Ev.assign .k) rfl ?_
  refine W.q (Ev.assign .k) rfl ?_
  refine W.nil ?_
  refine W.then ?_
  refine W.seq ?_
  refine W.seq ?_
  refine W.region ?_
  refine W.q (Ev.move (.t rfl)) rfl ?_
  refine W.callp (WCheck.c_check ps hp0 hp1 hk) ⟨(.t rfl), trivial⟩ rfl ?_
  refine W.q (Ev.assign (.t rfl)) rfl ?_
  refine W.nil ?_
  refine W.then ?_
  refine W.seq ?_
  refine W.region ?_
  refine W.q (Ev.move (.t rfl)) rfl ?_
  refine W.q (Ev.nei (.t rfl) .k) rfl ?_
  refine W.nil ?_
  refine W.then ?_
  refine W.is (t := 11) (g := true) (av' := .lit (.bool false)) rfl (congrArg (fun b => AV.lit (.bool b)) (by rfl)) ?_
  refine W.condF (.t rfl) ?_
  refine W.skip ?_
  refine W.then ?_
  refine W.seq ?_
  refine W.region ?_
  refine W.q (Ev.move (.t rfl)) rfl ?_
  refine W.q (Ev.build ty102 st102 rfl (fun hg => ⟨_, _, _, rfl, (.t rfl), rfl, rfl, rfl, rfl⟩)) rfl ?_
  refine W.box (.t rfl) rfl rfl ?_
  intro b15
  refine W.q (Ev.assign (.t rfl)) rfl ?_
  refine W.nil ?_
  refine W.own_nil 22 1 ?_
  refine W.perm (List.Perm.swap _ _ []) ?_
  refine W.then ?_
  refine W.seq ?_
  refine W.drawnM (fun ee c => bif ee 8 then [.box b15 102 [.sl 3 (ps.map kav), .lit (c 8).2], .arr (c 8).2 22 1 ((Pk.fnds ps 0 l [] (fun _ => false) (fun _ => false)).map pav)] else (.box b15 102 [.sl 3 (ps.map kav), .lit (.slice none 0 0)] :: .arr (.slice none 0 0) 22 1 [] :: (bif ee 4 then [.arr (c 4).2 4 1 (List.replicate (ps.map kav).length (.bool false))] else []) ++ (bif ee 7 then [.arr (c 7).2 4 1 (List.replicate (ps.map kav).length (.bool false))] else []))) (c0 := ks0) (by kernel_rfl) (by kernel_rfl) rfl ?_
  refine DM.q (fun e c hk => (Ev.move (.t rfl))) rfl (fun _ _ => rfl) (fun c c_ h => by first | rfl) ?_
  refine DM.q (fun e c hk => (Ev.move (.t rfl))) rfl (fun _ _ => rfl) (fun c c_ h => by first | rfl) ?_
  refine DM.q (fun e c hk => (Ev.move (.t rfl))) rfl (fun _ _ => rfl) (fun c c_ h => by first | rfl) ?_
  first | refine DM.q (fun e c hk => (Ev.lensl (.t rfl) Try.underlying23)) rfl (fun _ _ => rfl) (fun c c_ h => by first | rfl) ?_ | refine DM.q (fun e c hk => (Ev.lenar (i := 0) (.t rfl) rfl Try.underlying23)) rfl (fun _ _ => rfl) (fun c c_ h => by first | rfl) ?_ | refine DM.q (fun e c hk => (Ev.lenar (i := 1) (.t rfl) rfl Try.underlying23)) rfl (fun _ _ => rfl) (fun c c_ h => by first | rfl) ?_ | refine DM.q (fun e c hk => (Ev.lenar (i := 2) (.t rfl) rfl Try.underlying23)) rfl (fun _ _ => rfl) (fun c c_ h => by first | rfl) ?_ | refine DM.q (fun e c hk => (Ev.lenar (i := 3) (.t rfl) rfl Try.underlying23)) rfl (fun _ _ => rfl) (fun c c_ h => by first | rfl) ?_
  refine DM.eff1 (av := fun c => .lit (c 4).2) rfl (fun c c_ h => by first | rfl | simp only [h 4 (by first | exact .inl rfl | exact .inr (by kernel_rfl))]) (fun e c hk L_ hs Q h => ?_) ?_
  · have hk_4 := hk.not
    cases hk_7 : e 7 <;> (
    have hk_8 := hk.down 8 (by kernel_rfl)
    simp only [addE, upd, eq_self, List.nil_append, List.cons_append, List.append_nil, hk_4, hk_7, hk_8, Nat.reduceAdd, Nat.reduceEqDiff, ↓reduceIte, cond_true, cond_false] at h ⊢
    exact W.mk (.t (hs _ _ rfl)) (.t (hs _ _ rfl)) Try.underlying104 ty4 rfl rfl rfl rfl rfl (by omega) rfl (fun v => h (0, v) _ (by first | exact .refl _ | exact (List.perm_middle (l₁ := [_])).symm | exact (List.perm_middle (l₁ := [_, _])).symm | exact (List.perm_middle (l₁ := [_, _, _])).symm | exact (List.perm_middle (l₁ := [_, _, _, _])).symm | exact (List.perm_middle (l₁ := [_, _, _, _, _])).symm | exact (List.perm_middle (l₁ := [_, _, _, _, _, _])).symm | exact (List.perm_middle (l₁ := [_, _, _, _, _, _, _])).symm | exact (List.perm_middle (l₁ := [_, _, _, _, _, _, _, _])).symm)))
  refine DM.q (fun e c hk => (Ev.move (.t rfl))) rfl (fun _ _ => rfl) (fun c c_ h => by first | rfl) ?_
  first | refine DM.q (fun e c hk => (Ev.lensl (.t rfl) Try.underlying23)) rfl (fun _ _ => rfl) (fun c c_ h => by first | rfl) ?_ | refine DM.q (fun e c hk => (Ev.lenar (i := 0) (.t rfl) rfl Try.underlying23)) rfl (fun _ _ => rfl) (fun c c_ h => by first | rfl) ?_ | refine DM.q (fun e c hk => (Ev.lenar (i := 1) (.t rfl) rfl Try.underlying23)) rfl (fun _ _ => rfl) (fun c c_ h => by first | rfl) ?_ | refine DM.q (fun e c hk => (Ev.lenar (i := 2) (.t rfl) rfl Try.underlying23)) rfl (fun _ _ => rfl) (fun c c_ h => by first | rfl) ?_ | refine DM.q (fun e c hk => (Ev.lenar (i := 3) (.t rfl) rfl Try.underlying23)) rfl (fun _ _ => rfl) (fun c c_ h => by first | rfl) ?_
  refine DM.eff1 (av := fun c => .lit (c 7).2) rfl (fun c c_ h => by first | rfl | simp only [h 7 (by first | exact .inl rfl | exact .inr (by kernel_rfl))]) (fun e c hk L_ hs Q h => ?_) ?_
  · have hk_7 := hk.not
    cases hk_4 : e 4 <;> (
    have hk_8 := hk.down 8 (by kernel_rfl)
    simp only [addE, upd, eq_self, List.nil_append, List.cons_append, List.append_nil, hk_7, hk_4, hk_8, Nat.reduceAdd, Nat.reduceEqDiff, ↓reduceIte, cond_true, cond_false] at h ⊢
    exact W.mk (.t (hs _ _ rfl)) (.t (hs _ _ rfl)) Try.underlying104 ty4 rfl rfl rfl rfl rfl (by omega) rfl (fun v => h (0, v) _ (by first | exact .refl _ | exact (List.perm_middle (l₁ := [_])).symm | exact (List.perm_middle (l₁ := [_, _])).symm | exact (List.perm_middle (l₁ := [_, _, _])).symm | exact (List.perm_middle (l₁ := [_, _, _, _])).symm | exact (List.perm_middle (l₁ := [_, _, _, _, _])).symm | exact (List.perm_middle (l₁ := [_, _, _, _, _, _])).symm | exact (List.perm_middle (l₁ := [_, _, _, _, _, _, _])).symm | exact (List.perm_middle (l₁ := [_, _, _, _, _, _, _, _])).symm)))
  refine DM.eff1 (av := fun c => .tup []) rfl (fun c c_ h => by first | rfl | simp only [h 4 (by first | exact .inl rfl | exact .inr (by kernel_rfl)), h 7 (by first | exact .inl rfl | exact .inr (by kernel_rfl)), h 8 (by first | exact .inl rfl | exact .inr (by kernel_rfl))]) (fun e c hk L_ hs Q h => ?_) ?_
  · have hk_8 := hk.not
    have hk_4 := hk.up 4 (by kernel_rfl)
    have hk_7 := hk.up 7 (by kernel_rfl)
    simp only [addE, upd, eq_self, List.nil_append, List.cons_append, List.append_nil, hk_8, hk_4, hk_7, Nat.reduceAdd, Nat.reduceEqDiff, ↓reduceIte, cond_true, cond_false] at h ⊢
    refine W.call (c_walk ps hp0 hp1 b15 l [] (fun _ => false) (fun _ => false) [] (.slice none 0 0) (c 4).2 (c 7).2 hl (by simp; omega) (by simp; omega)) ⟨(.t (hs _ _ rfl)), (.t (hs _ _ rfl)), (by first | exact .k | exact .kn), (.t (hs _ _ rfl)), (.t (hs _ _ rfl)), trivial⟩ (by rw [hrep]; exact .refl _) rfl ?_
    rintro _ _ ⟨rfl, v24, rfl⟩
    exact h (0, v24) _ (.refl _)
  refine DM.nil (fun cc e_ he_ => ?_)
  simp only [he_ 4 (by decide), he_ 7 (by decide), he_ 8 (by decide), cond_true, cond_false]
  generalize (cc 8).2 = v24
  refine W.then ?_
  refine W.seq ?_
  refine W.region ?_
  refine W.q (Ev.move (.t rfl)) rfl ?_
  refine W.q (Ev.nilc (.t rfl)) rfl ?_
  first | refine W.q (Ev.fae (.t rfl) fa102_1 rfl) rfl ?_ | refine W.q (Ev.fab (.t rfl) fa102_1) rfl ?_ | refine W.q (Ev.faa (.t rfl) fa102_1) rfl ?_
  first | refine W.q (Ev.lde1 (.t rfl) ag28) rfl ?_ | refine W.q (Ev.ldb1 0 (.t rfl) rfl ag28 rfl) rfl ?_ | refine W.q (Ev.ldb1 1 (.t rfl) rfl ag28 rfl) rfl ?_ | refine W.q (Ev.ldb1 2 (.t rfl) rfl ag28 rfl) rfl ?_ | refine W.q (Ev.ldb1 3 (.t rfl) rfl ag28 rfl) rfl ?_
  refine W.q (Ev.assign (.t rfl)) rfl ?_
  refine W.q (Ev.assign .k) rfl ?_
  refine W.nil ?_
  refine W.then ?_
  refine W.ret ?_
  refine W.freezeA (M1 := [_]) (M2 := [_]) (D := []) (v := v24) (L' := [(4, true, .sl 1 ((Pk.fnds ps 0 l [] (fun _ => false) (fun _ => false)).map pav))]) (List.perm_middle (l₁ := [_])) ⟨⟨_, rfl, .one .hit⟩, trivial⟩ (FrzMs.refl _) ?_
  refine W.retn (M' := []) (D := _) (rs := [.tmp 4, .tmp 5]) (avs := [_, _]) Try.results39 ⟨rfl, rfl, trivial⟩ rfl (.refl _) ?_
  exact ⟨rfl, rfl⟩

end WFind

end Go.Proofs.Yteepllfbnoaiaaa
