/-
  Start tags.
-/
import Derived.Test.YteepllfbnoaiaaaWEsc
set_option linter.unusedVariables false
set_option linter.unusedSimpArgs false
set_option maxRecDepth 100000
namespace Go.Proofs.Yteepllfbnoaiaaa
open Go.Vl

namespace WTag
theorem ty9 : Ty Try.prog 9 1 16 (.string ⟨#[]⟩) := Ty.of (by kernel_rfl)
theorem ty78 : Ty Try.prog 78 2 32 (.agg #[.string ⟨#[]⟩, .string ⟨#[]⟩]) := Ty.of (by kernel_rfl)
theorem ag9 : IsAgg Try.prog 9 false := ⟨_, Try.underlying9, rfl⟩
theorem ag78 : IsAgg Try.prog 78 true := ⟨_, Try.underlying78, rfl⟩
theorem fa78_0 : FieldAt Try.prog 78 0 0 1 false := ⟨_, _, Try.underlying78, rfl, rfl, ty9.size, ag9, by decide⟩
theorem fa78_1 : FieldAt Try.prog 78 1 1 1 false := ⟨_, _, Try.underlying78, rfl, rfl, ty9.size, ag9, by decide⟩
theorem c_Tag (name : List UInt8) (attrs : List Dc) (self : Bool) (hn : name.length ≤ 1048576) (hl : attrs.length ≤ 1048576) (ha : ∀ a ∈ attrs, a.1.length ≤ 1048576 ∧ a.2.length ≤ 1048576) : FnP Try.prog 45 [.str name, .sl 2 (attrs.map dav), .bool self] (.str (tagS name attrs self)) :=  by
  refine FnC.mk Try.func45 (by kernel_rfl) rfl Try.ntmps45 rfl (fun w0 F => ?_)
  have hal : (attrs.map dav).length = attrs.length := List.length_map ..
  refine W.seq ?_
  refine W.region ?_
  refine W.q (Ev.assign .k) rfl ?_
  refine W.nil ?_
  refine W.then ?_
  refine W.seq ?_
  refine W.region ?_
  refine W.q (Ev.move (.t rfl)) rfl ?_
  refine W.q (Ev.cat .k (.t rfl) (fun _ => by first | omega | (simp only [List.length_append]; omega) | (simp [-List.length_flatMap]; omega) | (simp; omega))) rfl ?_
  refine W.q (Ev.assign (.t rfl)) rfl ?_
  refine W.nil ?_
  refine W.then ?_
  refine W.seq ?_
  refine W.seq ?_
  refine W.region ?_
  refine W.q (Ev.move (.t rfl)) rfl ?_
  first | refine W.q (Ev.lensl (.t rfl) Try.underlying33) rfl ?_ | refine W.q (Ev.lenar (i := 0) (.t rfl) rfl Try.underlying33) rfl ?_ | refine W.q (Ev.lenar (i := 1) (.t rfl) rfl Try.underlying33) rfl ?_ | refine W.q (Ev.lenar (i := 2) (.t rfl) rfl Try.underlying33) rfl ?_ | refine W.q (Ev.lenar (i := 3) (.t rfl) rfl Try.underlying33) rfl ?_
  refine W.q (Ev.move .k) rfl ?_
  refine W.nil ?_
  refine W.then ?_
  refine W.block ?_
  refine W.is (t := 7) (g := true) (av' := .str (([60] ++ name) ++ (attrs.take 0).flatMap attrS)) rfl (congrArg AV.str (by simp)) ?_
  refine W.loop (D := []) (ι := Nat) (fun i => [(14, true, .int (i : Int)), (13, true, .int ((attrs.map dav).length : Int)), (12, true, .sl 2 (attrs.map dav)), (2, true, .bool self), (7, true, .str (([60] ++ name) ++ (attrs.take i).flatMap attrS))]) (fun _ => []) (fun i => i ≤ attrs.length) (fun i => attrs.length - i) 0 ⟨rfl, rfl, rfl, rfl, rfl, trivial⟩ (.refl _) (Nat.zero_le _) ?_
  intro i hi
  dsimp only at hi ⊢
  have hfl := Tk.flat_len attrS 7340038 (attrs.take i) (fun a h => by have h1 := ha a (List.mem_of_mem_take h); have h2 := esc_len true a.2; simp only [attrS, List.length_append, List.length_cons, List.length_nil]; omega)
  have htl : (attrs.take i).length ≤ attrs.length := by rw [List.length_take]; omega
  rcases (show i < attrs.length ∨ i = attrs.length from by omega) with hlt | hend
  · have hga := getD_mapG dav ([], []) attrs i hlt
    have htk := take_getDG ([], []) attrs i hlt
    have ham := ha _ (getD_memG ([], []) attrs i hlt)
    generalize attrs.getD i ([], []) = a at hga htk ham
    have hel := esc_len true a.2
    have hsn : ([60] ++ name) ++ (attrs.take (i + 1)).flatMap attrS = ([60] ++ name) ++ (attrs.take i).flatMap attrS ++ (((([32] ++ a.1) ++ [61, 34]) ++ esc true a.2) ++ [34]) := by rw [htk, List.flatMap_append, List.flatMap_singleton, attrS, List.append_assoc, List.append_assoc, List.append_assoc, List.append_assoc]; simp
    refine W.seq ?_
    refine W.region ?_
    refine W.q (Ev.lti (.t rfl) (.t rfl)) rfl ?_
    refine W.nil ?_
    refine W.then ?_
    refine W.seq ?_
    refine W.is (t := 15) (g := true) (av' := .lit (.bool true)) rfl (congrArg (fun b => AV.lit (.bool b)) (by exact decide_eq_true (by omega))) ?_
    refine W.condT (.t rfl) ?_
    refine W.skip ?_
    refine W.then ?_
    refine W.seq ?_
    refine W.block ?_
    refine W.seq ?_
    refine W.region ?_
    refine W.q (Ev.at (E := 78) (.t rfl) (.t rfl) Try.underlying33 ty78 (fun _ => ⟨by omega, hga⟩) rfl rfl) rfl ?_
    first | refine W.q (Ev.lden (.t rfl) ag78 ty78 rfl rfl) rfl ?_ | refine W.q (Ev.ldbn 0 (.t rfl) rfl ag78 ty78 rfl) rfl ?_ | refine W.q (Ev.ldbn 1 (.t rfl) rfl ag78 ty78 rfl) rfl ?_ | refine W.q (Ev.ldbn 2 (.t rfl) rfl ag78 ty78 rfl) rfl ?_ | refine W.q (Ev.ldbn 3 (.t rfl) rfl ag78 ty78 rfl) rfl ?_
    refine W.alloc ty78 rfl rfl ?_
    intro b9
    first | refine W.stb 0 (.t rfl) (.t rfl) rfl ty78 rfl rfl rfl ?_ | refine W.stb 1 (.t rfl) (.t rfl) rfl ty78 rfl rfl rfl ?_ | refine W.stb 2 (.t rfl) (.t rfl) rfl ty78 rfl rfl rfl ?_ | refine W.stb 3 (.t rfl) (.t rfl) rfl ty78 rfl rfl rfl ?_
    refine W.nil ?_
    refine W.then ?_
    refine W.drawn (by kernel_rfl) (by kernel_rfl) ?_
    refine DP.q (Ev.move (.t rfl)) rfl ?_
    first | refine DP.q (Ev.fae (.t rfl) fa78_0 rfl) rfl ?_ | refine DP.q (Ev.fab (.t rfl) fa78_0) rfl ?_ | refine DP.q (Ev.faa (.t rfl) fa78_0) rfl ?_
    first | refine DP.q (Ev.lde1 (.t rfl) ag9) rfl ?_ | refine DP.q (Ev.ldb1 0 (.t rfl) rfl ag9 rfl) rfl ?_ | refine DP.q (Ev.ldb1 1 (.t rfl) rfl ag9 rfl) rfl ?_ | refine DP.q (Ev.ldb1 2 (.t rfl) rfl ag9 rfl) rfl ?_ | refine DP.q (Ev.ldb1 3 (.t rfl) rfl ag9 rfl) rfl ?_
    refine DP.q (Ev.cat .k (.t rfl) (fun _ => by first | omega | (simp only [List.length_append]; omega) | (simp [-List.length_flatMap]; omega) | (simp; omega))) rfl ?_
    refine DP.q (Ev.cat (.t rfl) .k (fun _ => by first | omega | (simp only [List.length_append]; omega) | (simp [-List.length_flatMap]; omega) | (simp; omega))) rfl ?_
    first | refine DP.q (Ev.fae (.t rfl) fa78_1 rfl) rfl ?_ | refine DP.q (Ev.fab (.t rfl) fa78_1) rfl ?_ | refine DP.q (Ev.faa (.t rfl) fa78_1) rfl ?_
    first | refine DP.q (Ev.lde1 (.t rfl) ag9) rfl ?_ | refine DP.q (Ev.ldb1 0 (.t rfl) rfl ag9 rfl) rfl ?_ | refine DP.q (Ev.ldb1 1 (.t rfl) rfl ag9 rfl) rfl ?_ | refine DP.q (Ev.ldb1 2 (.t rfl) rfl ag9 rfl) rfl ?_ | refine DP.q (Ev.ldb1 3 (.t rfl) rfl ag9 rfl) rfl ?_
    refine DP.callp (WEsc.c_Escape a.2 true (by omega)) ⟨(.t rfl), .k, trivial⟩ rfl ?_
    refine DP.q (Ev.cat (.t rfl) (.t rfl) (fun _ => by first | omega | (simp only [List.length_append]; omega) | (simp [-List.length_flatMap]; omega) | (simp; omega))) rfl ?_
    refine DP.q (Ev.cat (.t rfl) .k (fun _ => by first | omega | (simp only [List.length_append]; omega) | (simp [-List.length_flatMap]; omega) | (simp; omega))) rfl ?_
    refine DP.q (Ev.cat (.t rfl) (.t rfl) (fun _ => by first | omega | (simp only [List.length_append]; omega) | (simp [-List.length_flatMap]; omega) | (simp; omega))) rfl ?_
    refine DP.q (Ev.assign (.t rfl)) rfl ?_
    refine DP.nil ?_
    refine W.blk_normal ?_
    refine W.then ?_
    refine W.region ?_
    first | refine W.q (Ev.add (.t rfl) .k (fun _ => by omega)) rfl ?_ | refine W.q (Ev.addw (.t rfl) .k) rfl ?_
    refine W.q (Ev.move (.t rfl)) rfl ?_
    refine W.nil ?_
    refine W.then ?_
    refine W.is (t := 7) (g := true) (av' := .str (([60] ++ name) ++ (attrs.take (i + 1)).flatMap attrS)) rfl (congrArg AV.str hsn.symm) ?_
    refine W.reach (D := [_]) (i + 1) ⟨rfl, rfl, rfl, rfl, rfl, trivial⟩ (.refl _) ⟨by show i + 1 ≤ _; omega, by show _ - (i + 1) < _; omega⟩
  · rw [List.take_of_length_le (by omega)] at hfl ⊢
    refine W.seq ?_
    refine W.region ?_
    refine W.q (Ev.lti (.t rfl) (.t rfl)) rfl ?_
    refine W.nil ?_
    refine W.then ?_
    refine W.seq ?_
    refine W.is (t := 15) (g := true) (av' := .lit (.bool false)) rfl (congrArg (fun b => AV.lit (.bool b)) (by exact decide_eq_false (by omega))) ?_
    refine W.condF (.t rfl) ?_
    refine W.exit ?_
    refine W.then_exit ?_
    refine W.then_exit ?_
    refine W.blk_hit ?_
    refine W.then ?_
    refine W.seq ?_
    refine W.seq ?_
    refine W.region ?_
    refine W.q (Ev.move (.t rfl)) rfl ?_
    refine W.nil ?_
    refine W.then ?_
    refine W.cond (.t rfl) (fun hc_t30 => ?_) (fun hc_t30 => ?_)
    · refine W.region ?_
      refine W.q (Ev.move (.t rfl)) rfl ?_
      refine W.q (Ev.cat (.t rfl) .k (fun _ => by first | omega | (simp only [List.length_append]; omega) | (simp [-List.length_flatMap]; omega) | (simp; omega))) rfl ?_
      refine W.q (Ev.assign (.t rfl)) rfl ?_
      refine W.nil ?_
      refine W.then ?_
      refine W.seq ?_
      refine W.region ?_
      refine W.q (Ev.move (.t rfl)) rfl ?_
      refine W.q (Ev.cat (.t rfl) .k (fun _ => by first | omega | (simp only [List.length_append]; omega) | (simp [-List.length_flatMap]; omega) | (simp; omega))) rfl ?_
      refine W.q (Ev.assign (.t rfl)) rfl ?_
      refine W.nil ?_
      refine W.then ?_
      refine W.ret ?_
      refine W.retn (M' := []) (rs := [.tmp 6]) (avs := [_]) Try.results45 ⟨rfl, trivial⟩ rfl (.refl _) ?_
      exact ⟨congrArg AV.str (by rw [tagS]; first | (rw [if_pos hc_t30]; done) | (rw [if_neg (by rw [hc_t30]; simp), List.append_nil]; done) | (rw [hc_t30]; simp)), rfl⟩
    · refine W.skip ?_
      refine W.then ?_
      refine W.seq ?_
      refine W.region ?_
      refine W.q (Ev.move (.t rfl)) rfl ?_
      refine W.q (Ev.cat (.t rfl) .k (fun _ => by first | omega | (simp only [List.length_append]; omega) | (simp [-List.length_flatMap]; omega) | (simp; omega))) rfl ?_
      refine W.q (Ev.assign (.t rfl)) rfl ?_
      refine W.nil ?_
      refine W.then ?_
      refine W.ret ?_
      refine W.retn (M' := []) (rs := [.tmp 6]) (avs := [_]) Try.results45 ⟨rfl, trivial⟩ rfl (.refl _) ?_
      exact ⟨congrArg AV.str (by rw [tagS]; first | (rw [if_pos hc_t30]; done) | (rw [if_neg (by rw [hc_t30]; simp), List.append_nil]; done) | (rw [hc_t30]; simp)), rfl⟩

end WTag

end Go.Proofs.Yteepllfbnoaiaaa
