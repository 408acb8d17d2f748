/-
  All texts.
-/
import Derived.Test.YteepllfbnoaiaaaDrawn
import Derived.Test.YteepllfbnoaiaaaBase
set_option linter.unusedVariables false
set_option linter.unusedSimpArgs false
set_option maxRecDepth 100000
namespace Go.Proofs.Yteepllfbnoaiaaa
open Go.Vl

namespace WWords
theorem ty9 : Ty Try.prog 9 1 16 (.string ⟨#[]⟩) := Ty.of (by kernel_rfl)
theorem ty25 : Ty Try.prog 25 1 24 (.slice none 0 0) := Ty.of (by kernel_rfl)
theorem ty35 : Ty Try.prog 35 4 80 (.agg #[.string ⟨#[]⟩, .slice none 0 0, .string ⟨#[]⟩, .slice none 0 0]) := Ty.of (by kernel_rfl)
theorem ag9 : IsAgg Try.prog 9 false := ⟨_, Try.underlying9, rfl⟩
theorem ag25 : IsAgg Try.prog 25 false := ⟨_, Try.underlying25, rfl⟩
theorem fa35_2 : FieldAt Try.prog 35 2 2 1 false := ⟨_, _, Try.underlying35, rfl, rfl, ty9.size, ag9, by decide⟩
theorem fa35_3 : FieldAt Try.prog 35 3 3 1 false := ⟨_, _, Try.underlying35, rfl, rfl, ty25.size, ag25, by decide⟩
theorem c_words_step (n : Nat) (hn : n ≤ 16777216) (ih : ∀ l, Nd.szs l < n → Nd.tszs l ≤ 1073741824 → FnP Try.prog 27 [.sl 4 (l.map Nd.av)] (.str (Nd.wds l))) (l : List Nd) (hl : Nd.szs l = n) (ht : Nd.tszs l ≤ 1073741824) : FnP Try.prog 27 [.sl 4 (l.map Nd.av)] (.str (Nd.wds l)) :=  by
  refine FnC.mk Try.func27 (by kernel_rfl) rfl Try.ntmps27 rfl (fun w0 F => ?_)
  have hll : (l.map Nd.av).length = l.length := List.length_map ..
  have hsl := Nd.szs_len l
  refine W.seq ?_
  refine W.region ?_
  refine W.q (Ev.assign .k) rfl ?_
  refine W.nil ?_
  refine W.then ?_
  refine W.seq ?_
  refine W.region ?_
  refine W.q (Ev.assign .k) rfl ?_
  refine W.nil ?_
  refine W.then ?_
  refine W.seq ?_
  refine W.seq ?_
  refine W.region ?_
  refine W.q (Ev.assign .k) rfl ?_
  refine W.nil ?_
  refine W.then ?_
  refine W.block ?_
  refine W.loop (D := []) (ι := Nat) (fun i => [(4, true, .int (i : Int)), (3, true, .str (Nd.wds (l.take i))), (0, true, .sl 4 (l.map Nd.av))]) (fun _ => []) (fun i => i ≤ l.length) (fun i => l.length - i) 0 ⟨rfl, rfl, rfl, trivial⟩ (.refl _) (Nat.zero_le _) ?_
  intro i hi
  dsimp only at hi ⊢
  rcases (show i < l.length ∨ i = l.length from by omega) with hlt | hend
  · have hga := Nd.at_av l i hlt
    have hsz := Nd.at_sz l i hlt
    generalize hd : l.getD i Nd.dflt = d at hga hsz
    have hse := Nd.sz_eq d
    have hsp := Nd.szs_len d.parts
    have hat : (d.attrs.map dav).length = d.attrs.length := List.length_map ..
    have hsn := Nd.wds_snoc l i hlt
    have htm := Nd.at_tsz l i hlt
    rw [hd] at hsn htm
    have htd := Nd.tsz_eq d
    have hw1 := Nd.wds_len (l.take i)
    have hw2 := Nd.wds_len d.parts
    have htt := Nd.tszs_take l i
    refine W.seq ?_
    refine W.seq ?_
    refine W.region ?_
    refine W.q (Ev.move (.t rfl)) rfl ?_
    refine W.q (Ev.move (.t rfl)) rfl ?_
    first | refine W.q (Ev.lensl (.t rfl) Try.underlying25) rfl ?_ | refine W.q (Ev.lenar (i := 0) (.t rfl) rfl Try.underlying25) rfl ?_ | refine W.q (Ev.lenar (i := 1) (.t rfl) rfl Try.underlying25) rfl ?_ | refine W.q (Ev.lenar (i := 2) (.t rfl) rfl Try.underlying25) rfl ?_ | refine W.q (Ev.lenar (i := 3) (.t rfl) rfl Try.underlying25) rfl ?_
    refine W.q (Ev.lti (.t rfl) (.t rfl)) rfl ?_
    refine W.nil ?_
    refine W.then ?_
    refine W.is (t := 8) (g := true) (av' := .lit (.bool true)) rfl (congrArg (fun b => AV.lit (.bool b)) (by exact decide_eq_true (by omega))) ?_
    refine W.condT (.t rfl) ?_
    refine W.skip ?_
    refine W.then ?_
    refine W.seq ?_
    refine W.block ?_
    refine W.drawn (by kernel_rfl) (by kernel_rfl) ?_
    refine DP.q (Ev.move (.t rfl)) rfl ?_
    refine DP.q (Ev.move (.t rfl)) rfl ?_
    refine DP.q (Ev.move (.t rfl)) rfl ?_
    refine DP.q (Ev.at (E := 35) (.t rfl) (.t rfl) Try.underlying25 ty35 (fun _ => ⟨by omega, hga⟩) rfl rfl) rfl ?_
    first | refine DP.q (Ev.fae (.t rfl) fa35_2 rfl) rfl ?_ | refine DP.q (Ev.fab (.t rfl) fa35_2) rfl ?_ | refine DP.q (Ev.faa (.t rfl) fa35_2) rfl ?_
    first | refine DP.q (Ev.lde1 (.t rfl) ag9) rfl ?_ | refine DP.q (Ev.ldb1 0 (.t rfl) rfl ag9 rfl) rfl ?_ | refine DP.q (Ev.ldb1 1 (.t rfl) rfl ag9 rfl) rfl ?_ | refine DP.q (Ev.ldb1 2 (.t rfl) rfl ag9 rfl) rfl ?_ | refine DP.q (Ev.ldb1 3 (.t rfl) rfl ag9 rfl) rfl ?_
    refine DP.q (Ev.move (.t rfl)) rfl ?_
    refine DP.q (Ev.move (.t rfl)) rfl ?_
    refine DP.q (Ev.at (E := 35) (.t rfl) (.t rfl) Try.underlying25 ty35 (fun _ => ⟨by omega, hga⟩) rfl rfl) rfl ?_
    first | refine DP.q (Ev.fae (.t rfl) fa35_3 rfl) rfl ?_ | refine DP.q (Ev.fab (.t rfl) fa35_3) rfl ?_ | refine DP.q (Ev.faa (.t rfl) fa35_3) rfl ?_
    first | refine DP.q (Ev.lde1 (.t rfl) ag25) rfl ?_ | refine DP.q (Ev.ldb1 0 (.t rfl) rfl ag25 rfl) rfl ?_ | refine DP.q (Ev.ldb1 1 (.t rfl) rfl ag25 rfl) rfl ?_ | refine DP.q (Ev.ldb1 2 (.t rfl) rfl ag25 rfl) rfl ?_ | refine DP.q (Ev.ldb1 3 (.t rfl) rfl ag25 rfl) rfl ?_
    refine DP.callp (ih d.parts (by omega) (by omega)) ⟨(.t rfl), trivial⟩ rfl ?_
    refine DP.q (Ev.cat (.t rfl) (.t rfl) (fun _ => by first | omega | (simp only [List.length_append]; omega) | (simp [-List.length_flatMap]; omega) | (simp; omega))) rfl ?_
    refine DP.q (Ev.cat (.t rfl) (.t rfl) (fun _ => by first | omega | (simp only [List.length_append]; omega) | (simp [-List.length_flatMap]; omega) | (simp; omega))) rfl ?_
    refine DP.q (Ev.assign (.t rfl)) rfl ?_
    refine DP.nil ?_
    refine W.blk_normal ?_
    refine W.then ?_
    refine W.region ?_
    refine W.q (Ev.move (.t rfl)) rfl ?_
    first | refine W.q (Ev.add (.t rfl) .k (fun _ => by omega)) rfl ?_ | refine W.q (Ev.addw (.t rfl) .k) rfl ?_
    refine W.q (Ev.assign (.t rfl)) rfl ?_
    refine W.nil ?_
    refine W.then ?_
    refine W.is (t := 3) (g := true) (av' := .str (Nd.wds (l.take (i + 1)))) rfl (congrArg AV.str hsn.symm) ?_
    refine W.reach (D := []) (i + 1) ⟨rfl, rfl, rfl, trivial⟩ (.refl _) ⟨by show i + 1 ≤ _; omega, by show _ - (i + 1) < _; omega⟩
  · have he : l.take i = l := List.take_of_length_le (by omega)
    rw [he]
    refine W.seq ?_
    refine W.seq ?_
    refine W.region ?_
    refine W.q (Ev.move (.t rfl)) rfl ?_
    refine W.q (Ev.move (.t rfl)) rfl ?_
    first | refine W.q (Ev.lensl (.t rfl) Try.underlying25) rfl ?_ | refine W.q (Ev.lenar (i := 0) (.t rfl) rfl Try.underlying25) rfl ?_ | refine W.q (Ev.lenar (i := 1) (.t rfl) rfl Try.underlying25) rfl ?_ | refine W.q (Ev.lenar (i := 2) (.t rfl) rfl Try.underlying25) rfl ?_ | refine W.q (Ev.lenar (i := 3) (.t rfl) rfl Try.underlying25) rfl ?_
    refine W.q (Ev.lti (.t rfl) (.t rfl)) rfl ?_
    refine W.nil ?_
    refine W.then ?_
    refine W.is (t := 8) (g := true) (av' := .lit (.bool false)) rfl (congrArg (fun b => AV.lit (.bool b)) (by exact decide_eq_false (by omega))) ?_
    refine W.condF (.t rfl) ?_
    refine W.exit ?_
    refine W.then_exit ?_
    refine W.then_exit ?_
    refine W.blk_hit ?_
    refine W.then ?_
    refine W.seq ?_
    refine W.region ?_
    refine W.q (Ev.move (.t rfl)) rfl ?_
    refine W.q (Ev.assign (.t rfl)) rfl ?_
    refine W.nil ?_
    refine W.then ?_
    refine W.ret ?_
    refine W.retn (M' := []) (rs := [.tmp 2]) (avs := [_]) Try.results27 ⟨rfl, trivial⟩ rfl (.refl _) ?_
    exact ⟨rfl, rfl⟩

theorem c_words (l : List Nd) (hl : Nd.szs l ≤ 16777216) (ht : Nd.tszs l ≤ 1073741824) : FnP Try.prog 27 [.sl 4 (l.map Nd.av)] (.str (Nd.wds l)) := by
  suffices H : ∀ n, n ≤ 16777216 → ∀ l, Nd.szs l = n → Nd.tszs l ≤ 1073741824 → FnP Try.prog 27 [.sl 4 (l.map Nd.av)] (.str (Nd.wds l)) from H _ hl l rfl ht
  intro n
  induction n using Nat.strongRecOn with
  | _ n ih => exact fun hn l hl ht => c_words_step n hn (fun l' h' ht' => ih _ h' (by omega) l' rfl ht') l hl ht

end WWords

end Go.Proofs.Yteepllfbnoaiaaa
