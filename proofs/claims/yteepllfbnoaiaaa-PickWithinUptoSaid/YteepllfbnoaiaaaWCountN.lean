/-
  Elements that are counted.
-/
import Derived.Test.YteepllfbnoaiaaaPick
import Derived.Test.YteepllfbnoaiaaaBase
set_option linter.unusedVariables false
set_option linter.unusedSimpArgs false
set_option maxRecDepth 100000
namespace Go.Proofs.Yteepllfbnoaiaaa
open Go.Vl

namespace WCountN
theorem ty9 : Ty Try.prog 9 1 16 (.string ⟨#[]⟩) := Ty.of (by kernel_rfl)
theorem ty25 : Ty Try.prog 25 1 24 (.slice none 0 0) := Ty.of (by kernel_rfl)
theorem ty35 : Ty Try.prog 35 4 80 (.agg #[.string ⟨#[]⟩, .slice none 0 0, .string ⟨#[]⟩, .slice none 0 0]) := Ty.of (by kernel_rfl)
theorem ag9 : IsAgg Try.prog 9 false := ⟨_, Try.underlying9, rfl⟩
theorem ag25 : IsAgg Try.prog 25 false := ⟨_, Try.underlying25, rfl⟩
theorem fa35_0 : FieldAt Try.prog 35 0 0 1 false := ⟨_, _, Try.underlying35, rfl, rfl, ty9.size, ag9, by decide⟩
theorem fa35_3 : FieldAt Try.prog 35 3 3 1 false := ⟨_, _, Try.underlying35, rfl, rfl, ty25.size, ag25, by decide⟩
theorem c_count_step (s : List UInt8) (n : Nat) (hn : n ≤ 16777216) (ih : ∀ l, Nd.szs l < n → FnP Try.prog 21 [.sl 4 (l.map Nd.av), .str s] (.tup [.int (Pk.elss l : Int), .int (Pk.nmss s l : Int)])) (l : List Nd) (hl : Nd.szs l = n) : FnP Try.prog 21 [.sl 4 (l.map Nd.av), .str s] (.tup [.int (Pk.elss l : Int), .int (Pk.nmss s l : Int)]) :=  by
  refine FnC.mk Try.func21 (by kernel_rfl) rfl Try.ntmps21 rfl (fun w0 F => ?_)
  have hll : (l.map Nd.av).length = l.length := List.length_map ..
  have hsl := Nd.szs_len l
  refine W.seq ?_
  refine W.region ?_
  refine W.q (Ev.assign .k) rfl ?_
  refine W.q (Ev.assign .k) rfl ?_
  refine W.nil ?_
  refine W.then ?_
  refine W.seq ?_
  refine W.region ?_
  refine W.q (Ev.assign .k) rfl ?_
  refine W.nil ?_
  refine W.then ?_
  refine W.seq ?_
  refine W.region ?_
  refine W.q (Ev.assign .k) rfl ?_
  refine W.nil ?_
  refine W.then ?_
  refine W.seq ?_
  refine W.seq ?_
  refine W.region ?_
  refine W.q (Ev.assign .k) rfl ?_
  refine W.nil ?_
  refine W.then ?_
  refine W.block ?_
  refine W.loop (D := []) (ι := Nat) (fun i => [(8, true, .int (i : Int)), (0, true, .sl 4 (l.map Nd.av)), (1, true, .str s), (6, true, .int (Pk.elss (l.take i) : Int)), (7, true, .int (Pk.nmss s (l.take i) : Int))]) (fun _ => []) (fun i => i ≤ l.length) (fun i => l.length - i) 0 ⟨rfl, rfl, rfl, rfl, rfl, trivial⟩ (.refl _) (Nat.zero_le _) ?_
  intro i hi
  dsimp only at hi ⊢
  rcases (show i < l.length ∨ i = l.length from by omega) with hlt | hend
  · have hga := Nd.at_av l i hlt
    have hsz := Nd.at_sz l i hlt
    generalize hd : l.getD i Nd.dflt = d at hga hsz
    have hse := Nd.sz_eq d
    have hsp := Nd.szs_len d.parts
    have hat : (d.attrs.map dav).length = d.attrs.length := List.length_map ..
    have hs1 := Pk.elss_snoc l i hlt
    have hs2 := Pk.nmss_snoc s l i hlt
    rw [hd] at hs1 hs2
    have he1 := Pk.elss_le (l.take i)
    have he2 := Pk.nmss_le s (l.take i)
    have he3 := Pk.elss_le d.parts
    have he4 := Pk.nmss_le s d.parts
    have hft : Nd.szs (l.take i) ≤ Nd.szs l := by have h1 := Nd.szs_append (l.take i) (l.drop i); rw [List.take_append_drop] at h1; omega
    refine W.seq ?_
    refine W.seq ?_
    refine W.region ?_
    refine W.q (Ev.move (.t rfl)) rfl ?_
    refine W.q (Ev.move (.t rfl)) rfl ?_
    first | refine W.q (Ev.lensl (.t rfl) Try.underlying25) rfl ?_ | refine W.q (Ev.lenar (i := 0) (.t rfl) rfl Try.underlying25) rfl ?_ | refine W.q (Ev.lenar (i := 1) (.t rfl) rfl Try.underlying25) rfl ?_ | refine W.q (Ev.lenar (i := 2) (.t rfl) rfl Try.underlying25) rfl ?_ | refine W.q (Ev.lenar (i := 3) (.t rfl) rfl Try.underlying25) rfl ?_
    refine W.q (Ev.lti (.t rfl) (.t rfl)) rfl ?_
    refine W.nil ?_
    refine W.then ?_
    refine W.is (t := 14) (g := true) (av' := .lit (.bool true)) rfl (congrArg (fun b => AV.lit (.bool b)) (by simp; omega)) ?_
    refine W.condT (.t rfl) ?_
    refine W.skip ?_
    refine W.then ?_
    refine W.seq ?_
    refine W.block ?_
    refine W.seq ?_
    refine W.seq ?_
    refine W.region ?_
    refine W.q (Ev.move (.t rfl)) rfl ?_
    refine W.q (Ev.move (.t rfl)) rfl ?_
    refine W.q (Ev.at (E := 35) (.t rfl) (.t rfl) Try.underlying25 ty35 (fun _ => ⟨by omega, hga⟩) rfl rfl) rfl ?_
    first | refine W.q (Ev.fae (.t rfl) fa35_0 rfl) rfl ?_ | refine W.q (Ev.fab (.t rfl) fa35_0) rfl ?_ | refine W.q (Ev.faa (.t rfl) fa35_0) rfl ?_
    first | refine W.q (Ev.lde1 (.t rfl) ag9) rfl ?_ | refine W.q (Ev.ldb1 0 (.t rfl) rfl ag9 rfl) rfl ?_ | refine W.q (Ev.ldb1 1 (.t rfl) rfl ag9 rfl) rfl ?_ | refine W.q (Ev.ldb1 2 (.t rfl) rfl ag9 rfl) rfl ?_ | refine W.q (Ev.ldb1 3 (.t rfl) rfl ag9 rfl) rfl ?_
    refine W.q (Ev.eqs (.t rfl) .k) rfl ?_
    refine W.nil ?_
    refine W.then ?_
    refine W.cond (.t rfl) (fun hc_t22 => ?_) (fun hc_t22 => ?_)
    · have hnm : d.name = [] := beq_iff_eq.1 hc_t22
      rw [if_pos hnm] at hs1 hs2
      refine W.exit ?_
      refine W.then_exit ?_
      refine W.blk_hit ?_
      refine W.then ?_
      refine W.region ?_
      refine W.q (Ev.move (.t rfl)) rfl ?_
      first | refine W.q (Ev.add (.t rfl) .k (fun _ => by omega)) rfl ?_ | refine W.q (Ev.addw (.t rfl) .k) rfl ?_
      refine W.q (Ev.assign (.t rfl)) rfl ?_
      refine W.nil ?_
      refine W.then ?_
      refine W.is (t := 6) (g := true) (av' := .int (Pk.elss (l.take (i + 1)) : Int)) rfl (congrArg AV.int (by rw [hs1]; omega)) ?_
      refine W.is (t := 7) (g := true) (av' := .int (Pk.nmss s (l.take (i + 1)) : Int)) rfl (congrArg AV.int (by rw [hs2]; omega)) ?_
      refine W.reach (D := []) (i + 1) ⟨rfl, rfl, rfl, rfl, rfl, trivial⟩ (.refl _) ⟨by show i + 1 ≤ _; omega, by show _ - (i + 1) < _; omega⟩
    · have hnm : d.name ≠ [] := by simpa using hc_t22
      rw [if_neg hnm] at hs1 hs2
      refine W.skip ?_
      refine W.then ?_
      refine W.seq ?_
      refine W.region ?_
      refine W.q (Ev.move (.t rfl)) rfl ?_
      first | refine W.q (Ev.add (.t rfl) .k (fun _ => by omega)) rfl ?_ | refine W.q (Ev.addw (.t rfl) .k) rfl ?_
      refine W.q (Ev.assign (.t rfl)) rfl ?_
      refine W.nil ?_
      refine W.then ?_
      refine W.seq ?_
      refine W.seq ?_
      refine W.region ?_
      refine W.q (Ev.move (.t rfl)) rfl ?_
      refine W.q (Ev.move (.t rfl)) rfl ?_
      refine W.q (Ev.at (E := 35) (.t rfl) (.t rfl) Try.underlying25 ty35 (fun _ => ⟨by omega, hga⟩) rfl rfl) rfl ?_
      first | refine W.q (Ev.fae (.t rfl) fa35_0 rfl) rfl ?_ | refine W.q (Ev.fab (.t rfl) fa35_0) rfl ?_ | refine W.q (Ev.faa (.t rfl) fa35_0) rfl ?_
      first | refine W.q (Ev.lde1 (.t rfl) ag9) rfl ?_ | refine W.q (Ev.ldb1 0 (.t rfl) rfl ag9 rfl) rfl ?_ | refine W.q (Ev.ldb1 1 (.t rfl) rfl ag9 rfl) rfl ?_ | refine W.q (Ev.ldb1 2 (.t rfl) rfl ag9 rfl) rfl ?_ | refine W.q (Ev.ldb1 3 (.t rfl) rfl ag9 rfl) rfl ?_
      refine W.q (Ev.move (.t rfl)) rfl ?_
      refine W.q (Ev.eqs (.t rfl) (.t rfl)) rfl ?_
      refine W.nil ?_
      refine W.then ?_
      refine W.cond (.t rfl) (fun hc_t31 => ?_) (fun hc_t31 => ?_)
      · have h31 : d.name = s := beq_iff_eq.1 hc_t31
        rw [if_pos h31] at hs2
        refine W.region ?_
        refine W.q (Ev.move (.t rfl)) rfl ?_
        first | refine W.q (Ev.add (.t rfl) .k (fun _ => by omega)) rfl ?_ | refine W.q (Ev.addw (.t rfl) .k) rfl ?_
        refine W.q (Ev.assign (.t rfl)) rfl ?_
        refine W.nil ?_
        refine W.then ?_
        refine W.seq ?_
        refine W.region ?_
        refine W.q (Ev.move (.t rfl)) rfl ?_
        refine W.q (Ev.move (.t rfl)) rfl ?_
        refine W.q (Ev.at (E := 35) (.t rfl) (.t rfl) Try.underlying25 ty35 (fun _ => ⟨by omega, hga⟩) rfl rfl) rfl ?_
        first | refine W.q (Ev.fae (.t rfl) fa35_3 rfl) rfl ?_ | refine W.q (Ev.fab (.t rfl) fa35_3) rfl ?_ | refine W.q (Ev.faa (.t rfl) fa35_3) rfl ?_
        first | refine W.q (Ev.lde1 (.t rfl) ag25) rfl ?_ | refine W.q (Ev.ldb1 0 (.t rfl) rfl ag25 rfl) rfl ?_ | refine W.q (Ev.ldb1 1 (.t rfl) rfl ag25 rfl) rfl ?_ | refine W.q (Ev.ldb1 2 (.t rfl) rfl ag25 rfl) rfl ?_ | refine W.q (Ev.ldb1 3 (.t rfl) rfl ag25 rfl) rfl ?_
        refine W.q (Ev.move (.t rfl)) rfl ?_
        refine W.callp (ih d.parts (by omega)) ⟨(.t rfl), (.t rfl), trivial⟩ rfl ?_
        refine W.q (Ev.move (.t rfl)) rfl ?_
        refine W.q (Ev.extract (.t rfl) rfl) rfl ?_
        refine W.q (Ev.extract (.t rfl) rfl) rfl ?_
        refine W.q (Ev.assign (.t rfl)) rfl ?_
        refine W.q (Ev.assign (.t rfl)) rfl ?_
        refine W.nil ?_
        refine W.then ?_
        refine W.seq ?_
        refine W.region ?_
        refine W.q (Ev.move (.t rfl)) rfl ?_
        refine W.q (Ev.move (.t rfl)) rfl ?_
        first | refine W.q (Ev.add (.t rfl) (.t rfl) (fun _ => by omega)) rfl ?_ | refine W.q (Ev.addw (.t rfl) (.t rfl)) rfl ?_
        refine W.q (Ev.assign (.t rfl)) rfl ?_
        refine W.nil ?_
        refine W.then ?_
        refine W.region ?_
        refine W.q (Ev.move (.t rfl)) rfl ?_
        refine W.q (Ev.move (.t rfl)) rfl ?_
        first | refine W.q (Ev.add (.t rfl) (.t rfl) (fun _ => by omega)) rfl ?_ | refine W.q (Ev.addw (.t rfl) (.t rfl)) rfl ?_
        refine W.q (Ev.assign (.t rfl)) rfl ?_
        refine W.nil ?_
        refine W.blk_normal ?_
        refine W.then ?_
        refine W.region ?_
        refine W.q (Ev.move (.t rfl)) rfl ?_
        first | refine W.q (Ev.add (.t rfl) .k (fun _ => by omega)) rfl ?_ | refine W.q (Ev.addw (.t rfl) .k) rfl ?_
        refine W.q (Ev.assign (.t rfl)) rfl ?_
        refine W.nil ?_
        refine W.then ?_
        refine W.is (t := 6) (g := true) (av' := .int (Pk.elss (l.take (i + 1)) : Int)) rfl (congrArg AV.int (by rw [hs1]; omega)) ?_
        refine W.is (t := 7) (g := true) (av' := .int (Pk.nmss s (l.take (i + 1)) : Int)) rfl (congrArg AV.int (by rw [hs2]; omega)) ?_
        refine W.reach (D := []) (i + 1) ⟨rfl, rfl, rfl, rfl, rfl, trivial⟩ (.refl _) ⟨by show i + 1 ≤ _; omega, by show _ - (i + 1) < _; omega⟩
      · have h31 : d.name ≠ s := by simpa using hc_t31
        rw [if_neg h31] at hs2
        refine W.skip ?_
        refine W.then ?_
        refine W.seq ?_
        refine W.region ?_
        refine W.q (Ev.move (.t rfl)) rfl ?_
        refine W.q (Ev.move (.t rfl)) rfl ?_
        refine W.q (Ev.at (E := 35) (.t rfl) (.t rfl) Try.underlying25 ty35 (fun _ => ⟨by omega, hga⟩) rfl rfl) rfl ?_
        first | refine W.q (Ev.fae (.t rfl) fa35_3 rfl) rfl ?_ | refine W.q (Ev.fab (.t rfl) fa35_3) rfl ?_ | refine W.q (Ev.faa (.t rfl) fa35_3) rfl ?_
        first | refine W.q (Ev.lde1 (.t rfl) ag25) rfl ?_ | refine W.q (Ev.ldb1 0 (.t rfl) rfl ag25 rfl) rfl ?_ | refine W.q (Ev.ldb1 1 (.t rfl) rfl ag25 rfl) rfl ?_ | refine W.q (Ev.ldb1 2 (.t rfl) rfl ag25 rfl) rfl ?_ | refine W.q (Ev.ldb1 3 (.t rfl) rfl ag25 rfl) rfl ?_
        refine W.q (Ev.move (.t rfl)) rfl ?_
        refine W.callp (ih d.parts (by omega)) ⟨(.t rfl), (.t rfl), trivial⟩ rfl ?_
        refine W.q (Ev.move (.t rfl)) rfl ?_
        refine W.q (Ev.extract (.t rfl) rfl) rfl ?_
        refine W.q (Ev.extract (.t rfl) rfl) rfl ?_
        refine W.q (Ev.assign (.t rfl)) rfl ?_
        refine W.q (Ev.assign (.t rfl)) rfl ?_
        refine W.nil ?_
        refine W.then ?_
        refine W.seq ?_
        refine W.region ?_
        refine W.q (Ev.move (.t rfl)) rfl ?_
        refine W.q (Ev.move (.t rfl)) rfl ?_
        first | refine W.q (Ev.add (.t rfl) (.t rfl) (fun _ => by omega)) rfl ?_ | refine W.q (Ev.addw (.t rfl) (.t rfl)) rfl ?_
        refine W.q (Ev.assign (.t rfl)) rfl ?_
        refine W.nil ?_
        refine W.then ?_
        refine W.region ?_
        refine W.q (Ev.move (.t rfl)) rfl ?_
        refine W.q (Ev.move (.t rfl)) rfl ?_
        first | refine W.q (Ev.add (.t rfl) (.t rfl) (fun _ => by omega)) rfl ?_ | refine W.q (Ev.addw (.t rfl) (.t rfl)) rfl ?_
        refine W.q (Ev.assign (.t rfl)) rfl ?_
        refine W.nil ?_
        refine W.blk_normal ?_
        refine W.then ?_
        refine W.region ?_
        refine W.q (Ev.move (.t rfl)) rfl ?_
        first | refine W.q (Ev.add (.t rfl) .k (fun _ => by omega)) rfl ?_ | refine W.q (Ev.addw (.t rfl) .k) rfl ?_
        refine W.q (Ev.assign (.t rfl)) rfl ?_
        refine W.nil ?_
        refine W.then ?_
        refine W.is (t := 6) (g := true) (av' := .int (Pk.elss (l.take (i + 1)) : Int)) rfl (congrArg AV.int (by rw [hs1]; omega)) ?_
        refine W.is (t := 7) (g := true) (av' := .int (Pk.nmss s (l.take (i + 1)) : Int)) rfl (congrArg AV.int (by rw [hs2]; omega)) ?_
        refine W.reach (D := []) (i + 1) ⟨rfl, rfl, rfl, rfl, rfl, trivial⟩ (.refl _) ⟨by show i + 1 ≤ _; omega, by show _ - (i + 1) < _; omega⟩
  · have he : l.take i = l := List.take_of_length_le (by omega)
    rw [he]
    refine W.seq ?_
    refine W.seq ?_
    refine W.region ?_
    refine W.q (Ev.move (.t rfl)) rfl ?_
    refine W.q (Ev.move (.t rfl)) rfl ?_
    first | refine W.q (Ev.lensl (.t rfl) Try.underlying25) rfl ?_ | refine W.q (Ev.lenar (i := 0) (.t rfl) rfl Try.underlying25) rfl ?_ | refine W.q (Ev.lenar (i := 1) (.t rfl) rfl Try.underlying25) rfl ?_ | refine W.q (Ev.lenar (i := 2) (.t rfl) rfl Try.underlying25) rfl ?_ | refine W.q (Ev.lenar (i := 3) (.t rfl) rfl Try.underlying25) rfl ?_
    refine W.q (Ev.lti (.t rfl) (.t rfl)) rfl ?_
    refine W.nil ?_
    refine W.then ?_
    refine W.is (t := 14) (g := true) (av' := .lit (.bool false)) rfl (congrArg (fun b => AV.lit (.bool b)) (by simp; omega)) ?_
    refine W.condF (.t rfl) ?_
    refine W.exit ?_
    refine W.then_exit ?_
    refine W.then_exit ?_
    refine W.blk_hit ?_
    refine W.then ?_
    refine W.seq ?_
    refine W.region ?_
    refine W.q (Ev.move (.t rfl)) rfl ?_
    refine W.q (Ev.move (.t rfl)) rfl ?_
    refine W.q (Ev.assign (.t rfl)) rfl ?_
    refine W.q (Ev.assign (.t rfl)) rfl ?_
    refine W.nil ?_
    refine W.then ?_
    refine W.ret ?_
    refine W.retn (M' := []) (rs := [.tmp 4, .tmp 5]) (avs := [_, _]) Try.results21 ⟨rfl, rfl, trivial⟩ rfl (.refl _) ?_
    exact ⟨rfl, rfl⟩

theorem c_countNamed (s : List UInt8) (l : List Nd) (hl : Nd.szs l ≤ 16777216) : FnP Try.prog 21 [.sl 4 (l.map Nd.av), .str s] (.tup [.int (Pk.elss l : Int), .int (Pk.nmss s l : Int)]) := by
  suffices H : ∀ n, n ≤ 16777216 → ∀ l, Nd.szs l = n → FnP Try.prog 21 [.sl 4 (l.map Nd.av), .str s] (.tup [.int (Pk.elss l : Int), .int (Pk.nmss s l : Int)]) from H _ hl l rfl
  intro n
  induction n using Nat.strongRecOn with
  | _ n ih => exact fun hn l hl => c_count_step s n hn (fun l' h' => ih _ h' (by omega) l' rfl) l hl

end WCountN

end Go.Proofs.Yteepllfbnoaiaaa
