/-
  Trees as text.
-/
import Derived.Test.YteepllfbnoaiaaaWVoid
import Derived.Test.YteepllfbnoaiaaaWTag
set_option linter.unusedVariables false
set_option linter.unusedSimpArgs false
set_option maxRecDepth 100000
namespace Go.Proofs.Yteepllfbnoaiaaa
open Go.Vl

namespace WShowOf
theorem ty9 : Ty Try.prog 9 1 16 (.string ⟨#[]⟩) := Ty.of (by kernel_rfl)
theorem ty25 : Ty Try.prog 25 1 24 (.slice none 0 0) := Ty.of (by kernel_rfl)
theorem ty33 : Ty Try.prog 33 1 24 (.slice none 0 0) := Ty.of (by kernel_rfl)
theorem ty35 : Ty Try.prog 35 4 80 (.agg #[.string ⟨#[]⟩, .slice none 0 0, .string ⟨#[]⟩, .slice none 0 0]) := Ty.of (by kernel_rfl)
theorem ag9 : IsAgg Try.prog 9 false := ⟨_, Try.underlying9, rfl⟩
theorem ag25 : IsAgg Try.prog 25 false := ⟨_, Try.underlying25, rfl⟩
theorem ag33 : IsAgg Try.prog 33 false := ⟨_, Try.underlying33, rfl⟩
theorem ag35 : IsAgg Try.prog 35 true := ⟨_, Try.underlying35, rfl⟩
theorem fa35_0 : FieldAt Try.prog 35 0 0 1 false := ⟨_, _, Try.underlying35, rfl, rfl, ty9.size, ag9, by decide⟩
theorem fa35_1 : FieldAt Try.prog 35 1 1 1 false := ⟨_, _, Try.underlying35, rfl, rfl, ty33.size, ag33, by decide⟩
theorem fa35_2 : FieldAt Try.prog 35 2 2 1 false := ⟨_, _, Try.underlying35, rfl, rfl, ty9.size, ag9, by decide⟩
theorem fa35_3 : FieldAt Try.prog 35 3 3 1 false := ⟨_, _, Try.underlying35, rfl, rfl, ty25.size, ag25, by decide⟩
theorem c_Of_step (n : Nat) (hn : n ≤ 16777216) (ih : ∀ l, Nd.szs l < n → ∀ (k : Nat) (p : Bool), Nd.sks k p l → FnP Try.prog 49 [.sl 4 (l.map Nd.av)] (.str (Nd.shs l))) (l : List Nd) (hl : Nd.szs l = n) (k : Nat) (hs : Nd.sks k false l) : FnP Try.prog 49 [.sl 4 (l.map Nd.av)] (.str (Nd.shs l)) :=  by
  refine FnC.mk Try.func49 (by kernel_rfl) rfl Try.ntmps49 rfl (fun w0 F => ?_)
  have hll : (l.map Nd.av).length = l.length := List.length_map ..
  have hsl := Nd.szs_len l
  have hsl2 := Nd.shs_len _ k false l (Nat.le_refl _) hs
  refine W.seq ?_
  refine W.region ?_
  refine W.q (Ev.assign .k) rfl ?_
  refine W.nil ?_
  refine W.then ?_
  refine W.seq ?_
  refine W.region ?_
  refine W.q (Ev.assign .k) rfl ?_
  refine W.nil ?_
  refine W.then ?_
  refine W.seq ?_
  refine W.seq ?_
  refine W.region ?_
  refine W.q (Ev.move (.t rfl)) rfl ?_
  first | refine W.q (Ev.lensl (.t rfl) Try.underlying25) rfl ?_ | refine W.q (Ev.lenar (i := 0) (.t rfl) rfl Try.underlying25) rfl ?_ | refine W.q (Ev.lenar (i := 1) (.t rfl) rfl Try.underlying25) rfl ?_ | refine W.q (Ev.lenar (i := 2) (.t rfl) rfl Try.underlying25) rfl ?_ | refine W.q (Ev.lenar (i := 3) (.t rfl) rfl Try.underlying25) rfl ?_
  refine W.q (Ev.move .k) rfl ?_
  refine W.nil ?_
  refine W.then ?_
  refine W.block ?_
  refine W.loop (D := []) (ι := Nat) (fun i => [(8, true, .int (i : Int)), (7, true, .int ((l.map Nd.av).length : Int)), (6, true, .sl 4 (l.map Nd.av)), (3, true, .str (Nd.shs (l.take i)))]) (fun _ => []) (fun i => i ≤ l.length) (fun i => l.length - i) 0 ⟨rfl, rfl, rfl, rfl, trivial⟩ (.refl _) (Nat.zero_le _) ?_
  intro i hi
  dsimp only at hi ⊢
  rcases (show i < l.length ∨ i = l.length from by omega) with hlt | hend
  · obtain ⟨hs1, _⟩ := Nd.sks_at hs i hlt
    have hga := Nd.at_av l i hlt
    have hsz := Nd.at_sz l i hlt
    generalize hd : l.getD i Nd.dflt = d at hga hsz
    have hse := Nd.sz_eq d
    have hsp := Nd.szs_len d.parts
    have hat : (d.attrs.map dav).length = d.attrs.length := List.length_map ..
    rw [hd] at hs1
    rw [Nd.sk_eq] at hs1
    obtain ⟨hk1, hdd⟩ := hs1
    have hsn := Nd.shs_snoc l i hlt
    rw [hd] at hsn
    have hst := Nd.shs_take_len l i
    have hd1 : d.name = [] → d.text.length ≤ 1000 := fun h => by rcases hdd with ⟨_, b2, b3, b4, b5⟩ | ⟨b1, _⟩; exact b5; exact absurd h b1
    have hd2 : d.name ≠ [] → nameOk d.name = true ∧ d.name.length ≤ 1000 ∧ okAt d.attrs ∧ (∀ x ∈ d.attrs, x.2.length ≤ 1000) ∧ d.text = [] ∧ (Nd.voidB d.name = true → d.parts = []) ∧ Nd.shutB d.name = false ∧ Nd.sks (k - 1) false d.parts := fun h => by rcases hdd with ⟨b1, _⟩ | ⟨_, b⟩; exact absurd b1 h; exact b
    refine W.seq ?_
    refine W.region ?_
    refine W.q (Ev.lti (.t rfl) (.t rfl)) rfl ?_
    refine W.nil ?_
    refine W.then ?_
    refine W.seq ?_
    refine W.is (t := 9) (g := true) (av' := .lit (.bool true)) rfl (congrArg (fun b => AV.lit (.bool b)) (by exact decide_eq_true (by omega))) ?_
    refine W.condT (.t rfl) ?_
    refine W.skip ?_
    refine W.then ?_
    refine W.seq ?_
    refine W.block ?_
    refine W.seq ?_
    refine W.region ?_
    refine W.q (Ev.at (E := 35) (.t rfl) (.t rfl) Try.underlying25 ty35 (fun _ => ⟨by omega, hga⟩) rfl rfl) rfl ?_
    first | refine W.q (Ev.lden (.t rfl) ag35 ty35 rfl rfl) rfl ?_ | refine W.q (Ev.ldbn 0 (.t rfl) rfl ag35 ty35 rfl) rfl ?_ | refine W.q (Ev.ldbn 1 (.t rfl) rfl ag35 ty35 rfl) rfl ?_ | refine W.q (Ev.ldbn 2 (.t rfl) rfl ag35 ty35 rfl) rfl ?_ | refine W.q (Ev.ldbn 3 (.t rfl) rfl ag35 ty35 rfl) rfl ?_
    refine W.alloc ty35 rfl rfl ?_
    intro b5
    first | refine W.stb 0 (.t rfl) (.t rfl) rfl ty35 rfl rfl rfl ?_ | refine W.stb 1 (.t rfl) (.t rfl) rfl ty35 rfl rfl rfl ?_ | refine W.stb 2 (.t rfl) (.t rfl) rfl ty35 rfl rfl rfl ?_ | refine W.stb 3 (.t rfl) (.t rfl) rfl ty35 rfl rfl rfl ?_
    refine W.nil ?_
    refine W.then ?_
    refine W.block ?_
    refine W.seq ?_
    refine W.region ?_
    first | refine W.q (Ev.fae (.t rfl) fa35_0 rfl) rfl ?_ | refine W.q (Ev.fab (.t rfl) fa35_0) rfl ?_ | refine W.q (Ev.faa (.t rfl) fa35_0) rfl ?_
    first | refine W.q (Ev.lde1 (.t rfl) ag9) rfl ?_ | refine W.q (Ev.ldb1 0 (.t rfl) rfl ag9 rfl) rfl ?_ | refine W.q (Ev.ldb1 1 (.t rfl) rfl ag9 rfl) rfl ?_ | refine W.q (Ev.ldb1 2 (.t rfl) rfl ag9 rfl) rfl ?_ | refine W.q (Ev.ldb1 3 (.t rfl) rfl ag9 rfl) rfl ?_
    refine W.q (Ev.eqs (.t rfl) .k) rfl ?_
    refine W.q (Ev.assign (.t rfl)) rfl ?_
    refine W.nil ?_
    refine W.then ?_
    refine W.cond (.t rfl) (fun hc_t28 => ?_) (fun hc_t28 => ?_)
    · have hnm : d.name = [] := beq_iff_eq.1 hc_t28
      have r4 := hd1 hnm
      have he := esc_len false d.text
      have hsh : Nd.sh1 d (Nd.shs d.parts) = esc false d.text := if_pos hnm
      refine W.region ?_
      refine W.q (Ev.move (.t rfl)) rfl ?_
      first | refine W.q (Ev.fae (.t rfl) fa35_2 rfl) rfl ?_ | refine W.q (Ev.fab (.t rfl) fa35_2) rfl ?_ | refine W.q (Ev.faa (.t rfl) fa35_2) rfl ?_
      first | refine W.q (Ev.lde1 (.t rfl) ag9) rfl ?_ | refine W.q (Ev.ldb1 0 (.t rfl) rfl ag9 rfl) rfl ?_ | refine W.q (Ev.ldb1 1 (.t rfl) rfl ag9 rfl) rfl ?_ | refine W.q (Ev.ldb1 2 (.t rfl) rfl ag9 rfl) rfl ?_ | refine W.q (Ev.ldb1 3 (.t rfl) rfl ag9 rfl) rfl ?_
      refine W.callp (WEsc.c_Escape d.text false (by omega)) ⟨(.t rfl), .k, trivial⟩ rfl ?_
      refine W.q (Ev.cat (.t rfl) (.t rfl) (fun _ => by first | omega | (simp only [List.length_append]; omega) | (simp [-List.length_flatMap]; omega) | (simp; omega))) rfl ?_
      refine W.q (Ev.assign (.t rfl)) rfl ?_
      refine W.nil ?_
      refine W.blk_normal ?_
      refine W.blk_normal ?_
      refine W.then ?_
      refine W.region ?_
      first | refine W.q (Ev.add (.t rfl) .k (fun _ => by omega)) rfl ?_ | refine W.q (Ev.addw (.t rfl) .k) rfl ?_
      refine W.q (Ev.move (.t rfl)) rfl ?_
      refine W.nil ?_
      refine W.then ?_
      refine W.is (t := 3) (g := true) (av' := .str (Nd.shs (l.take (i + 1)))) rfl (congrArg AV.str (by rw [hsn, hsh])) ?_
      refine W.reach (D := [_]) (i + 1) ⟨rfl, rfl, rfl, rfl, trivial⟩ (.refl _) ⟨by show i + 1 ≤ _; omega, by show _ - (i + 1) < _; omega⟩
    · have hnm : d.name ≠ [] := by simpa using hc_t28
      obtain ⟨s2, s3, s4, s5, s6, s7, s8, s9⟩ := hd2 hnm
      have htg := Nd.tagS_len d.name d.attrs s3 s4 s5
      have hps := Nd.shs_len _ _ _ d.parts (Nat.le_refl _) s9
      refine W.seq ?_
      refine W.region ?_
      first | refine W.q (Ev.fae (.t rfl) fa35_0 rfl) rfl ?_ | refine W.q (Ev.fab (.t rfl) fa35_0) rfl ?_ | refine W.q (Ev.faa (.t rfl) fa35_0) rfl ?_
      first | refine W.q (Ev.lde1 (.t rfl) ag9) rfl ?_ | refine W.q (Ev.ldb1 0 (.t rfl) rfl ag9 rfl) rfl ?_ | refine W.q (Ev.ldb1 1 (.t rfl) rfl ag9 rfl) rfl ?_ | refine W.q (Ev.ldb1 2 (.t rfl) rfl ag9 rfl) rfl ?_ | refine W.q (Ev.ldb1 3 (.t rfl) rfl ag9 rfl) rfl ?_
      refine W.callp (WVoid.c_Void d.name) ⟨(.t rfl), trivial⟩ rfl ?_
      refine W.q (Ev.assign (.t rfl)) rfl ?_
      refine W.nil ?_
      refine W.then ?_
      refine W.cond (.t rfl) (fun hc_t37 => ?_) (fun hc_t37 => ?_)
      · have hsh : Nd.sh1 d (Nd.shs d.parts) = tagS d.name d.attrs false := by rw [Nd.sh1, if_neg hnm, if_pos hc_t37]
        refine W.region ?_
        refine W.q (Ev.move (.t rfl)) rfl ?_
        first | refine W.q (Ev.fae (.t rfl) fa35_0 rfl) rfl ?_ | refine W.q (Ev.fab (.t rfl) fa35_0) rfl ?_ | refine W.q (Ev.faa (.t rfl) fa35_0) rfl ?_
        first | refine W.q (Ev.lde1 (.t rfl) ag9) rfl ?_ | refine W.q (Ev.ldb1 0 (.t rfl) rfl ag9 rfl) rfl ?_ | refine W.q (Ev.ldb1 1 (.t rfl) rfl ag9 rfl) rfl ?_ | refine W.q (Ev.ldb1 2 (.t rfl) rfl ag9 rfl) rfl ?_ | refine W.q (Ev.ldb1 3 (.t rfl) rfl ag9 rfl) rfl ?_
        first | refine W.q (Ev.fae (.t rfl) fa35_1 rfl) rfl ?_ | refine W.q (Ev.fab (.t rfl) fa35_1) rfl ?_ | refine W.q (Ev.faa (.t rfl) fa35_1) rfl ?_
        first | refine W.q (Ev.lde1 (.t rfl) ag33) rfl ?_ | refine W.q (Ev.ldb1 0 (.t rfl) rfl ag33 rfl) rfl ?_ | refine W.q (Ev.ldb1 1 (.t rfl) rfl ag33 rfl) rfl ?_ | refine W.q (Ev.ldb1 2 (.t rfl) rfl ag33 rfl) rfl ?_ | refine W.q (Ev.ldb1 3 (.t rfl) rfl ag33 rfl) rfl ?_
        refine W.callp (WTag.c_Tag d.name d.attrs false (by omega) (by have := s4.len; omega) (fun a ha => ⟨by have := (s4.all a ha).2; omega, by have := s5 a ha; omega⟩)) ⟨(.t rfl), (.t rfl), .k, trivial⟩ rfl ?_
        refine W.q (Ev.cat (.t rfl) (.t rfl) (fun _ => by first | omega | (simp only [List.length_append]; omega) | (simp [-List.length_flatMap]; omega) | (simp; omega))) rfl ?_
        refine W.q (Ev.assign (.t rfl)) rfl ?_
        refine W.nil ?_
        refine W.blk_normal ?_
        refine W.blk_normal ?_
        refine W.then ?_
        refine W.region ?_
        first | refine W.q (Ev.add (.t rfl) .k (fun _ => by omega)) rfl ?_ | refine W.q (Ev.addw (.t rfl) .k) rfl ?_
        refine W.q (Ev.move (.t rfl)) rfl ?_
        refine W.nil ?_
        refine W.then ?_
        refine W.is (t := 3) (g := true) (av' := .str (Nd.shs (l.take (i + 1)))) rfl (congrArg AV.str (by rw [hsn, hsh])) ?_
        refine W.reach (D := [_]) (i + 1) ⟨rfl, rfl, rfl, rfl, trivial⟩ (.refl _) ⟨by show i + 1 ≤ _; omega, by show _ - (i + 1) < _; omega⟩
      · have hsh : Nd.sh1 d (Nd.shs d.parts) = (((tagS d.name d.attrs false ++ Nd.shs d.parts) ++ [60, 47]) ++ d.name) ++ [62] := by rw [Nd.sh1, if_neg hnm, if_neg (by rw [hc_t37]; simp)]
        refine W.drawn (by kernel_rfl) (by kernel_rfl) ?_
        refine DP.q (Ev.move (.t rfl)) rfl ?_
        first | refine DP.q (Ev.fae (.t rfl) fa35_0 rfl) rfl ?_ | refine DP.q (Ev.fab (.t rfl) fa35_0) rfl ?_ | refine DP.q (Ev.faa (.t rfl) fa35_0) rfl ?_
        first | refine DP.q (Ev.lde1 (.t rfl) ag9) rfl ?_ | refine DP.q (Ev.ldb1 0 (.t rfl) rfl ag9 rfl) rfl ?_ | refine DP.q (Ev.ldb1 1 (.t rfl) rfl ag9 rfl) rfl ?_ | refine DP.q (Ev.ldb1 2 (.t rfl) rfl ag9 rfl) rfl ?_ | refine DP.q (Ev.ldb1 3 (.t rfl) rfl ag9 rfl) rfl ?_
        first | refine DP.q (Ev.fae (.t rfl) fa35_1 rfl) rfl ?_ | refine DP.q (Ev.fab (.t rfl) fa35_1) rfl ?_ | refine DP.q (Ev.faa (.t rfl) fa35_1) rfl ?_
        first | refine DP.q (Ev.lde1 (.t rfl) ag33) rfl ?_ | refine DP.q (Ev.ldb1 0 (.t rfl) rfl ag33 rfl) rfl ?_ | refine DP.q (Ev.ldb1 1 (.t rfl) rfl ag33 rfl) rfl ?_ | refine DP.q (Ev.ldb1 2 (.t rfl) rfl ag33 rfl) rfl ?_ | refine DP.q (Ev.ldb1 3 (.t rfl) rfl ag33 rfl) rfl ?_
        refine DP.callp (WTag.c_Tag d.name d.attrs false (by omega) (by have := s4.len; omega) (fun a ha => ⟨by have := (s4.all a ha).2; omega, by have := s5 a ha; omega⟩)) ⟨(.t rfl), (.t rfl), .k, trivial⟩ rfl ?_
        first | refine DP.q (Ev.fae (.t rfl) fa35_3 rfl) rfl ?_ | refine DP.q (Ev.fab (.t rfl) fa35_3) rfl ?_ | refine DP.q (Ev.faa (.t rfl) fa35_3) rfl ?_
        first | refine DP.q (Ev.lde1 (.t rfl) ag25) rfl ?_ | refine DP.q (Ev.ldb1 0 (.t rfl) rfl ag25 rfl) rfl ?_ | refine DP.q (Ev.ldb1 1 (.t rfl) rfl ag25 rfl) rfl ?_ | refine DP.q (Ev.ldb1 2 (.t rfl) rfl ag25 rfl) rfl ?_ | refine DP.q (Ev.ldb1 3 (.t rfl) rfl ag25 rfl) rfl ?_
        refine DP.callp (ih d.parts (by omega) (k - 1) false s9) ⟨(.t rfl), trivial⟩ rfl ?_
        refine DP.q (Ev.cat (.t rfl) (.t rfl) (fun _ => by first | omega | (simp only [List.length_append]; omega) | (simp [-List.length_flatMap]; omega) | (simp; omega))) rfl ?_
        refine DP.q (Ev.cat (.t rfl) .k (fun _ => by first | omega | (simp only [List.length_append]; omega) | (simp [-List.length_flatMap]; omega) | (simp; omega))) rfl ?_
        first | refine DP.q (Ev.fae (.t rfl) fa35_0 rfl) rfl ?_ | refine DP.q (Ev.fab (.t rfl) fa35_0) rfl ?_ | refine DP.q (Ev.faa (.t rfl) fa35_0) rfl ?_
        first | refine DP.q (Ev.lde1 (.t rfl) ag9) rfl ?_ | refine DP.q (Ev.ldb1 0 (.t rfl) rfl ag9 rfl) rfl ?_ | refine DP.q (Ev.ldb1 1 (.t rfl) rfl ag9 rfl) rfl ?_ | refine DP.q (Ev.ldb1 2 (.t rfl) rfl ag9 rfl) rfl ?_ | refine DP.q (Ev.ldb1 3 (.t rfl) rfl ag9 rfl) rfl ?_
        refine DP.q (Ev.cat (.t rfl) (.t rfl) (fun _ => by first | omega | (simp only [List.length_append]; omega) | (simp [-List.length_flatMap]; omega) | (simp; omega))) rfl ?_
        refine DP.q (Ev.cat (.t rfl) .k (fun _ => by first | omega | (simp only [List.length_append]; omega) | (simp [-List.length_flatMap]; omega) | (simp; omega))) rfl ?_
        refine DP.q (Ev.cat (.t rfl) (.t rfl) (fun _ => by first | omega | (simp only [List.length_append]; omega) | (simp [-List.length_flatMap]; omega) | (simp; omega))) rfl ?_
        refine DP.q (Ev.assign (.t rfl)) rfl ?_
        refine DP.nil ?_
        refine W.blk_normal ?_
        refine W.blk_normal ?_
        refine W.then ?_
        refine W.region ?_
        first | refine W.q (Ev.add (.t rfl) .k (fun _ => by omega)) rfl ?_ | refine W.q (Ev.addw (.t rfl) .k) rfl ?_
        refine W.q (Ev.move (.t rfl)) rfl ?_
        refine W.nil ?_
        refine W.then ?_
        refine W.is (t := 3) (g := true) (av' := .str (Nd.shs (l.take (i + 1)))) rfl (congrArg AV.str (by rw [hsn, hsh])) ?_
        refine W.reach (D := [_]) (i + 1) ⟨rfl, rfl, rfl, rfl, trivial⟩ (.refl _) ⟨by show i + 1 ≤ _; omega, by show _ - (i + 1) < _; omega⟩
  · have he : l.take i = l := List.take_of_length_le (by omega)
    rw [he]
    refine W.seq ?_
    refine W.region ?_
    refine W.q (Ev.lti (.t rfl) (.t rfl)) rfl ?_
    refine W.nil ?_
    refine W.then ?_
    refine W.seq ?_
    refine W.is (t := 9) (g := true) (av' := .lit (.bool false)) rfl (congrArg (fun b => AV.lit (.bool b)) (by exact decide_eq_false (by omega))) ?_
    refine W.condF (.t rfl) ?_
    refine W.exit ?_
    refine W.then_exit ?_
    refine W.then_exit ?_
    refine W.blk_hit ?_
    refine W.then ?_
    refine W.seq ?_
    refine W.region ?_
    refine W.q (Ev.move (.t rfl)) rfl ?_
    refine W.q (Ev.assign (.t rfl)) rfl ?_
    refine W.nil ?_
    refine W.then ?_
    refine W.ret ?_
    refine W.retn (M' := []) (rs := [.tmp 2]) (avs := [_]) Try.results49 ⟨rfl, trivial⟩ rfl (.refl _) ?_
    exact ⟨rfl, rfl⟩

theorem c_Of (l : List Nd) (hl : Nd.szs l ≤ 16777216) (k : Nat) (hs : Nd.sks k false l) : FnP Try.prog 49 [.sl 4 (l.map Nd.av)] (.str (Nd.shs l)) := by
  suffices H : ∀ n, n ≤ 16777216 → ∀ l, Nd.szs l = n → ∀ k, Nd.sks k false l → FnP Try.prog 49 [.sl 4 (l.map Nd.av)] (.str (Nd.shs l)) from H _ hl l rfl k hs
  intro n
  induction n using Nat.strongRecOn with
  | _ n ih => exact fun hn l hl k hs => c_Of_step n hn (fun l' h' k p hp => ih _ h' (by omega) l' rfl k (Nd.sks_false hp)) l hl k hs

end WShowOf

end Go.Proofs.Yteepllfbnoaiaaa
