/-
  Tokens as text.
-/
import Derived.Test.YteepllfbnoaiaaaWECheck
import Derived.Test.YteepllfbnoaiaaaWTag
set_option linter.unusedVariables false
set_option linter.unusedSimpArgs false
set_option maxRecDepth 100000
namespace Go.Proofs.Yteepllfbnoaiaaa
open Go.Vl

namespace WEText
theorem ty3 : Ty Try.prog 3 1 8 (.int .i64 0) := Ty.of (by kernel_rfl)
theorem ty4 : Ty Try.prog 4 1 1 (.bool false) := Ty.of (by kernel_rfl)
theorem ty9 : Ty Try.prog 9 1 16 (.string ⟨#[]⟩) := Ty.of (by kernel_rfl)
theorem ty33 : Ty Try.prog 33 1 24 (.slice none 0 0) := Ty.of (by kernel_rfl)
theorem ty72 : Ty Try.prog 72 5 72 (.agg #[.int .i64 0, .string ⟨#[]⟩, .slice none 0 0, .bool false, .string ⟨#[]⟩]) := Ty.of (by kernel_rfl)
theorem ty89 : Ty Try.prog 89 2 32 (.agg #[.pointer none, .slice none 0 0]) := Ty.of (by kernel_rfl)
theorem ag3 : IsAgg Try.prog 3 false := ⟨_, Try.underlying3, rfl⟩
theorem ag4 : IsAgg Try.prog 4 false := ⟨_, Try.underlying4, rfl⟩
theorem ag9 : IsAgg Try.prog 9 false := ⟨_, Try.underlying9, rfl⟩
theorem ag33 : IsAgg Try.prog 33 false := ⟨_, Try.underlying33, rfl⟩
theorem ag72 : IsAgg Try.prog 72 true := ⟨_, Try.underlying72, rfl⟩
theorem fa72_0 : FieldAt Try.prog 72 0 0 1 false := ⟨_, _, Try.underlying72, rfl, rfl, ty3.size, ag3, by decide⟩
theorem fa72_1 : FieldAt Try.prog 72 1 1 1 false := ⟨_, _, Try.underlying72, rfl, rfl, ty9.size, ag9, by decide⟩
theorem fa72_2 : FieldAt Try.prog 72 2 2 1 false := ⟨_, _, Try.underlying72, rfl, rfl, ty33.size, ag33, by decide⟩
theorem fa72_3 : FieldAt Try.prog 72 3 3 1 false := ⟨_, _, Try.underlying72, rfl, rfl, ty4.size, ag4, by decide⟩
theorem fa72_4 : FieldAt Try.prog 72 4 4 1 false := ⟨_, _, Try.underlying72, rfl, rfl, ty9.size, ag9, by decide⟩
theorem c_Text (l : List Tk) (hd : Tk.drawns false l) (hl : l.length ≤ 12) : FnP Try.prog 35 [.sl 5 (l.map tav)] (.tup [.str (Tk.txts l), .int 0]) :=  by
  refine FnC.mk Try.func35 (by kernel_rfl) rfl Try.ntmps35 rfl (fun w0 F => ?_)
  have hll : (l.map tav).length = l.length := List.length_map ..
  have hxl := Tk.txts_len hd
  refine W.seq ?_
  refine W.region ?_
  refine W.q (Ev.assign .k) rfl ?_
  refine W.q (Ev.assign .k) rfl ?_
  refine W.nil ?_
  refine W.then ?_
  refine W.seq ?_
  refine W.seq ?_
  refine W.region ?_
  refine W.q (Ev.move (.t rfl)) rfl ?_
  refine W.callp (WECheck.c_Check l hd (by omega)) ⟨(.t rfl), trivial⟩ rfl ?_
  refine W.q (Ev.assign (.t rfl)) rfl ?_
  refine W.nil ?_
  refine W.then ?_
  refine W.seq ?_
  refine W.region ?_
  refine W.q (Ev.move (.t rfl)) rfl ?_
  refine W.q (Ev.nei (.t rfl) .k) rfl ?_
  refine W.nil ?_
  refine W.then ?_
  refine W.is (t := 11) (g := true) (av' := .lit (.bool false)) rfl (congrArg (fun b => AV.lit (.bool b)) (by rfl)) ?_
  refine W.condF (.t rfl) ?_
  refine W.skip ?_
  refine W.then ?_
  refine W.seq ?_
  refine W.region ?_
  refine W.alloc ty89 rfl rfl ?_
  intro b5
  refine W.nil ?_
  refine W.then ?_
  refine W.seq ?_
  refine W.seq ?_
  refine W.region ?_
  refine W.q (Ev.move (.t rfl)) rfl ?_
  first | refine W.q (Ev.lensl (.t rfl) Try.underlying67) rfl ?_ | refine W.q (Ev.lenar (i := 0) (.t rfl) rfl Try.underlying67) rfl ?_ | refine W.q (Ev.lenar (i := 1) (.t rfl) rfl Try.underlying67) rfl ?_ | refine W.q (Ev.lenar (i := 2) (.t rfl) rfl Try.underlying67) rfl ?_ | refine W.q (Ev.lenar (i := 3) (.t rfl) rfl Try.underlying67) rfl ?_
  refine W.q (Ev.move .k) rfl ?_
  refine W.nil ?_
  refine W.then ?_
  refine W.block ?_
  refine W.own_nil 5 1 ?_
  refine W.perm (List.Perm.swap _ _ []) ?_
  refine W.loop (D := []) (ι := Nat × List UInt8 × Value × Option Addr) (fun z => [(15, true, .int (z.1 : Int)), (14, true, .int ((l.map tav).length : Int)), (13, true, .sl 5 (l.map tav)), (5, true, .lit (.pointer (some ⟨b5, 0, none⟩)))]) (fun z => [.box b5 89 [.lit (.pointer z.2.2.2), .lit z.2.2.1], .arr z.2.2.1 5 1 (z.2.1.map AV.u8)]) (fun z => z.1 ≤ l.length ∧ Tk.txts (l.take z.1) = z.2.1 ∧ (z.2.2.1 = .slice none 0 0 ∨ z.2.1 ≠ []) ∧ (z.2.2.2 = none ∨ z.2.2.2 = some ⟨b5, 0, none⟩)) (fun z => l.length - z.1) (0, [], .slice none 0 0, none) ⟨rfl, rfl, rfl, rfl, trivial⟩ (.refl _) ⟨Nat.zero_le _, by simp [Tk.txts], .inl rfl, .inl rfl⟩ ?_
  rintro ⟨i, out, v, p⟩ ⟨hi1, hi2, hi4, hi5⟩
  dsimp only at hi1 hi2 hi4 hi5 ⊢
  rcases (show i < l.length ∨ i = l.length from by omega) with hlt | hend
  · have hga := getD_mapG tav Tk.dfl l i hlt
    have hsn := Tk.txts_snoc l i hlt
    have hdt := Tk.txts_len (Tk.drawns_take i hd).1
    rw [hi2, List.length_take] at hdt
    obtain ⟨hdi, _⟩ := Tk.drawns_at hd i hlt
    generalize ht : l.getD i Tk.dfl = t at hga hdi hsn
    obtain ⟨hd1, hd2, hd3, hd4⟩ := Tk.drawn_at hdi
    have htl := Tk.txt_len hdi
    have htn := Tk.txt_ne hdi
    refine W.seq ?_
    refine W.region ?_
    refine W.q (Ev.lti (.t rfl) (.t rfl)) rfl ?_
    refine W.nil ?_
    refine W.then ?_
    refine W.seq ?_
    refine W.is (t := 16) (g := true) (av' := .lit (.bool true)) rfl (congrArg (fun b => AV.lit (.bool b)) (by exact decide_eq_true (by omega))) ?_
    refine W.condT (.t rfl) ?_
    refine W.skip ?_
    refine W.then ?_
    refine W.seq ?_
    refine W.block ?_
    refine W.seq ?_
    refine W.region ?_
    refine W.q (Ev.at (E := 72) (.t rfl) (.t rfl) Try.underlying67 ty72 (fun _ => ⟨by omega, hga⟩) rfl rfl) rfl ?_
    first | refine W.q (Ev.lden (.t rfl) ag72 ty72 rfl rfl) rfl ?_ | refine W.q (Ev.ldbn 0 (.t rfl) rfl ag72 ty72 rfl) rfl ?_ | refine W.q (Ev.ldbn 1 (.t rfl) rfl ag72 ty72 rfl) rfl ?_ | refine W.q (Ev.ldbn 2 (.t rfl) rfl ag72 ty72 rfl) rfl ?_ | refine W.q (Ev.ldbn 3 (.t rfl) rfl ag72 ty72 rfl) rfl ?_
    refine W.alloc ty72 rfl rfl ?_
    intro b7
    first | refine W.stb 0 (.t rfl) (.t rfl) rfl ty72 rfl rfl rfl ?_ | refine W.stb 1 (.t rfl) (.t rfl) rfl ty72 rfl rfl rfl ?_ | refine W.stb 2 (.t rfl) (.t rfl) rfl ty72 rfl rfl rfl ?_ | refine W.stb 3 (.t rfl) (.t rfl) rfl ty72 rfl rfl rfl ?_
    refine W.nil ?_
    refine W.then ?_
    refine W.seq ?_
    refine W.region ?_
    first | refine W.q (Ev.fae (.t rfl) fa72_0 rfl) rfl ?_ | refine W.q (Ev.fab (.t rfl) fa72_0) rfl ?_ | refine W.q (Ev.faa (.t rfl) fa72_0) rfl ?_
    first | refine W.q (Ev.lde1 (.t rfl) ag3) rfl ?_ | refine W.q (Ev.ldb1 0 (.t rfl) rfl ag3 rfl) rfl ?_ | refine W.q (Ev.ldb1 1 (.t rfl) rfl ag3 rfl) rfl ?_ | refine W.q (Ev.ldb1 2 (.t rfl) rfl ag3 rfl) rfl ?_ | refine W.q (Ev.ldb1 3 (.t rfl) rfl ag3 rfl) rfl ?_
    refine W.nil ?_
    refine W.then ?_
    refine W.block ?_
    refine W.seq ?_
    refine W.region ?_
    refine W.q (Ev.eqi (.t rfl) .k) rfl ?_
    refine W.q (Ev.assign (.t rfl)) rfl ?_
    refine W.nil ?_
    refine W.then ?_
    refine W.cond (.t rfl) (fun hc_t25 => ?_) (fun hc_t25 => ?_)
    · have h25 := beq_iff_eq.1 hc_t25
      have htx : Tk.txt t = tagS t.name t.attrs t.self := if_pos h25
      refine W.region ?_
      rw [htx] at htl
      first | refine W.q (Ev.fae (.t rfl) fa72_1 rfl) rfl ?_ | refine W.q (Ev.fab (.t rfl) fa72_1) rfl ?_ | refine W.q (Ev.faa (.t rfl) fa72_1) rfl ?_
      first | refine W.q (Ev.lde1 (.t rfl) ag9) rfl ?_ | refine W.q (Ev.ldb1 0 (.t rfl) rfl ag9 rfl) rfl ?_ | refine W.q (Ev.ldb1 1 (.t rfl) rfl ag9 rfl) rfl ?_ | refine W.q (Ev.ldb1 2 (.t rfl) rfl ag9 rfl) rfl ?_ | refine W.q (Ev.ldb1 3 (.t rfl) rfl ag9 rfl) rfl ?_
      first | refine W.q (Ev.fae (.t rfl) fa72_2 rfl) rfl ?_ | refine W.q (Ev.fab (.t rfl) fa72_2) rfl ?_ | refine W.q (Ev.faa (.t rfl) fa72_2) rfl ?_
      first | refine W.q (Ev.lde1 (.t rfl) ag33) rfl ?_ | refine W.q (Ev.ldb1 0 (.t rfl) rfl ag33 rfl) rfl ?_ | refine W.q (Ev.ldb1 1 (.t rfl) rfl ag33 rfl) rfl ?_ | refine W.q (Ev.ldb1 2 (.t rfl) rfl ag33 rfl) rfl ?_ | refine W.q (Ev.ldb1 3 (.t rfl) rfl ag33 rfl) rfl ?_
      first | refine W.q (Ev.fae (.t rfl) fa72_3 rfl) rfl ?_ | refine W.q (Ev.fab (.t rfl) fa72_3) rfl ?_ | refine W.q (Ev.faa (.t rfl) fa72_3) rfl ?_
      first | refine W.q (Ev.lde1 (.t rfl) ag4) rfl ?_ | refine W.q (Ev.ldb1 0 (.t rfl) rfl ag4 rfl) rfl ?_ | refine W.q (Ev.ldb1 1 (.t rfl) rfl ag4 rfl) rfl ?_ | refine W.q (Ev.ldb1 2 (.t rfl) rfl ag4 rfl) rfl ?_ | refine W.q (Ev.ldb1 3 (.t rfl) rfl ag4 rfl) rfl ?_
      refine W.callp (WTag.c_Tag t.name t.attrs t.self (by omega) (by have := hd1.len; omega) (fun a ha => ⟨by have := (hd1.all a ha).2; omega, Tk.drawn_val hdi a ha⟩)) ⟨(.t rfl), (.t rfl), (.t rfl), trivial⟩ rfl ?_
      refine W.call (WStr.c_WriteString b5 p v out hi5 (tagS t.name t.attrs t.self) (by omega)) ⟨(.t rfl), (.t rfl), trivial⟩ (List.perm_append_comm (l₁ := [_])) rfl ?_
      rintro _ _ ⟨rfl, v34, rfl⟩
      refine W.nil ?_
      refine W.blk_normal ?_
      refine W.blk_normal ?_
      refine W.then ?_
      refine W.region ?_
      first | refine W.q (Ev.add (.t rfl) .k (fun _ => by omega)) rfl ?_ | refine W.q (Ev.addw (.t rfl) .k) rfl ?_
      refine W.q (Ev.move (.t rfl)) rfl ?_
      refine W.nil ?_
      refine W.then ?_
      first
      | (refine W.reach (D := [_]) (i + 1, out ++ (tagS t.name t.attrs t.self), v34, some ⟨b5, 0, none⟩) ⟨rfl, rfl, rfl, rfl, trivial⟩ (.refl _) ⟨⟨by show i + 1 ≤ _; omega, by rw [hsn, hi2, htx], .inr (by rw [← htx]; simp [htn]), .inr rfl⟩, by show _ - (i + 1) < _; omega⟩)
      | (refine W.reach (D := [_]) (i + 1, out ++ (([60, 47] ++ t.name) ++ [62]), v41, some ⟨b5, 0, none⟩) ⟨rfl, rfl, rfl, rfl, trivial⟩ (.refl _) ⟨⟨by show i + 1 ≤ _; omega, by rw [hsn, hi2, htx], .inr (by rw [← htx]; simp [htn]), .inr rfl⟩, by show _ - (i + 1) < _; omega⟩)
      | (refine W.reach (D := [_]) (i + 1, out ++ (esc false t.text), v24, some ⟨b5, 0, none⟩) ⟨rfl, rfl, rfl, rfl, trivial⟩ (.refl _) ⟨⟨by show i + 1 ≤ _; omega, by rw [hsn, hi2, htx], .inr (by rw [← htx]; simp [htn]), .inr rfl⟩, by show _ - (i + 1) < _; omega⟩)
    · have h25 := beq_eq_false_iff_ne.1 hc_t25
      refine W.seq ?_
      refine W.region ?_
      refine W.q (Ev.eqi (.t rfl) .k) rfl ?_
      refine W.q (Ev.assign (.t rfl)) rfl ?_
      refine W.nil ?_
      refine W.then ?_
      refine W.cond (.t rfl) (fun hc_t35 => ?_) (fun hc_t35 => ?_)
      · have h35 := beq_iff_eq.1 hc_t35
        have htx : Tk.txt t = ([60, 47] ++ t.name) ++ [62] := by rw [Tk.txt, if_neg h25, if_pos h35]
        refine W.region ?_
        rw [htx] at htl
        first | refine W.q (Ev.fae (.t rfl) fa72_1 rfl) rfl ?_ | refine W.q (Ev.fab (.t rfl) fa72_1) rfl ?_ | refine W.q (Ev.faa (.t rfl) fa72_1) rfl ?_
        first | refine W.q (Ev.lde1 (.t rfl) ag9) rfl ?_ | refine W.q (Ev.ldb1 0 (.t rfl) rfl ag9 rfl) rfl ?_ | refine W.q (Ev.ldb1 1 (.t rfl) rfl ag9 rfl) rfl ?_ | refine W.q (Ev.ldb1 2 (.t rfl) rfl ag9 rfl) rfl ?_ | refine W.q (Ev.ldb1 3 (.t rfl) rfl ag9 rfl) rfl ?_
        refine W.q (Ev.cat .k (.t rfl) (fun _ => by first | omega | (simp only [List.length_append]; omega) | (simp [-List.length_flatMap]; omega) | (simp; omega))) rfl ?_
        refine W.q (Ev.cat (.t rfl) .k (fun _ => by first | omega | (simp only [List.length_append]; omega) | (simp [-List.length_flatMap]; omega) | (simp; omega))) rfl ?_
        refine W.call (WStr.c_WriteString b5 p v out hi5 (([60, 47] ++ t.name) ++ [62]) (by omega)) ⟨(.t rfl), (.t rfl), trivial⟩ (List.perm_append_comm (l₁ := [_])) rfl ?_
        rintro _ _ ⟨rfl, v41, rfl⟩
        refine W.nil ?_
        refine W.blk_normal ?_
        refine W.blk_normal ?_
        refine W.then ?_
        refine W.region ?_
        first | refine W.q (Ev.add (.t rfl) .k (fun _ => by omega)) rfl ?_ | refine W.q (Ev.addw (.t rfl) .k) rfl ?_
        refine W.q (Ev.move (.t rfl)) rfl ?_
        refine W.nil ?_
        refine W.then ?_
        first
        | (refine W.reach (D := [_]) (i + 1, out ++ (tagS t.name t.attrs t.self), v34, some ⟨b5, 0, none⟩) ⟨rfl, rfl, rfl, rfl, trivial⟩ (.refl _) ⟨⟨by show i + 1 ≤ _; omega, by rw [hsn, hi2, htx], .inr (by rw [← htx]; simp [htn]), .inr rfl⟩, by show _ - (i + 1) < _; omega⟩)
        | (refine W.reach (D := [_]) (i + 1, out ++ (([60, 47] ++ t.name) ++ [62]), v41, some ⟨b5, 0, none⟩) ⟨rfl, rfl, rfl, rfl, trivial⟩ (.refl _) ⟨⟨by show i + 1 ≤ _; omega, by rw [hsn, hi2, htx], .inr (by rw [← htx]; simp [htn]), .inr rfl⟩, by show _ - (i + 1) < _; omega⟩)
        | (refine W.reach (D := [_]) (i + 1, out ++ (esc false t.text), v24, some ⟨b5, 0, none⟩) ⟨rfl, rfl, rfl, rfl, trivial⟩ (.refl _) ⟨⟨by show i + 1 ≤ _; omega, by rw [hsn, hi2, htx], .inr (by rw [← htx]; simp [htn]), .inr rfl⟩, by show _ - (i + 1) < _; omega⟩)
      · have h35 := beq_eq_false_iff_ne.1 hc_t35
        have htx : Tk.txt t = esc false t.text := by rw [Tk.txt, if_neg h25, if_neg h35]
        refine W.region ?_
        rw [htx] at htl
        first | refine W.q (Ev.fae (.t rfl) fa72_4 rfl) rfl ?_ | refine W.q (Ev.fab (.t rfl) fa72_4) rfl ?_ | refine W.q (Ev.faa (.t rfl) fa72_4) rfl ?_
        first | refine W.q (Ev.lde1 (.t rfl) ag9) rfl ?_ | refine W.q (Ev.ldb1 0 (.t rfl) rfl ag9 rfl) rfl ?_ | refine W.q (Ev.ldb1 1 (.t rfl) rfl ag9 rfl) rfl ?_ | refine W.q (Ev.ldb1 2 (.t rfl) rfl ag9 rfl) rfl ?_ | refine W.q (Ev.ldb1 3 (.t rfl) rfl ag9 rfl) rfl ?_
        refine W.callp (WEsc.c_Escape t.text false (by have := Tk.drawn_txt hdi; omega)) ⟨(.t rfl), .k, trivial⟩ rfl ?_
        refine W.call (WStr.c_WriteString b5 p v out hi5 (esc false t.text) (by omega)) ⟨(.t rfl), (.t rfl), trivial⟩ (List.perm_append_comm (l₁ := [_])) rfl ?_
        rintro _ _ ⟨rfl, v24, rfl⟩
        refine W.nil ?_
        refine W.blk_normal ?_
        refine W.blk_normal ?_
        refine W.then ?_
        refine W.region ?_
        first | refine W.q (Ev.add (.t rfl) .k (fun _ => by omega)) rfl ?_ | refine W.q (Ev.addw (.t rfl) .k) rfl ?_
        refine W.q (Ev.move (.t rfl)) rfl ?_
        refine W.nil ?_
        refine W.then ?_
        first
        | (refine W.reach (D := [_]) (i + 1, out ++ (tagS t.name t.attrs t.self), v34, some ⟨b5, 0, none⟩) ⟨rfl, rfl, rfl, rfl, trivial⟩ (.refl _) ⟨⟨by show i + 1 ≤ _; omega, by rw [hsn, hi2, htx], .inr (by rw [← htx]; simp [htn]), .inr rfl⟩, by show _ - (i + 1) < _; omega⟩)
        | (refine W.reach (D := [_]) (i + 1, out ++ (([60, 47] ++ t.name) ++ [62]), v41, some ⟨b5, 0, none⟩) ⟨rfl, rfl, rfl, rfl, trivial⟩ (.refl _) ⟨⟨by show i + 1 ≤ _; omega, by rw [hsn, hi2, htx], .inr (by rw [← htx]; simp [htn]), .inr rfl⟩, by show _ - (i + 1) < _; omega⟩)
        | (refine W.reach (D := [_]) (i + 1, out ++ (esc false t.text), v24, some ⟨b5, 0, none⟩) ⟨rfl, rfl, rfl, rfl, trivial⟩ (.refl _) ⟨⟨by show i + 1 ≤ _; omega, by rw [hsn, hi2, htx], .inr (by rw [← htx]; simp [htn]), .inr rfl⟩, by show _ - (i + 1) < _; omega⟩)
  · rw [List.take_of_length_le (by omega)] at hi2
    subst hi2
    refine W.seq ?_
    refine W.region ?_
    refine W.q (Ev.lti (.t rfl) (.t rfl)) rfl ?_
    refine W.nil ?_
    refine W.then ?_
    refine W.seq ?_
    refine W.is (t := 16) (g := true) (av' := .lit (.bool false)) rfl (congrArg (fun b => AV.lit (.bool b)) (by exact decide_eq_false (by omega))) ?_
    refine W.condF (.t rfl) ?_
    refine W.exit ?_
    refine W.then_exit ?_
    refine W.then_exit ?_
    refine W.blk_hit ?_
    refine W.then ?_
    refine W.seq ?_
    refine W.seq ?_
    refine W.region ?_
    refine W.call (WStr.c_Len b5 p v (Tk.txts l)) ⟨(.t rfl), trivial⟩ (.refl _) rfl ?_
    rintro _ _ ⟨rfl, rfl⟩
    refine W.q (Ev.gti (.t rfl) .k) rfl ?_
    refine W.nil ?_
    refine W.then ?_
    refine W.is (t := 44) (g := true) (av' := .lit (.bool false)) rfl (congrArg (fun b => AV.lit (.bool b)) (by exact decide_eq_false (by omega))) ?_
    refine W.condF (.t rfl) ?_
    refine W.skip ?_
    refine W.then ?_
    refine W.seq ?_
    refine W.region ?_
    refine W.call (WBld.c_String b5 p v (Tk.txts l) hi5 (by omega) hi4) ⟨(.t rfl), trivial⟩ (.refl _) rfl ?_
    rintro _ _ ⟨rfl, rfl⟩
    refine W.q (Ev.assign (.t rfl)) rfl ?_
    refine W.q (Ev.assign .k) rfl ?_
    refine W.nil ?_
    refine W.then ?_
    refine W.ret ?_
    refine W.retn (M' := []) (D := _) (rs := [.tmp 2, .tmp 3]) (avs := [_, _]) Try.results35 ⟨rfl, rfl, trivial⟩ rfl (.refl _) ?_
    exact ⟨rfl, rfl⟩

end WEText

end Go.Proofs.Yteepllfbnoaiaaa
