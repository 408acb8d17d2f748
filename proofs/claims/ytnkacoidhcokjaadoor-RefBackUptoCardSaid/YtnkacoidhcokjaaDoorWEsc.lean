/-
  Text that is escaped.
-/
import Derived.Test.YtnkacoidhcokjaaDoorEmit
import Derived.Test.YtnkacoidhcokjaaDoorBase
import Derived.Test.YtnkacoidhcokjaaDoorWStr
set_option linter.unusedVariables false
set_option linter.unusedSimpArgs false
set_option maxRecDepth 100000
namespace Go.Proofs.YtnkacoidhcokjaaDoor
open Go.Vl

namespace WEsc
theorem ty50 : Ty Tryd.prog 50 2 32 (.agg #[.pointer none, .slice none 0 0]) := Ty.of (by kernel_rfl)
theorem c_Escape (s : List UInt8) (q : Bool) (hs : s.length ≤ 1099511627776) : FnP Tryd.prog 14 [.str s, .bool q] (.str (esc q s)) :=  by
  refine FnC.mk Tryd.func14 (by kernel_rfl) rfl Tryd.ntmps14 rfl (fun w0 F => ?_)
  refine W.seq ?_
  refine W.region ?_
  refine W.q (Ev.assign .k) rfl ?_
  refine W.nil ?_
  refine W.then ?_
  refine W.seq ?_
  refine W.region ?_
  refine W.alloc ty50 rfl rfl ?_
  intro b5
  refine W.nil ?_
  refine W.then ?_
  refine W.seq ?_
  refine W.seq ?_
  refine W.region ?_
  refine W.q (Ev.move (.t rfl)) rfl ?_
  refine W.q (Ev.lens (.t rfl) Tryd.underlying9) rfl ?_
  refine W.q (Ev.move .k) rfl ?_
  refine W.nil ?_
  refine W.then ?_
  refine W.block ?_
  refine W.own_nil 5 1 ?_
  refine W.perm (List.Perm.swap _ _ []) ?_
  refine W.loop (D := []) (ι := Nat × List UInt8 × Value × Option Addr) (fun z => [(10, true, .int (z.1 : Int)), (9, true, .int (s.length : Int)), (0, true, .str s), (1, true, .bool q), (5, true, .lit (.pointer (some ⟨b5, 0, none⟩)))]) (fun z => [.box b5 50 [.lit (.pointer z.2.2.2), .lit z.2.2.1], .arr z.2.2.1 5 1 (z.2.1.map AV.u8)]) (fun z => z.1 ≤ s.length ∧ esc q (s.take z.1) = z.2.1 ∧ z.2.1.length ≤ 6 * z.1 ∧ (z.2.2.1 = .slice none 0 0 ∨ z.2.1 ≠ []) ∧ (z.2.2.2 = none ∨ z.2.2.2 = some ⟨b5, 0, none⟩)) (fun z => s.length - z.1) (0, [], .slice none 0 0, none) ⟨rfl, rfl, rfl, rfl, rfl, trivial⟩ (.refl _) ⟨Nat.zero_le _, by simp [esc], by simp, .inl rfl, .inl rfl⟩ ?_
  rintro ⟨i, out, v, p⟩ ⟨hi1, hi2, hi3, hi4, hi5⟩
  dsimp only at hi1 hi2 hi3 hi4 hi5 ⊢
  rcases (show i < s.length ∨ i = s.length from by omega) with hlt | hend
  · have hsn := esc_snoc q s i hlt
    generalize hc0 : s.getD i 0 = c at hsn
    have hel := esc1_len q c
    refine W.seq ?_
    refine W.region ?_
    refine W.q (Ev.lti (.t rfl) (.t rfl)) rfl ?_
    refine W.nil ?_
    refine W.then ?_
    refine W.seq ?_
    refine W.is (t := 11) (g := true) (av' := .lit (.bool true)) rfl (congrArg (fun b => AV.lit (.bool b)) (by exact decide_eq_true (by omega))) ?_
    refine W.condT (.t rfl) ?_
    refine W.skip ?_
    refine W.then ?_
    refine W.seq ?_
    refine W.block ?_
    refine W.seq ?_
    refine W.region ?_
    refine W.q (Ev.move (.t rfl)) rfl ?_
    refine W.q (Ev.assign (.t rfl)) rfl ?_
    refine W.nil ?_
    refine W.then ?_
    refine W.seq ?_
    refine W.region ?_
    refine W.q (Ev.move (.t rfl)) rfl ?_
    refine W.q (Ev.move (.t rfl)) rfl ?_
    refine W.q (Ev.ats' (.t rfl) (.t rfl) Tryd.underlying9 (fun hg => by omega)) rfl ?_
    refine W.is (t := 15) (g := true) (av' := AV.u8 c) rfl (by rw [show ((i : Int)).toNat = i from by omega, hc0]) ?_
    refine W.q (Ev.assign (.t rfl)) rfl ?_
    refine W.nil ?_
    refine W.then ?_
    refine W.block ?_
    refine W.seq ?_
    refine W.region ?_
    refine W.q (Ev.move (.t rfl)) rfl ?_
    refine W.q (Ev.eqi (.t rfl) .k) rfl ?_
    refine W.q (Ev.assign (.t rfl)) rfl ?_
    refine W.nil ?_
    refine W.then ?_
    refine W.cond (.t rfl) (fun hc_t18 => ?_) (fun hc_t18 => ?_)
    · have hc : c = 38 := u8_is c 38 (by decide) hc_t18
      have hes : esc1 q c = [38, 97, 109, 112, 59] := by subst hc; cases q <;> decide
      refine W.region ?_
      refine W.call (WStr.c_WriteString b5 p v out hi5 [38, 97, 109, 112, 59] (by simp only [List.length_cons, List.length_nil]; omega)) ⟨(.t rfl), .k, trivial⟩ (.refl _) rfl ?_
      rintro _ _ ⟨rfl, v21, rfl⟩
      refine W.nil ?_
      refine W.blk_normal ?_
      refine W.blk_normal ?_
      refine W.then ?_
      refine W.region ?_
      first | refine W.q (Ev.add (.t rfl) .k (fun _ => by omega)) rfl ?_ | refine W.q (Ev.addw (.t rfl) .k) rfl ?_
      refine W.q (Ev.move (.t rfl)) rfl ?_
      refine W.nil ?_
      refine W.then ?_
      first
      | (refine W.reach (D := []) (i + 1, out ++ [38, 97, 109, 112, 59], v21, some ⟨b5, 0, none⟩) ⟨rfl, rfl, rfl, rfl, rfl, trivial⟩ (.refl _) ⟨⟨by show i + 1 ≤ _; omega, by rw [hsn, hes, hi2], by simp only [List.length_append, List.length_cons, List.length_nil]; omega, .inr (by simp), .inr rfl⟩, by show _ - (i + 1) < _; omega⟩)
      | (refine W.reach (D := []) (i + 1, out ++ [38, 108, 116, 59], v25, some ⟨b5, 0, none⟩) ⟨rfl, rfl, rfl, rfl, rfl, trivial⟩ (.refl _) ⟨⟨by show i + 1 ≤ _; omega, by rw [hsn, hes, hi2], by simp only [List.length_append, List.length_cons, List.length_nil]; omega, .inr (by simp), .inr rfl⟩, by show _ - (i + 1) < _; omega⟩)
      | (refine W.reach (D := []) (i + 1, out ++ [38, 103, 116, 59], v29, some ⟨b5, 0, none⟩) ⟨rfl, rfl, rfl, rfl, rfl, trivial⟩ (.refl _) ⟨⟨by show i + 1 ≤ _; omega, by rw [hsn, hes, hi2], by simp only [List.length_append, List.length_cons, List.length_nil]; omega, .inr (by simp), .inr rfl⟩, by show _ - (i + 1) < _; omega⟩)
      | (refine W.reach (D := []) (i + 1, out ++ [38, 113, 117, 111, 116, 59], v36, some ⟨b5, 0, none⟩) ⟨rfl, rfl, rfl, rfl, rfl, trivial⟩ (.refl _) ⟨⟨by show i + 1 ≤ _; omega, by rw [hsn, hes, hi2], by simp only [List.length_append, List.length_cons, List.length_nil]; omega, .inr (by simp), .inr rfl⟩, by show _ - (i + 1) < _; omega⟩)
      | (refine W.reach (D := []) (i + 1, out ++ [c], v17, some ⟨b5, 0, none⟩) ⟨rfl, rfl, rfl, rfl, rfl, trivial⟩ (.refl _) ⟨⟨by show i + 1 ≤ _; omega, by rw [hsn, hes, hi2], by simp only [List.length_append, List.length_cons, List.length_nil]; omega, .inr (by simp), .inr rfl⟩, by show _ - (i + 1) < _; omega⟩)
    · have hn38 : c ≠ 38 := u8_isnt c 38 (by decide) hc_t18
      refine W.seq ?_
      refine W.region ?_
      refine W.q (Ev.move (.t rfl)) rfl ?_
      refine W.q (Ev.eqi (.t rfl) .k) rfl ?_
      refine W.q (Ev.assign (.t rfl)) rfl ?_
      refine W.nil ?_
      refine W.then ?_
      refine W.cond (.t rfl) (fun hc_t22 => ?_) (fun hc_t22 => ?_)
      · have hc : c = 60 := u8_is c 60 (by decide) hc_t22
        have hes : esc1 q c = [38, 108, 116, 59] := by subst hc; cases q <;> decide
        refine W.region ?_
        refine W.call (WStr.c_WriteString b5 p v out hi5 [38, 108, 116, 59] (by simp only [List.length_cons, List.length_nil]; omega)) ⟨(.t rfl), .k, trivial⟩ (.refl _) rfl ?_
        rintro _ _ ⟨rfl, v25, rfl⟩
        refine W.nil ?_
        refine W.blk_normal ?_
        refine W.blk_normal ?_
        refine W.then ?_
        refine W.region ?_
        first | refine W.q (Ev.add (.t rfl) .k (fun _ => by omega)) rfl ?_ | refine W.q (Ev.addw (.t rfl) .k) rfl ?_
        refine W.q (Ev.move (.t rfl)) rfl ?_
        refine W.nil ?_
        refine W.then ?_
        first
        | (refine W.reach (D := []) (i + 1, out ++ [38, 97, 109, 112, 59], v21, some ⟨b5, 0, none⟩) ⟨rfl, rfl, rfl, rfl, rfl, trivial⟩ (.refl _) ⟨⟨by show i + 1 ≤ _; omega, by rw [hsn, hes, hi2], by simp only [List.length_append, List.length_cons, List.length_nil]; omega, .inr (by simp), .inr rfl⟩, by show _ - (i + 1) < _; omega⟩)
        | (refine W.reach (D := []) (i + 1, out ++ [38, 108, 116, 59], v25, some ⟨b5, 0, none⟩) ⟨rfl, rfl, rfl, rfl, rfl, trivial⟩ (.refl _) ⟨⟨by show i + 1 ≤ _; omega, by rw [hsn, hes, hi2], by simp only [List.length_append, List.length_cons, List.length_nil]; omega, .inr (by simp), .inr rfl⟩, by show _ - (i + 1) < _; omega⟩)
        | (refine W.reach (D := []) (i + 1, out ++ [38, 103, 116, 59], v29, some ⟨b5, 0, none⟩) ⟨rfl, rfl, rfl, rfl, rfl, trivial⟩ (.refl _) ⟨⟨by show i + 1 ≤ _; omega, by rw [hsn, hes, hi2], by simp only [List.length_append, List.length_cons, List.length_nil]; omega, .inr (by simp), .inr rfl⟩, by show _ - (i + 1) < _; omega⟩)
        | (refine W.reach (D := []) (i + 1, out ++ [38, 113, 117, 111, 116, 59], v36, some ⟨b5, 0, none⟩) ⟨rfl, rfl, rfl, rfl, rfl, trivial⟩ (.refl _) ⟨⟨by show i + 1 ≤ _; omega, by rw [hsn, hes, hi2], by simp only [List.length_append, List.length_cons, List.length_nil]; omega, .inr (by simp), .inr rfl⟩, by show _ - (i + 1) < _; omega⟩)
        | (refine W.reach (D := []) (i + 1, out ++ [c], v17, some ⟨b5, 0, none⟩) ⟨rfl, rfl, rfl, rfl, rfl, trivial⟩ (.refl _) ⟨⟨by show i + 1 ≤ _; omega, by rw [hsn, hes, hi2], by simp only [List.length_append, List.length_cons, List.length_nil]; omega, .inr (by simp), .inr rfl⟩, by show _ - (i + 1) < _; omega⟩)
      · have hn60 : c ≠ 60 := u8_isnt c 60 (by decide) hc_t22
        refine W.seq ?_
        refine W.region ?_
        refine W.q (Ev.move (.t rfl)) rfl ?_
        refine W.q (Ev.eqi (.t rfl) .k) rfl ?_
        refine W.q (Ev.assign (.t rfl)) rfl ?_
        refine W.nil ?_
        refine W.then ?_
        refine W.cond (.t rfl) (fun hc_t26 => ?_) (fun hc_t26 => ?_)
        · have hc : c = 62 := u8_is c 62 (by decide) hc_t26
          have hes : esc1 q c = [38, 103, 116, 59] := by subst hc; cases q <;> decide
          refine W.region ?_
          refine W.call (WStr.c_WriteString b5 p v out hi5 [38, 103, 116, 59] (by simp only [List.length_cons, List.length_nil]; omega)) ⟨(.t rfl), .k, trivial⟩ (.refl _) rfl ?_
          rintro _ _ ⟨rfl, v29, rfl⟩
          refine W.nil ?_
          refine W.blk_normal ?_
          refine W.blk_normal ?_
          refine W.then ?_
          refine W.region ?_
          first | refine W.q (Ev.add (.t rfl) .k (fun _ => by omega)) rfl ?_ | refine W.q (Ev.addw (.t rfl) .k) rfl ?_
          refine W.q (Ev.move (.t rfl)) rfl ?_
          refine W.nil ?_
          refine W.then ?_
          first
          | (refine W.reach (D := []) (i + 1, out ++ [38, 97, 109, 112, 59], v21, some ⟨b5, 0, none⟩) ⟨rfl, rfl, rfl, rfl, rfl, trivial⟩ (.refl _) ⟨⟨by show i + 1 ≤ _; omega, by rw [hsn, hes, hi2], by simp only [List.length_append, List.length_cons, List.length_nil]; omega, .inr (by simp), .inr rfl⟩, by show _ - (i + 1) < _; omega⟩)
          | (refine W.reach (D := []) (i + 1, out ++ [38, 108, 116, 59], v25, some ⟨b5, 0, none⟩) ⟨rfl, rfl, rfl, rfl, rfl, trivial⟩ (.refl _) ⟨⟨by show i + 1 ≤ _; omega, by rw [hsn, hes, hi2], by simp only [List.length_append, List.length_cons, List.length_nil]; omega, .inr (by simp), .inr rfl⟩, by show _ - (i + 1) < _; omega⟩)
          | (refine W.reach (D := []) (i + 1, out ++ [38, 103, 116, 59], v29, some ⟨b5, 0, none⟩) ⟨rfl, rfl, rfl, rfl, rfl, trivial⟩ (.refl _) ⟨⟨by show i + 1 ≤ _; omega, by rw [hsn, hes, hi2], by simp only [List.length_append, List.length_cons, List.length_nil]; omega, .inr (by simp), .inr rfl⟩, by show _ - (i + 1) < _; omega⟩)
          | (refine W.reach (D := []) (i + 1, out ++ [38, 113, 117, 111, 116, 59], v36, some ⟨b5, 0, none⟩) ⟨rfl, rfl, rfl, rfl, rfl, trivial⟩ (.refl _) ⟨⟨by show i + 1 ≤ _; omega, by rw [hsn, hes, hi2], by simp only [List.length_append, List.length_cons, List.length_nil]; omega, .inr (by simp), .inr rfl⟩, by show _ - (i + 1) < _; omega⟩)
          | (refine W.reach (D := []) (i + 1, out ++ [c], v17, some ⟨b5, 0, none⟩) ⟨rfl, rfl, rfl, rfl, rfl, trivial⟩ (.refl _) ⟨⟨by show i + 1 ≤ _; omega, by rw [hsn, hes, hi2], by simp only [List.length_append, List.length_cons, List.length_nil]; omega, .inr (by simp), .inr rfl⟩, by show _ - (i + 1) < _; omega⟩)
        · have hn62 : c ≠ 62 := u8_isnt c 62 (by decide) hc_t26
          refine W.seq ?_
          refine W.region ?_
          refine W.q (Ev.move (.t rfl)) rfl ?_
          refine W.q (Ev.eqi (.t rfl) .k) rfl ?_
          refine W.q (Ev.move (.t rfl)) rfl ?_
          refine W.qgT rfl rfl (Ev.move (.t rfl)) rfl ?_
          refine W.q (Ev.and (.t rfl) ⟨_, _, rfl, rfl, by first | (simp; done) | (intro hg_ hp_; simp [hp_]; done) | (simp <;> omega; done) | (simp_all; done) | grind⟩) rfl ?_
          refine W.q (Ev.assign (.t rfl)) rfl ?_
          refine W.nil ?_
          refine W.then ?_
          refine W.cond (.t rfl) (fun hc_t30 => ?_) (fun hc_t30 => ?_)
          · have h30 := hc_t30
            simp only [Bool.and_eq_true] at h30
            have hc : c = 34 := u8_is c 34 (by decide) h30.1
            have hes : esc1 q c = [38, 113, 117, 111, 116, 59] := by rw [h30.2]; subst hc; decide
            refine W.region ?_
            refine W.call (WStr.c_WriteString b5 p v out hi5 [38, 113, 117, 111, 116, 59] (by simp only [List.length_cons, List.length_nil]; omega)) ⟨(.t rfl), .k, trivial⟩ (.refl _) rfl ?_
            rintro _ _ ⟨rfl, v36, rfl⟩
            refine W.nil ?_
            refine W.blk_normal ?_
            refine W.blk_normal ?_
            refine W.then ?_
            refine W.region ?_
            first | refine W.q (Ev.add (.t rfl) .k (fun _ => by omega)) rfl ?_ | refine W.q (Ev.addw (.t rfl) .k) rfl ?_
            refine W.q (Ev.move (.t rfl)) rfl ?_
            refine W.nil ?_
            refine W.then ?_
            first
            | (refine W.reach (D := []) (i + 1, out ++ [38, 97, 109, 112, 59], v21, some ⟨b5, 0, none⟩) ⟨rfl, rfl, rfl, rfl, rfl, trivial⟩ (.refl _) ⟨⟨by show i + 1 ≤ _; omega, by rw [hsn, hes, hi2], by simp only [List.length_append, List.length_cons, List.length_nil]; omega, .inr (by simp), .inr rfl⟩, by show _ - (i + 1) < _; omega⟩)
            | (refine W.reach (D := []) (i + 1, out ++ [38, 108, 116, 59], v25, some ⟨b5, 0, none⟩) ⟨rfl, rfl, rfl, rfl, rfl, trivial⟩ (.refl _) ⟨⟨by show i + 1 ≤ _; omega, by rw [hsn, hes, hi2], by simp only [List.length_append, List.length_cons, List.length_nil]; omega, .inr (by simp), .inr rfl⟩, by show _ - (i + 1) < _; omega⟩)
            | (refine W.reach (D := []) (i + 1, out ++ [38, 103, 116, 59], v29, some ⟨b5, 0, none⟩) ⟨rfl, rfl, rfl, rfl, rfl, trivial⟩ (.refl _) ⟨⟨by show i + 1 ≤ _; omega, by rw [hsn, hes, hi2], by simp only [List.length_append, List.length_cons, List.length_nil]; omega, .inr (by simp), .inr rfl⟩, by show _ - (i + 1) < _; omega⟩)
            | (refine W.reach (D := []) (i + 1, out ++ [38, 113, 117, 111, 116, 59], v36, some ⟨b5, 0, none⟩) ⟨rfl, rfl, rfl, rfl, rfl, trivial⟩ (.refl _) ⟨⟨by show i + 1 ≤ _; omega, by rw [hsn, hes, hi2], by simp only [List.length_append, List.length_cons, List.length_nil]; omega, .inr (by simp), .inr rfl⟩, by show _ - (i + 1) < _; omega⟩)
            | (refine W.reach (D := []) (i + 1, out ++ [c], v17, some ⟨b5, 0, none⟩) ⟨rfl, rfl, rfl, rfl, rfl, trivial⟩ (.refl _) ⟨⟨by show i + 1 ≤ _; omega, by rw [hsn, hes, hi2], by simp only [List.length_append, List.length_cons, List.length_nil]; omega, .inr (by simp), .inr rfl⟩, by show _ - (i + 1) < _; omega⟩)
          · have hes : esc1 q c = [c] := by
              unfold esc1
              rw [if_neg hn38, if_neg hn60, if_neg hn62, if_neg]
              rintro ⟨h1, h2⟩
              rw [h2] at hc_t30
              subst h1; simp at hc_t30
            refine W.region ?_
            refine W.q (Ev.move (.t rfl)) rfl ?_
            refine W.call (WBld.c_WriteByte b5 p v out hi5 (by omega) c) ⟨(.t rfl), (.t rfl), trivial⟩ (.refl _) rfl ?_
            rintro _ _ ⟨rfl, v17, rfl⟩
            refine W.nil ?_
            refine W.blk_normal ?_
            refine W.blk_normal ?_
            refine W.then ?_
            refine W.region ?_
            first | refine W.q (Ev.add (.t rfl) .k (fun _ => by omega)) rfl ?_ | refine W.q (Ev.addw (.t rfl) .k) rfl ?_
            refine W.q (Ev.move (.t rfl)) rfl ?_
            refine W.nil ?_
            refine W.then ?_
            first
            | (refine W.reach (D := []) (i + 1, out ++ [38, 97, 109, 112, 59], v21, some ⟨b5, 0, none⟩) ⟨rfl, rfl, rfl, rfl, rfl, trivial⟩ (.refl _) ⟨⟨by show i + 1 ≤ _; omega, by rw [hsn, hes, hi2], by simp only [List.length_append, List.length_cons, List.length_nil]; omega, .inr (by simp), .inr rfl⟩, by show _ - (i + 1) < _; omega⟩)
            | (refine W.reach (D := []) (i + 1, out ++ [38, 108, 116, 59], v25, some ⟨b5, 0, none⟩) ⟨rfl, rfl, rfl, rfl, rfl, trivial⟩ (.refl _) ⟨⟨by show i + 1 ≤ _; omega, by rw [hsn, hes, hi2], by simp only [List.length_append, List.length_cons, List.length_nil]; omega, .inr (by simp), .inr rfl⟩, by show _ - (i + 1) < _; omega⟩)
            | (refine W.reach (D := []) (i + 1, out ++ [38, 103, 116, 59], v29, some ⟨b5, 0, none⟩) ⟨rfl, rfl, rfl, rfl, rfl, trivial⟩ (.refl _) ⟨⟨by show i + 1 ≤ _; omega, by rw [hsn, hes, hi2], by simp only [List.length_append, List.length_cons, List.length_nil]; omega, .inr (by simp), .inr rfl⟩, by show _ - (i + 1) < _; omega⟩)
            | (refine W.reach (D := []) (i + 1, out ++ [38, 113, 117, 111, 116, 59], v36, some ⟨b5, 0, none⟩) ⟨rfl, rfl, rfl, rfl, rfl, trivial⟩ (.refl _) ⟨⟨by show i + 1 ≤ _; omega, by rw [hsn, hes, hi2], by simp only [List.length_append, List.length_cons, List.length_nil]; omega, .inr (by simp), .inr rfl⟩, by show _ - (i + 1) < _; omega⟩)
            | (refine W.reach (D := []) (i + 1, out ++ [c], v17, some ⟨b5, 0, none⟩) ⟨rfl, rfl, rfl, rfl, rfl, trivial⟩ (.refl _) ⟨⟨by show i + 1 ≤ _; omega, by rw [hsn, hes, hi2], by simp only [List.length_append, List.length_cons, List.length_nil]; omega, .inr (by simp), .inr rfl⟩, by show _ - (i + 1) < _; omega⟩)
  · rw [List.take_of_length_le (by omega)] at hi2
    refine W.seq ?_
    refine W.region ?_
    refine W.q (Ev.lti (.t rfl) (.t rfl)) rfl ?_
    refine W.nil ?_
    refine W.then ?_
    refine W.seq ?_
    refine W.is (t := 11) (g := true) (av' := .lit (.bool false)) rfl (congrArg (fun b => AV.lit (.bool b)) (by exact decide_eq_false (by omega))) ?_
    refine W.condF (.t rfl) ?_
    refine W.exit ?_
    refine W.then_exit ?_
    refine W.then_exit ?_
    refine W.blk_hit ?_
    refine W.then ?_
    refine W.seq ?_
    refine W.region ?_
    refine W.call (WBld.c_String b5 p v out hi5 (by omega) hi4) ⟨(.t rfl), trivial⟩ (.refl _) rfl ?_
    rintro _ _ ⟨rfl, rfl⟩
    refine W.q (Ev.assign (.t rfl)) rfl ?_
    refine W.nil ?_
    refine W.then ?_
    refine W.ret ?_
    refine W.retn (M' := []) (rs := [.tmp 4]) (avs := [_]) Tryd.results14 ⟨rfl, trivial⟩ rfl (.refl _) ?_
    exact ⟨congrArg AV.str hi2.symm, rfl⟩

end WEsc

end Go.Proofs.YtnkacoidhcokjaaDoor
