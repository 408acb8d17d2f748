/-
  Merged: ExprP Auto Wid Reach Base WMatch1 WReach.
-/
import Derived.Test.YtacaemfkdieocaaGreatDoorG3
import Derived.Lib.Join
import Derived.Test.YtacaemfkdieocaaGreatDoorRows

section
set_option linter.unusedVariables false
set_option linter.unusedSimpArgs false
namespace Go.Vl
namespace It
/-- what may stand behind alternatives; a sequence; an item -/
def endA (r : List UInt8) : Prop := r = [] ∨ ∃ t, r = 41 :: t
def endS (r : List UInt8) : Prop := r = [] ∨ ∃ t, r = 41 :: t ∨ r = 124 :: t
def endI (r : List UInt8) : Prop := ∀ c t, r = c :: t → c ≠ 42 ∧ c ≠ 43 ∧ c ≠ 63
theorem ch_nat (n : Nat) (h : n < 8) : (97 + UInt8.ofNat n).toNat = 97 + n := by
  rcases (show n = 0 ∨ n = 1 ∨ n = 2 ∨ n = 3 ∨ n = 4 ∨ n = 5 ∨ n = 6 ∨ n = 7 from by omega) with rfl | rfl | rfl | rfl | rfl | rfl | rfl | rfl <;> rfl
theorem tx_head (i : It) (h : ok i) : ∃ c t, tx i = c :: t ∧ ((97 ≤ c.toNat ∧ c.toNat ≤ 104) ∨ c = 40) := by
  cases i with
  | ch n sf =>
    simp only [ok] at h
    refine ⟨_, _, by rw [tx], .inl ?_⟩
    rw [ch_nat n h.1]; omega
  | gr s a sf => exact ⟨_, _, by rw [tx], .inr rfl⟩
theorem endA.s {r : List UInt8} (h : endA r) : endS r := by
  rcases h with h | ⟨t, h⟩
  · exact .inl h
  · exact .inr ⟨t, .inl h⟩
theorem endS.i {r : List UInt8} (h : endS r) : endI r := by
  rintro c t rfl
  rcases h with h | ⟨t', h | h⟩
  · cases h
  · obtain ⟨rfl, rfl⟩ := List.cons.inj h; decide
  · obtain ⟨rfl, rfl⟩ := List.cons.inj h; decide
theorem endS_atl (a : List (List It)) {r : List UInt8} (h : endA r) : endS (atl a ++ r) := by
  cases a with
  | nil => exact h.s
  | cons s a => exact .inr ⟨_, .inr rfl⟩
theorem endA_close (r : List UInt8) : endA (41 :: r) := .inr ⟨r, rfl⟩
theorem endI_stx (s : List It) (hs : oks s) {r : List UInt8} (h : endS r) : endI (stx s ++ r) := by
  cases s with
  | nil => exact h.i
  | cons i s =>
    obtain ⟨c, t, e, hc⟩ := tx_head i hs.1
    intro c' t' e'
    rw [stx, e] at e'
    obtain ⟨rfl, rfl⟩ := List.cons.inj e'
    rcases hc with hc | rfl
    · refine ⟨?_, ?_, ?_⟩ <;> (rintro rfl; simp at hc)
    · decide
theorem sg_idx (k : Nat) (h : k < 3) : idxI (fun b => b == sg k) [42, 43, 63] = (k : Int) := by
  rcases (show k = 0 ∨ k = 1 ∨ k = 2 from by omega) with rfl | rfl | rfl <;> rfl
theorem idx_no (c : UInt8) (h : c ≠ 42 ∧ c ≠ 43 ∧ c ≠ 63) : idxI (fun b => b == c) [42, 43, 63] = -1 := by
  refine idxI_miss _ _ fun d hd => ?_
  simp only [List.mem_cons, List.not_mem_nil, or_false] at hd
  rcases hd with rfl | rfl | rfl
  · exact beq_eq_false_iff_ne.2 (Ne.symm h.1)
  · exact beq_eq_false_iff_ne.2 (Ne.symm h.2.1)
  · exact beq_eq_false_iff_ne.2 (Ne.symm h.2.2)
theorem drop_cons (s : List It) (k : Nat) (h : k < s.length) : stx (s.drop k) = tx (s.getD k (ch 0 [])) ++ stx (s.drop (k + 1)) := by
  rw [drop_getDG (ch 0 []) s k h, stx]
theorem sfdrop (sf : List Nat) (k : Nat) (h : k < sf.length) (r : List UInt8) : (sf.drop k).map sg ++ r = sg (sf.getD k 0) :: ((sf.drop (k + 1)).map sg ++ r) := by
  rw [drop_getDG 0 sf k h]; rfl
theorem tail1 (c : UInt8) (r : List UInt8) : List.drop (Int.toNat 1) (List.take (((c :: r).length : Nat) : Int).toNat (c :: r)) = r := by simp
theorem u8ne {c : UInt8} {n : Nat} (hn : n < 256) (h : c ≠ UInt8.ofNat n) : ((c.toNat : Nat) : Int) ≠ (n : Int) := by
  intro h'; apply h; apply UInt8.toNat_inj.1; simp [Nat.mod_eq_of_lt hn]; omega
/-- the pieces of an alternative's text -/
theorem atl_drop (a : List (List It)) (k : Nat) (h : k < a.length) : atl (a.drop k) = 124 :: (stx (a.getD k []) ++ atl (a.drop (k + 1))) := by
  rw [drop_getDG [] a k h, atl]
end It
theorem Ex.joinW_lib (sep : List UInt8) : ∀ l : List (List UInt8), Ex.joinW sep l = Lib.join l sep
  | [] => rfl
  | [s] => by simp [Ex.joinW, Lib.join, List.intercalate]
  | s :: t :: l => by
    rw [Ex.joinW, Ex.joinW_lib sep (t :: l)]
    simp [Lib.join, List.intercalate]
theorem Ex.letter8 (t : Int) (h0 : 0 ≤ t) (h8 : t < 8) : List.drop t.toNat (List.take (t + 1).toNat [97, 98, 99, 100, 101, 102, 103, 104]) = [97 + UInt8.ofNat t.toNat] := by
  obtain ⟨n, rfl⟩ : ∃ n : Nat, t = (n : Int) := ⟨t.toNat, by omega⟩
  rw [show ((n : Int) + 1).toNat = n + 1 from by omega, Int.toNat_natCast]
  rcases (show n = 0 ∨ n = 1 ∨ n = 2 ∨ n = 3 ∨ n = 4 ∨ n = 5 ∨ n = 6 ∨ n = 7 from by omega) with rfl | rfl | rfl | rfl | rfl | rfl | rfl | rfl <;> rfl
theorem Ex.join0_le (x : Ex) : (Ex.joinW [] (x.parts.map (Ex.ptx1 x.kind))).length = Ex.sumL (x.parts.map (Ex.ptx1 x.kind)) := by
  rw [Ex.joinW_nil, List.length_flatten]; rfl
theorem Ex.join1_le (x : Ex) : (Ex.joinW [124] (x.parts.map (Ex.ptx1 x.kind))).length ≤ Ex.sumL (x.parts.map (Ex.ptx1 x.kind)) + x.parts.length := by
  have := Ex.joinW_len [124] (x.parts.map (Ex.ptx1 x.kind))
  simp only [List.length_singleton, List.length_map, Nat.mul_one] at this
  split at this <;> omega
/-- how long the parts' texts are -/
def Ex.wz (x : Ex) : Nat := Ex.sumL (x.parts.map (Ex.ptx1 x.kind)) + x.parts.length + 2
theorem Ex.ptx_len (x : Ex) : ∀ d ∈ x.parts, (Ex.txt d).length ≤ Ex.wz x := by
  intro d hd
  have h1 : (Ex.txt d).length ≤ (Ex.ptx1 x.kind d).length := by unfold Ex.ptx1; split <;> simp; omega
  have h2 : ∀ l : List Ex, d ∈ l → (Ex.ptx1 x.kind d).length ≤ Ex.sumL (l.map (Ex.ptx1 x.kind)) := by
    intro l
    induction l with
    | nil => intro h; cases h
    | cons e l ih =>
      intro h
      rw [List.map_cons, Ex.sumL_cons]
      rcases List.mem_cons.1 h with rfl | h
      · omega
      · have := ih h; omega
  have := h2 _ hd
  unfold Ex.wz; omega
theorem Ex.sign3 (k : Int) (j : Nat) (h : k - 4 = (j : Int)) (hj : j < 3) : List.drop ((j : Nat) : Int).toNat (List.take (((j : Nat) : Int) + 1).toNat [42, 43, 63]) = [Ex.sgn k] := by
  rw [show (((j : Nat) : Int) + 1).toNat = j + 1 from by omega, Int.toNat_natCast]
  obtain rfl : k = 4 + (j : Int) := by omega
  rcases (show j = 0 ∨ j = 1 ∨ j = 2 from by omega) with rfl | rfl | rfl <;> rfl
theorem Ex.part_txt (x : Ex) (h1 : Ex.ok1 x) : ∀ d ∈ x.parts, (Ex.txt d).length ≤ (Ex.txt x).length := by
  intro d hd
  have hp : (Ex.txt d).length ≤ (Ex.ptx1 x.kind d).length := by unfold Ex.ptx1; split <;> simp; omega
  have hm : ∀ (sep : List UInt8) (l : List Ex), d ∈ l → (Ex.ptx1 x.kind d).length ≤ (Ex.joinW sep (l.map (Ex.ptx1 x.kind))).length := by
    intro sep l
    induction l with
    | nil => intro h; cases h
    | cons e l ih =>
      intro h
      rw [List.map_cons, Ex.joinW_cons, List.length_append]
      rcases List.mem_cons.1 h with rfl | h
      · omega
      · have := ih h
        cases l with
        | nil => cases h
        | cons f l =>
          rw [List.map_cons, Ex.joinW_cons, List.length_append] at this
          rw [List.map_cons, List.flatMap_cons, List.length_append, List.length_append]; omega
  rw [Ex.txt_eq x]
  split
  · rename_i e
    rcases h1 with h1 | h1 | h1 | h1
    · rw [h1.2.1] at hd; cases hd
    · omega
    · omega
    · omega
  · split
    · have := hm [] _ hd; omega
    · split
      · have := hm [124] _ hd; omega
      · have := hm [] _ hd; rw [List.length_append]; omega
theorem Ex.wz_le (x : Ex) (h1 : Ex.ok1 x) : Ex.wz x ≤ (Ex.txt x).length + x.parts.length + 2 := by
  have h0 := Ex.join0_le x
  have h3 := Ex.joinW_len [124] (x.parts.map (Ex.ptx1 x.kind))
  unfold Ex.wz
  rw [Ex.txt_eq x]
  simp only [List.length_singleton, List.length_map, Nat.mul_one] at h3
  split
  · rename_i e
    have : x.parts = [] := by
      rcases h1 with h1 | h1 | h1 | h1
      · exact h1.2.1
      · omega
      · omega
      · omega
    rw [this]; simp [Ex.sumL]
  · split
    · omega
    · split
      · rename_i e
        have hn : x.parts.map (Ex.ptx1 x.kind) ≠ [] := by
          intro h'
          have : x.parts = [] := by simpa using h'
          rcases h1 with h1 | h1 | h1 | h1
          · omega
          · omega
          · rw [this] at h1; simp at h1
          · omega
        rw [if_neg hn] at h3
        have : x.parts.length ≠ 0 := fun h => hn (by rw [List.eq_nil_of_length_eq_zero h]; rfl)
        omega
      · rw [List.length_append]; omega
theorem Ex.ok1_facts {x : Ex} (h : Ex.ok1 x) : (1 ≤ x.kind ∧ x.kind ≤ 6) ∧ (0 ≤ x.type ∧ x.type < 8) ∧ (x.kind = 1 → x.parts.length = 0) ∧ (x.kind ≠ 1 → x.type = 0) ∧ ((x.kind = 2 ∨ x.kind = 3) → x.parts.length ≠ 1) ∧ (x.kind = 3 → x.parts.length ≠ 0) ∧
    (4 ≤ x.kind → x.parts.length = 1) ∧ ((x.kind == 2 || x.kind == 3) = true → (x.parts.any fun d => d.kind == x.kind) = false) := by
  have hany : ∀ k : Int, (∀ q ∈ x.parts, q.kind ≠ k) → (x.parts.any fun d => d.kind == k) = false := fun k hk => by
    rw [List.any_eq_false]; intro q hq; simpa using hk q hq
  rcases h with ⟨h1, h2, h3, h4⟩ | ⟨h1, h2, h3, h4⟩ | ⟨h1, h2, h3, h4⟩ | ⟨h1, h2, h3, h4⟩
  · have hl : x.parts.length = 0 := by rw [h2]; rfl
    refine ⟨by omega, by omega, by omega, by omega, by omega, by omega, by omega, fun h => ?_⟩
    rw [h1] at h; simp at h
  · refine ⟨by omega, by omega, by omega, by omega, by omega, by omega, by omega, fun _ => ?_⟩
    rw [h1]; exact hany 2 h4
  · refine ⟨by omega, by omega, by omega, by omega, by omega, by omega, by omega, fun _ => ?_⟩
    rw [h1]; exact hany 3 h4
  · refine ⟨by omega, by omega, by omega, by omega, by omega, by omega, by omega, fun h => ?_⟩
    have : x.kind = 2 ∨ x.kind = 3 := by simpa using h
    omega
theorem Ex.tog_sz (k : Int) (l : List Ex) : (tog k l).sz ≤ 1 + szs l := by
  rcases tog_cases k l with ⟨x, rfl, e⟩ | ⟨h1, y, h2, e⟩ | ⟨h1, h2, e⟩
  · rw [e]; simp [szs]
  · have := flat_szs k l
    rw [h2] at this
    rw [e]; simp only [szs] at this; omega
  · rw [e, sz]
    have := flat_szs k l; omega
theorem Ex.sfe_sz : ∀ (sf : List Nat) (x : Ex), (sfe x sf).sz = x.sz + sf.length
  | [], x => rfl
  | k :: sf, x => by
    show (sfe (.mk (4 + (k : Int)) 0 [x]) sf).sz = _
    rw [Ex.sfe_sz sf, sz]; simp only [szs, List.length_cons]; omega
namespace It
theorem sev_big' (s : List It) (h : ∀ i ∈ s, Ex.sz i.ev ≤ 2 * (tx i).length) : Ex.szs (sev s) ≤ 2 * (stx s).length := by
  induction s with
  | nil => exact Nat.le_refl _
  | cons i s ih =>
    have h1 := h i List.mem_cons_self
    have h2 := ih fun j hj => h j (List.mem_cons_of_mem _ hj)
    rw [sev, Ex.szs, stx, List.length_append]; omega
theorem aev_big' (a : List (List It)) (h : ∀ t ∈ a, Ex.szs (sev t) ≤ 2 * (stx t).length) : Ex.szs (aev a) ≤ 2 * (atl a).length := by
  induction a with
  | nil => exact Nat.le_refl _
  | cons t a ih =>
    have h1 := h t List.mem_cons_self
    have h2 := ih fun j hj => h j (List.mem_cons_of_mem _ hj)
    have h3 := Ex.tog_sz 2 (sev t)
    rw [aev, Ex.szs, atl, List.length_cons, List.length_append]; omega
theorem ev_big : ∀ i : It, Ex.sz i.ev ≤ 2 * (tx i).length := by
  refine rec' ?_ ?_
  · intro n sf
    rw [ev, Ex.sfe_sz, tx, List.length_cons, List.length_map, Ex.sz]; simp only [Ex.szs]; omega
  · intro s a sf h1 h2
    have h3 := sev_big' s h1
    have h4 := aev_big' a fun t ht => sev_big' t (h2 t ht)
    have h5 := Ex.tog_sz 2 (sev s)
    have h6 := Ex.tog_sz 3 (Ex.tog 2 (sev s) :: aev a)
    rw [ev, Ex.sfe_sz, tx]
    simp only [List.length_cons, List.length_append, List.length_map, Ex.szs] at *
    omega
theorem sev_big (s : List It) : Ex.szs (sev s) ≤ 2 * (stx s).length := sev_big' s fun i _ => ev_big i
theorem al_big (s : List It) (a : List (List It)) : Ex.szs (sq s :: aev a) ≤ 1 + 2 * (stx s ++ atl a).length := by
  have h1 := sev_big s
  have h2 := aev_big' a fun t _ => sev_big t
  have h3 : (sq s).sz ≤ 1 + Ex.szs (sev s) := Ex.tog_sz 2 (sev s)
  rw [Ex.szs, List.length_append]; omega
theorem al_sz (s : List It) (a : List (List It)) : (al s a).sz ≤ 2 + 2 * (stx s ++ atl a).length := by
  have h1 := Ex.tog_sz 3 (sq s :: aev a)
  have h2 := al_big s a
  show (Ex.tog 3 (sq s :: aev a)).sz ≤ _
  omega
theorem stx_mem {s : List It} {i : It} (h : i ∈ s) : (tx i).length ≤ (stx s).length := by
  induction s with
  | nil => cases h
  | cons e l ih =>
    rw [stx, List.length_append]
    rcases List.mem_cons.1 h with rfl | h
    · omega
    · have := ih h; omega
theorem atl_mem {a : List (List It)} {t : List It} (h : t ∈ a) : (stx t).length ≤ (atl a).length := by
  induction a with
  | nil => cases h
  | cons e l ih =>
    rw [atl, List.length_cons, List.length_append]
    rcases List.mem_cons.1 h with rfl | h
    · omega
    · have := ih h; omega
theorem al_mem {s : List It} {a : List (List It)} {t : List It} (h : t = s ∨ t ∈ a) : (stx t).length ≤ (stx s ++ atl a).length := by
  rw [List.length_append]
  rcases h with rfl | h
  · omega
  · have := atl_mem h; omega
end It
end Go.Vl
end

section
set_option linter.unusedVariables false
set_option linter.unusedSimpArgs false
namespace Go.Vl
structure Au where
  next : List (List Int)
  final : List Bool
namespace Au
/-- where a letter leads -/
def to (a : Au) (i : Int) (c : Int) : Int := (a.next.getD i.toNat []).getD c.toNat (-1)
/-- words from a state on -/
def acc (a : Au) : Int → Lg
  | i, [] => 0 ≤ i ∧ a.final.getD i.toNat false = true
  | i, c :: w => 0 ≤ i ∧ 0 ≤ c ∧ c < 8 ∧ acc a (a.to i c) w
def av (a : Au) : AV := .agg [.sl 1 (a.next.map fun r => .sl 1 (r.map AV.int)), .sl 1 (a.final.map AV.bool)]
/-- as_ many rows as_ finals, rows of eight, that lead somewhere -/
structure Shape (a : Au) : Prop where
  pos : 0 < a.next.length
  fin : a.final.length = a.next.length
  row : ∀ i, i < a.next.length → (a.next.getD i []).length = 8
  ent : ∀ i, i < a.next.length → ∀ c, c < 8 → -1 ≤ (a.next.getD i []).getD c (-1) ∧ (a.next.getD i []).getD c (-1) < a.next.length
theorem to_get (a : Au) (r c : Int) (h : c.toNat < (a.next.getD r.toNat []).length) : (a.next.getD r.toNat []).getD c.toNat 0 = a.to r c := by
  unfold Au.to
  generalize a.next.getD r.toNat [] = l at h
  rw [List.getD_eq_getElem?_getD, List.getD_eq_getElem?_getD, List.getElem?_eq_getElem h]; rfl
theorem Shape.mem_row {a : Au} (h : a.Shape) (p : List Int) (hp : p ∈ a.next) : p.length = 8 := by
  obtain ⟨i, hi, rfl⟩ := List.mem_iff_getElem.1 hp
  have := h.row i hi
  rwa [List.getD_eq_getElem?_getD, List.getElem?_eq_getElem hi] at this
theorem Shape.mem_ent {a : Au} (h : a.Shape) (p : List Int) (hp : p ∈ a.next) (x : Int) (hx : x ∈ p) : -1 ≤ x ∧ x < a.next.length := by
  have h8 := h.mem_row p hp
  obtain ⟨i, hi, rfl⟩ := List.mem_iff_getElem.1 hp
  obtain ⟨c, hc, rfl⟩ := List.mem_iff_getElem.1 hx
  have := h.ent i hi c (by omega)
  rw [List.getD_eq_getElem?_getD (l := a.next), List.getElem?_eq_getElem hi, Option.getD_some, List.getD_eq_getElem?_getD, List.getElem?_eq_getElem hc] at this
  exact this
theorem Shape.any_ok {a : Au} (h : a.Shape) : (a.next.any fun p => (p.length != 8) || p.any fun x => decide (x < -1) || decide ((a.next.length : Int) ≤ x)) = false := by
  rw [List.any_eq_false]
  intro p hp
  rw [h.mem_row p hp]
  simp only [bne_self_eq_false, Bool.false_or, Bool.not_eq_true, List.any_eq_false, Bool.or_eq_false_iff, decide_eq_false_iff_not]
  intro x hx
  have := h.mem_ent p hp x hx
  omega
theorem acc_neg {a : Au} {i : Int} (h : i < 0) (w : List Int) : ¬ a.acc i w := by
  cases w <;> simp only [acc] <;> omega
theorem acc_cons {a : Au} {i c : Int} {w : List Int} (hi : 0 ≤ i) (h0 : 0 ≤ c) (h8 : c < 8) : a.acc i (c :: w) ↔ a.acc (a.to i c) w := by
  simp only [acc]; exact ⟨fun h => h.2.2.2, fun h => ⟨hi, h0, h8, h⟩⟩
theorem acc_over {a : Au} : ∀ {w : List Int} {i : Int}, a.acc i w → ∀ c ∈ w, 0 ≤ c ∧ c < 8
  | [], _, _, c, hc => by cases hc
  | d :: w, i, h, c, hc => by
    simp only [acc] at h
    rcases List.mem_cons.1 hc with rfl | hc
    · exact ⟨h.2.1, h.2.2.1⟩
    · exact acc_over h.2.2.2 c hc
/-- the state behind a word -/
def run (a : Au) (i : Int) (w : List Int) : Int := w.foldl (fun i c => if 0 ≤ i then a.to i c else i) i
theorem run_neg {a : Au} {i : Int} (h : i < 0) : ∀ w : List Int, a.run i w = i
  | [] => rfl
  | c :: w => by
    show a.run (if 0 ≤ i then a.to i c else i) w = i
    rw [if_neg (by omega)]; exact run_neg h w
theorem run_cons (a : Au) (i c : Int) (w : List Int) (hi : 0 ≤ i) : a.run i (c :: w) = a.run (a.to i c) w := by
  show a.run (if 0 ≤ i then a.to i c else i) w = _
  rw [if_pos hi]
theorem run_snoc (a : Au) (i c : Int) (w : List Int) : a.run i (w ++ [c]) = if 0 ≤ a.run i w then a.to (a.run i w) c else a.run i w := by
  rw [run, List.foldl_append]; rfl
theorem acc_run {a : Au} : ∀ (w : List Int) (i : Int), (∀ c ∈ w, 0 ≤ c ∧ c < 8) → (a.acc i w ↔ 0 ≤ a.run i w ∧ a.final.getD (a.run i w).toNat false = true)
  | [], i, _ => Iff.rfl
  | c :: w, i, h => by
    by_cases hi : 0 ≤ i
    · rw [acc_cons hi (h c List.mem_cons_self).1 (h c List.mem_cons_self).2, run_cons a i c w hi]
      exact acc_run w _ fun d hd => h d (List.mem_cons_of_mem _ hd)
    · rw [run_neg (by omega)]
      exact ⟨fun h' => absurd h' (acc_neg (by omega) _), fun h' => absurd h'.1 hi⟩
theorem to_range {a : Au} (h : a.Shape) {i c : Int} (hi0 : 0 ≤ i) (hi : i < a.next.length) (h0 : 0 ≤ c) (h8 : c < 8) : -1 ≤ a.to i c ∧ a.to i c < a.next.length :=
  h.ent i.toNat (by omega) c.toNat (by omega)
theorem run_range {a : Au} (h : a.Shape) : ∀ (w : List Int) (i : Int), -1 ≤ i → i < a.next.length → (∀ c ∈ w, 0 ≤ c ∧ c < 8) → -1 ≤ a.run i w ∧ a.run i w < a.next.length
  | [], i, h1, h2, _ => ⟨h1, h2⟩
  | c :: w, i, h1, h2, hw => by
    by_cases hi : 0 ≤ i
    · rw [run_cons a i c w hi]
      have h3 := to_range h hi h2 (hw c List.mem_cons_self).1 (hw c List.mem_cons_self).2
      exact run_range h w _ h3.1 h3.2 fun d hd => hw d (List.mem_cons_of_mem _ hd)
    · rw [run_neg (by omega)]; exact ⟨h1, h2⟩
/-- a machine in order, each of whose states leads to an end -/
structure Canon (a : Au) : Prop extends Shape a where
  live : ∀ i : Nat, i < a.next.length → ∃ w, a.acc (i : Int) w
  apart : ∀ i j : Nat, i < a.next.length → j < a.next.length → (∀ w, a.acc (i : Int) w ↔ a.acc (j : Int) w) → i = j
  first : ∀ k : Nat, 0 < k → k < a.next.length → ∃ i c : Nat, i < k ∧ c < 8 ∧ a.to (i : Int) (c : Int) = k ∧
    ∀ i' c' : Nat, (i' < i ∨ i' = i ∧ c' < c) → c' < 8 → a.to (i' : Int) (c' : Int) < k
def dead : Au := ⟨[List.replicate 8 (-1)], [false]⟩
theorem dead_to (c : Int) : dead.to 0 c = -1 := by
  simp only [to, dead, Int.toNat_zero, List.getD_cons_zero]
  rw [List.getD_eq_getElem?_getD, List.getElem?_replicate]
  split <;> rfl
theorem dead_acc (w : List Int) : ¬ dead.acc 0 w := by
  cases w with
  | nil => simp [acc, dead]
  | cons c w => simp only [acc, dead_to]; intro h; exact acc_neg (by decide) _ h.2.2.2
/-- a machine that belongs to its words -/
def Ord (a : Au) : Prop := a.Canon ∨ a = dead
theorem Ord.shape {a : Au} (h : a.Ord) : a.Shape := by
  rcases h with h | rfl
  · exact h.toShape
  · refine ⟨by decide, rfl, ?_, ?_⟩ <;> (intro i hi; obtain rfl : i = 0 := by simp [dead] at hi; omega)
    · rfl
    · intro c hc
      have := dead_to (c : Int)
      simp only [to, Int.toNat_zero, Int.toNat_natCast] at this
      rw [this]; decide
private theorem same_upto {a b : Au} (ha : a.Canon) (hb : b.Canon) (h0 : ∀ w, a.acc 0 w ↔ b.acc 0 w) :
    ∀ k, k ≤ a.next.length → (k ≤ b.next.length ∧ ∀ j, j < k → ∀ w, a.acc (j : Int) w ↔ b.acc (j : Int) w) := by
  have lem : ∀ {a b : Au}, a.Canon → b.Canon → ∀ k, 0 < k → k ≤ b.next.length → (∀ j, j < k → ∀ w, a.acc (j : Int) w ↔ b.acc (j : Int) w) →
      ∀ i c : Nat, i < k → c < 8 → a.to (i : Int) (c : Int) = (k : Int) → k < a.next.length →
      (k : Int) ≤ b.to (i : Int) (c : Int) := by
    intro a b ha hb k hk hkb hj i c hi hc he hka
    have hr := to_range hb.toShape (i := (i : Int)) (c := (c : Int)) (by omega) (by omega) (by omega) (by omega)
    rcases Int.lt_or_le (b.to (i : Int) (c : Int)) (k : Int) with h | h
    · exfalso
      have hw : ∀ w, a.acc (k : Int) w ↔ b.acc (b.to (i : Int) (c : Int)) w := fun w => by
        rw [← he, ← acc_cons (by omega) (by omega) (by omega), ← acc_cons (by omega) (by omega) (by omega)]
        exact hj i hi _
      rcases Int.lt_or_le (b.to (i : Int) (c : Int)) 0 with h1 | h1
      · obtain ⟨w, hl⟩ := ha.live k hka
        exact acc_neg h1 w ((hw w).1 hl)
      · obtain ⟨j, hjj⟩ : ∃ j : Nat, b.to (i : Int) (c : Int) = (j : Int) := ⟨_, (Int.toNat_of_nonneg h1).symm⟩
        rw [hjj] at hw h
        have := ha.apart k j hka (by omega) fun w => (hw w).trans (hj j (by omega) w).symm
        omega
    · exact h
  intro k
  induction k with
  | zero => exact fun _ => ⟨Nat.zero_le _, fun j hj => absurd hj (Nat.not_lt_zero _)⟩
  | succ k ih =>
    intro hk
    obtain ⟨h1, h2⟩ := ih (by omega)
    rcases Nat.eq_zero_or_pos k with rfl | hk0
    · refine ⟨hb.pos, fun j hj => ?_⟩
      obtain rfl : j = 0 := by omega
      exact h0
    · obtain ⟨i, c, hi, hc, he, hmin⟩ := ha.first k hk0 (by omega)
      have hge := lem ha hb k hk0 h1 h2 i c hi hc he (by omega)
      have hr := to_range hb.toShape (i := (i : Int)) (c := (c : Int)) (by omega) (by omega) (by omega) (by omega)
      have hkb : k < b.next.length := by omega
      obtain ⟨i2, c2, hi2, hc2, he2, hmin2⟩ := hb.first k hk0 hkb
      have hge2 := lem hb ha k hk0 (by omega) (fun j hj w => (h2 j hj w).symm) i2 c2 hi2 hc2 he2 hkb
      have heq : i = i2 ∧ c = c2 := by
        rcases Nat.lt_trichotomy i i2 with h | h | h
        · have := hmin2 i c (.inl h) hc; omega
        · subst h
          rcases Nat.lt_trichotomy c c2 with h | h | h
          · have := hmin2 i c (.inr ⟨rfl, h⟩) hc; omega
          · exact ⟨rfl, h⟩
          · have := hmin i c2 (.inr ⟨rfl, h⟩) hc2; omega
        · have := hmin i2 c2 (.inl h) hc2; omega
      obtain ⟨rfl, rfl⟩ := heq
      refine ⟨hkb, fun j hj w => ?_⟩
      rcases Nat.lt_or_ge j k with h | h
      · exact h2 j h w
      · obtain rfl : j = k := by omega
        have e1 := acc_cons (a := a) (i := (i : Int)) (c := (c : Int)) (w := w) (by omega) (by omega) (by omega)
        have e2 := acc_cons (a := b) (i := (i : Int)) (c := (c : Int)) (w := w) (by omega) (by omega) (by omega)
        rw [he] at e1
        rw [he2] at e2
        rw [← e1, ← e2]
        exact h2 i hi _
theorem list_ext {α : Type} (z : α) {l m : List α} (h : l.length = m.length) (hs : ∀ i, i < l.length → l.getD i z = m.getD i z) : l = m := by
  refine List.ext_getElem h fun i h1 h2 => ?_
  have := hs i h1
  rwa [List.getD_eq_getElem?_getD, List.getD_eq_getElem?_getD, List.getElem?_eq_getElem h1, List.getElem?_eq_getElem h2] at this
/-- TO EACH SET OF WORDS BELONGS JUST ONE MACHINE IN ORDER. -/
theorem Canon.unique {a b : Au} (ha : a.Canon) (hb : b.Canon) (h0 : ∀ w, a.acc 0 w ↔ b.acc 0 w) : a = b := by
  obtain ⟨h1, h2⟩ := same_upto ha hb h0 _ (Nat.le_refl _)
  obtain ⟨h3, _⟩ := same_upto hb ha (fun w => (h0 w).symm) _ (Nat.le_refl _)
  have hn : a.next.length = b.next.length := by omega
  have hto : ∀ i c : Nat, i < a.next.length → c < 8 → a.to (i : Int) (c : Int) = b.to (i : Int) (c : Int) := by
    intro i c hi hc
    have ra := to_range ha.toShape (i := (i : Int)) (c := (c : Int)) (by omega) (by omega) (by omega) (by omega)
    have rb := to_range hb.toShape (i := (i : Int)) (c := (c : Int)) (by omega) (by omega) (by omega) (by omega)
    have hw : ∀ w, a.acc (a.to (i : Int) (c : Int)) w ↔ b.acc (b.to (i : Int) (c : Int)) w := fun w => by
      rw [← acc_cons (by omega) (by omega) (by omega), ← acc_cons (by omega) (by omega) (by omega)]
      exact h2 i hi _
    rcases Int.lt_or_le (a.to (i : Int) (c : Int)) 0 with g1 | g1
    · rcases Int.lt_or_le (b.to (i : Int) (c : Int)) 0 with g2 | g2
      · omega
      · obtain ⟨j, hj⟩ : ∃ j : Nat, b.to (i : Int) (c : Int) = (j : Int) := ⟨_, (Int.toNat_of_nonneg g2).symm⟩
        obtain ⟨w, hl⟩ := hb.live j (by omega)
        rw [hj] at hw
        exact absurd ((hw w).2 hl) (acc_neg g1 w)
    · obtain ⟨j, hj⟩ : ∃ j : Nat, a.to (i : Int) (c : Int) = (j : Int) := ⟨_, (Int.toNat_of_nonneg g1).symm⟩
      obtain ⟨w, hl⟩ := ha.live j (by omega)
      rcases Int.lt_or_le (b.to (i : Int) (c : Int)) 0 with g2 | g2
      · rw [hj] at hw
        exact absurd ((hw w).1 hl) (acc_neg g2 w)
      · obtain ⟨k, hk⟩ : ∃ k : Nat, b.to (i : Int) (c : Int) = (k : Int) := ⟨_, (Int.toNat_of_nonneg g2).symm⟩
        rw [hj, hk] at hw
        have := hb.apart j k (by omega) (by omega) fun w => (h2 j (by omega) w).symm.trans (hw w)
        omega
  have e1 : a.next = b.next := by
    refine list_ext [] hn fun i hi => ?_
    refine list_ext (-1) ((ha.row i hi).trans (hb.row i (by omega)).symm) fun c hc => ?_
    rw [ha.row i hi] at hc
    have := hto i c hi hc
    simpa only [to, Int.toNat_natCast] using this
  have e2 : a.final = b.final := by
    refine list_ext false (by rw [ha.fin, hb.fin, hn]) fun i hi => ?_
    rw [ha.fin] at hi
    have := h2 i hi []
    simp only [acc, Int.toNat_natCast] at this
    have h4 : (a.final.getD i false = true) ↔ (b.final.getD i false = true) := ⟨fun h => (this.1 ⟨by omega, h⟩).2, fun h => (this.2 ⟨by omega, h⟩).2⟩
    exact Bool.eq_iff_iff.2 h4
  cases a; cases b; simp only at e1 e2; subst e1 e2; rfl
theorem Ord.unique {a b : Au} (ha : a.Ord) (hb : b.Ord) (h0 : ∀ w, a.acc 0 w ↔ b.acc 0 w) : a = b := by
  rcases ha with ha | rfl
  · rcases hb with hb | rfl
    · exact ha.unique hb h0
    · obtain ⟨w, hw⟩ := ha.live 0 ha.pos
      exact absurd ((h0 w).1 hw) (dead_acc w)
  · rcases hb with hb | rfl
    · obtain ⟨w, hw⟩ := hb.live 0 hb.pos
      exact absurd ((h0 w).2 hw) (dead_acc w)
    · rfl
end Au
end Go.Vl
end

section
set_option linter.unusedVariables false
set_option linter.unusedSimpArgs false
namespace Go.Vl
namespace Lg
/-- behind whatever letters words are those of some of m sets -/
def Wid (A : Lg) (m : Nat) : Prop := ∃ l : List Lg, l.length ≤ m ∧ ∀ u : List Int, u ≠ [] → ∃ S : Lg → Prop, ∀ w, A (u ++ w) ↔ ∃ B, B ∈ l ∧ S B ∧ B w
theorem Wid.mono {A : Lg} {m n : Nat} (h : Wid A m) (hn : m ≤ n) : Wid A n := by
  obtain ⟨l, h1, h2⟩ := h; exact ⟨l, by omega, h2⟩
theorem wid_none : Wid none 0 := ⟨[], Nat.le_refl _, fun u hu => ⟨fun _ => False, fun w => by simp [none]⟩⟩
theorem wid_eps : Wid eps 0 := ⟨[], Nat.le_refl _, fun u hu => ⟨fun _ => False, fun w => by simp [eps, hu]⟩⟩
theorem wid_one (n : Int) : Wid (one n) 1 := by
  refine ⟨[eps], Nat.le_refl _, fun u hu => ⟨fun _ => u = [n], fun w => ?_⟩⟩
  simp only [List.mem_singleton, one, eps]
  constructor
  · intro h
    cases u with
    | nil => exact absurd rfl hu
    | cons c u =>
      simp only [List.cons_append, List.cons.injEq, List.append_eq_nil_iff] at h
      obtain ⟨rfl, rfl, rfl⟩ := h
      exact ⟨_, rfl, rfl, rfl⟩
  · rintro ⟨B, rfl, rfl, h⟩
    have h : w = [] := h
    subst h; rfl
theorem Wid.alt {A B : Lg} {m n : Nat} (ha : Wid A m) (hb : Wid B n) : Wid (alt A B) (m + n) := by
  obtain ⟨la, a1, a2⟩ := ha
  obtain ⟨lb, b1, b2⟩ := hb
  refine ⟨la ++ lb, by rw [List.length_append]; omega, fun u hu => ?_⟩
  obtain ⟨SA, hA⟩ := a2 u hu
  obtain ⟨SB, hB⟩ := b2 u hu
  refine ⟨fun E => (E ∈ la ∧ SA E) ∨ (E ∈ lb ∧ SB E), fun w => ?_⟩
  constructor
  · rintro (h | h)
    · obtain ⟨E, h1, h2, h3⟩ := (hA w).1 h
      exact ⟨E, List.mem_append_left _ h1, .inl ⟨h1, h2⟩, h3⟩
    · obtain ⟨E, h1, h2, h3⟩ := (hB w).1 h
      exact ⟨E, List.mem_append_right _ h1, .inr ⟨h1, h2⟩, h3⟩
  · rintro ⟨E, _, ⟨h1, h2⟩ | ⟨h1, h2⟩, h3⟩
    · exact .inl ((hA w).2 ⟨E, h1, h2, h3⟩)
    · exact .inr ((hB w).2 ⟨E, h1, h2, h3⟩)
theorem cat_split {A B : Lg} {u w : List Int} (h : cat A B (u ++ w)) : (∃ p q, w = p ++ q ∧ A (u ++ p) ∧ B q) ∨ (∃ p v, u = p ++ v ∧ v ≠ [] ∧ A p ∧ B (v ++ w)) := by
  obtain ⟨p, q, e, hp, hq⟩ := h
  rcases List.append_eq_append_iff.1 e with ⟨t, h1, h2⟩ | ⟨t, h1, h2⟩
  · subst h1; exact .inl ⟨t, q, h2, hp, hq⟩
  · subst h1 h2
    rcases t with _ | ⟨x, t⟩
    · exact .inl ⟨[], w, rfl, by simpa using hp, by simpa using hq⟩
    · exact .inr ⟨p, x :: t, rfl, by simp, hp, hq⟩
theorem Wid.cat {A B : Lg} {m n : Nat} (ha : Wid A m) (hb : Wid B n) : Wid (cat A B) (m + n) := by
  obtain ⟨la, a1, a2⟩ := ha
  obtain ⟨lb, b1, b2⟩ := hb
  refine ⟨la.map (fun C => Lg.cat C B) ++ lb, by rw [List.length_append, List.length_map]; omega, fun u hu => ?_⟩
  obtain ⟨SA, hA⟩ := a2 u hu
  refine ⟨fun E => (∃ C, C ∈ la ∧ SA C ∧ E = Lg.cat C B) ∨ (∃ p v, u = p ++ v ∧ v ≠ [] ∧ A p ∧ E ∈ lb ∧ ∀ w, E w → B (v ++ w)), fun w => ?_⟩
  constructor
  · intro h
    rcases cat_split h with ⟨p, q, rfl, hp, hq⟩ | ⟨p, v, rfl, hv, hp, hq⟩
    · obtain ⟨C, h1, h2, h3⟩ := (hA p).1 hp
      exact ⟨Lg.cat C B, List.mem_append_left _ (List.mem_map_of_mem h1), .inl ⟨C, h1, h2, rfl⟩, p, q, rfl, h3, hq⟩
    · obtain ⟨SB, hB⟩ := b2 v hv
      obtain ⟨E, h1, h2, h3⟩ := (hB w).1 hq
      exact ⟨E, List.mem_append_right _ h1, .inr ⟨p, v, rfl, hv, hp, h1, fun w' hw' => (hB w').2 ⟨E, h1, h2, hw'⟩⟩, h3⟩
  · rintro ⟨E, _, ⟨C, h1, h2, rfl⟩ | ⟨p, v, rfl, hv, hp, h1, h2⟩, h3⟩
    · obtain ⟨p, q, rfl, hp, hq⟩ := h3
      exact ⟨u ++ p, q, by simp, (hA p).2 ⟨C, h1, h2, hp⟩, hq⟩
    · exact ⟨p, v ++ w, by simp, hp, h2 w h3⟩
theorem star_split {A : Lg} {z : List Int} (h : star A z) : ∀ u w : List Int, u ≠ [] → z = u ++ w → ∃ p v w1 w2, u = p ++ v ∧ v ≠ [] ∧ star A p ∧ w = w1 ++ w2 ∧ A (v ++ w1) ∧ star A w2 := by
  induction h with
  | nil => intro u w hu e; exact absurd (List.append_eq_nil_iff.1 e.symm).1 hu
  | cons a b ha hb ih =>
    intro u w hu e
    rcases List.append_eq_append_iff.1 e with ⟨t, h1, h2⟩ | ⟨t, h1, h2⟩
    · subst h1 h2
      rcases t with _ | ⟨x, t⟩
      · exact ⟨[], a ++ [], [], w, by simp, hu, .nil, rfl, by simpa using ha, by simpa using hb⟩
      · obtain ⟨p, v, w1, w2, h3, h4, h5, h6, h7, h8⟩ := ih (x :: t) w (by simp) rfl
        exact ⟨a ++ p, v, w1, w2, by rw [h3, List.append_assoc], h4, .cons a p ha h5, h6, h7, h8⟩
    · subst h1 h2
      exact ⟨[], u, t, b, rfl, hu, .nil, rfl, ha, hb⟩
theorem Wid.star {A : Lg} {m : Nat} (ha : Wid A m) : Wid (star A) m := by
  obtain ⟨la, a1, a2⟩ := ha
  refine ⟨la.map (fun C => Lg.cat C (Lg.star A)), by rw [List.length_map]; exact a1, fun u hu => ?_⟩
  refine ⟨fun E => ∃ p v C, u = p ++ v ∧ v ≠ [] ∧ Lg.star A p ∧ C ∈ la ∧ (∀ w, C w → A (v ++ w)) ∧ E = Lg.cat C (Lg.star A), fun w => ?_⟩
  constructor
  · intro h
    obtain ⟨p, v, w1, w2, rfl, hv, hp, rfl, h1, h2⟩ := star_split h u w hu rfl
    obtain ⟨S, hS⟩ := a2 v hv
    obtain ⟨C, c1, c2, c3⟩ := (hS w1).1 h1
    exact ⟨_, List.mem_map_of_mem c1, ⟨p, v, C, rfl, hv, hp, c1, fun w hw => (hS w).2 ⟨C, c1, c2, hw⟩, rfl⟩, w1, w2, rfl, c3, h2⟩
  · rintro ⟨E, _, ⟨p, v, C, rfl, hv, hp, c1, c2, rfl⟩, w1, w2, rfl, h1, h2⟩
    rw [List.append_assoc]
    refine star_append hp ?_
    rw [← List.append_assoc]
    exact .cons _ _ (c2 w1 h1) h2
theorem Wid.same {A B : Lg} {m : Nat} (ha : Wid A m) (h : ∀ w, w ≠ [] → (B w ↔ A w)) : Wid B m := by
  obtain ⟨la, a1, a2⟩ := ha
  refine ⟨la, a1, fun u hu => ?_⟩
  obtain ⟨S, hS⟩ := a2 u hu
  exact ⟨S, fun w => (h (u ++ w) (fun e => hu (List.append_eq_nil_iff.1 e).1)).trans (hS w)⟩
theorem Wid.sfl {A : Lg} {m : Nat} (ha : Wid A m) (k : Nat) : Wid (sfl A k) m := by
  unfold Lg.sfl
  split
  · exact ha.star
  · split
    · refine ha.star.same fun w hw => ?_
      have e : Lg.star A w ↔ Lg.alt eps (Lg.cat A (Lg.star A)) w := by rw [← star_unfold A]
      rw [e]
      exact ⟨.inr, fun h => h.resolve_left hw⟩
    · exact ha.same fun w hw => ⟨fun h => h.resolve_left hw, .inr⟩
theorem Wid.foldl : ∀ (sf : List Nat) {A : Lg} {m : Nat}, Wid A m → Wid (sf.foldl Lg.sfl A) m
  | [], _, _, h => h
  | k :: sf, _, _, h => Wid.foldl sf (h.sfl k)
end Lg
namespace It
mutual
/-- how many letters -/
def nl : It → Nat
  | ch _ _ => 1
  | gr s a _ => snl s + anl a
def snl : List It → Nat
  | [] => 0
  | i :: s => nl i + snl s
def anl : List (List It) → Nat
  | [] => 0
  | s :: a => snl s + anl a
end
theorem snl_append (s t : List It) : snl (s ++ t) = snl s + snl t := by
  induction s with
  | nil => simp [snl]
  | cons d l ih => rw [List.cons_append, snl, snl, ih]; omega
theorem slg_wid' (s : List It) (h : ∀ i ∈ s, Lg.Wid (lg i) (nl i)) : Lg.Wid (slg s) (snl s) := by
  induction s with
  | nil => exact Lg.wid_eps
  | cons i s ih => rw [slg, snl]; exact (h i List.mem_cons_self).cat (ih fun j hj => h j (List.mem_cons_of_mem _ hj))
theorem alg_wid' (a : List (List It)) (h : ∀ t ∈ a, Lg.Wid (slg t) (snl t)) : Lg.Wid (alg a) (anl a) := by
  induction a with
  | nil => exact Lg.wid_none
  | cons t a ih => rw [alg, anl]; exact (h t List.mem_cons_self).alt (ih fun j hj => h j (List.mem_cons_of_mem _ hj))
theorem lg_wid : ∀ i : It, Lg.Wid (lg i) (nl i) := by
  refine rec' ?_ ?_
  · intro n sf
    rw [lg, nl]; exact (Lg.wid_one _).foldl sf
  · intro s a sf h1 h2
    rw [lg, nl]
    exact ((slg_wid' s h1).alt (alg_wid' a fun t ht => slg_wid' t (h2 t ht))).foldl sf
theorem slg_wid (s : List It) : Lg.Wid (slg s) (snl s) := slg_wid' s fun i _ => lg_wid i
end It
/-- what is parted into fewer places has two in one place -/
theorem pigeon : ∀ (N n : Nat) (f : Nat → Nat), (∀ i, i < n → f i < N) → (∀ i j, i < n → j < n → f i = f j → i = j) → n ≤ N
  | 0, n, f, h1, _ => by
    rcases Nat.eq_zero_or_pos n with h | h
    · omega
    · exact absurd (h1 0 h) (Nat.not_lt_zero _)
  | N + 1, n, f, h1, h2 => by
    by_cases h : ∃ i, i < n ∧ f i = N
    · obtain ⟨i0, h3, h4⟩ := h
      have := pigeon N (n - 1) (fun i => f (if i < i0 then i else i + 1)) (fun i hi => by
        have h5 := h1 (if i < i0 then i else i + 1) (by split <;> omega)
        have h6 : f (if i < i0 then i else i + 1) ≠ N := fun e => by
          have := h2 _ i0 (by split <;> omega) h3 (e.trans h4.symm)
          split at this <;> omega
        show f (if i < i0 then i else i + 1) < N
        omega) (fun i j hi hj e => by
          have := h2 _ _ (by split <;> omega) (by split <;> omega) e
          split at this <;> split at this <;> omega)
      omega
    · have := pigeon N n f (fun i hi => by have := h1 i hi; have : f i ≠ N := fun e => h ⟨i, hi, e⟩; omega) h2
      omega
/-- a row of bools as_ a number -/
def bval : List Bool → Nat
  | [] => 0
  | b :: l => (if b then 1 else 0) + 2 * bval l
theorem bval_lt : ∀ l : List Bool, bval l < 2 ^ l.length
  | [] => by simp [bval]
  | b :: l => by
    have := bval_lt l
    rw [bval, List.length_cons, Nat.pow_succ]; split <;> omega
theorem bval_inj : ∀ l m : List Bool, l.length = m.length → bval l = bval m → l = m
  | [], [], _, _ => rfl
  | a :: l, b :: m, h, e => by
    simp only [List.length_cons, bval] at h e
    have hab : a = b := by cases a <;> cases b <;> simp at e ⊢ <;> omega
    subst hab
    rw [bval_inj l m (by omega) (by omega)]
  | [], b :: m, h, _ => by simp at h
  | a :: l, [], h, _ => by simp at h
namespace Au
/-- each state is behind a word -/
theorem Canon.word {a : Au} (h : a.Canon) : ∀ k : Nat, k < a.next.length → ∃ u, (0 < k → u ≠ []) ∧ ∀ w, a.acc 0 (u ++ w) ↔ a.acc (k : Int) w := by
  intro k
  induction k using Nat.strongRecOn with
  | _ k ih =>
    intro hk
    rcases Nat.eq_zero_or_pos k with rfl | h0
    · exact ⟨[], fun h => absurd h (Nat.lt_irrefl _), fun w => Iff.rfl⟩
    · obtain ⟨i, c, hi, hc, he, _⟩ := h.first k h0 hk
      obtain ⟨u, _, hu⟩ := ih i hi (by omega)
      refine ⟨u ++ [(c : Int)], fun _ => by simp, fun w => ?_⟩
      rw [List.append_assoc, hu, List.singleton_append, acc_cons (by omega) (by omega) (by omega), he]
theorem Canon.size {a : Au} (h : a.Canon) {m : Nat} (hw : Lg.Wid (a.acc 0) m) : a.next.length ≤ 2 ^ m := by
  classical
  obtain ⟨l, hl, hS⟩ := hw
  have key : ∀ k : Nat, k < a.next.length → ∃ S : Lg → Prop, (0 < k → ∀ w, a.acc (k : Int) w ↔ ∃ B, B ∈ l ∧ S B ∧ B w) ∧ (k = 0 → ∀ B, ¬ S B) := by
    intro k hk
    obtain ⟨u, hu, hw⟩ := h.word k hk
    rcases Nat.eq_zero_or_pos k with h0 | h0
    · exact ⟨fun _ => False, fun h => by omega, fun _ B h => h⟩
    · obtain ⟨S, hS⟩ := hS u (hu h0)
      exact ⟨S, fun _ w => (hw w).symm.trans (hS w), fun h => by omega⟩
  let F : Nat → Lg → Prop := fun k => if hk : k < a.next.length then Classical.choose (key k hk) else fun _ => False
  have hF : ∀ k, k < a.next.length → (0 < k → ∀ w, a.acc (k : Int) w ↔ ∃ B, B ∈ l ∧ F k B ∧ B w) ∧ (k = 0 → ∀ B, ¬ F k B) := by
    intro k hk
    have := Classical.choose_spec (key k hk)
    simp only [F, dif_pos hk]
    exact this
  let f : Nat → Nat := fun k => bval (l.map fun B => decide (F k B))
  refine Nat.le_trans (pigeon (2 ^ l.length) a.next.length f (fun i hi => ?_) (fun i j hi hj e => ?_)) (Nat.pow_le_pow_right (by decide) hl)
  · have := bval_lt (l.map fun B => decide (F i B))
    rwa [List.length_map] at this
  · have e := bval_inj _ _ (by rw [List.length_map, List.length_map]) e
    have e2 : ∀ B ∈ l, (F i B ↔ F j B) := fun B hB => by
      have := List.map_inj_left.1 e B hB
      simpa using this
    obtain ⟨i1, i2⟩ := hF i hi
    obtain ⟨j1, j2⟩ := hF j hj
    have emp : ∀ i j : Nat, i < a.next.length → i = 0 → 0 < j → j < a.next.length → (∀ B ∈ l, (F i B ↔ F j B)) → False := fun i j hi h0 hj0 hj e2 => by
      obtain ⟨w, hw⟩ := h.live j hj
      obtain ⟨B, hB, hs, _⟩ := ((hF j hj).1 hj0 w).1 hw
      exact (hF i hi).2 h0 B ((e2 B hB).2 hs)
    rcases Nat.eq_zero_or_pos i with hi0 | hi0
    · rcases Nat.eq_zero_or_pos j with hj0 | hj0
      · omega
      · exact (emp i j hi hi0 hj0 hj e2).elim
    · rcases Nat.eq_zero_or_pos j with hj0 | hj0
      · exact (emp j i hj hj0 hi0 hi fun B hB => (e2 B hB).symm).elim
      · refine h.apart i j hi hj fun w => ?_
        rw [i1 hi0 w, j1 hj0 w]
        exact ⟨fun ⟨B, hB, hs, hw⟩ => ⟨B, hB, (e2 B hB).1 hs, hw⟩, fun ⟨B, hB, hs, hw⟩ => ⟨B, hB, (e2 B hB).2 hs, hw⟩⟩
theorem Ord.size {a : Au} (h : a.Ord) {m : Nat} (hw : Lg.Wid (a.acc 0) m) : a.next.length ≤ 2 ^ m := by
  rcases h with h | rfl
  · exact h.size hw
  · exact Nat.one_le_two_pow
end Au
end Go.Vl
end

section
set_option linter.unusedVariables false
set_option linter.unusedSimpArgs false
namespace Go.Vl
theorem row_or (n i : Nat) (f g : Nat → Bool) : (rowB n (fun j => if j < i then (f j || g j) else false)).set i (AV.bool (f i || g i)) = rowB n (fun j => if j < i + 1 then (f j || g j) else false) := by
  rw [rowB_set]
  refine rowB_congr n _ _ fun k _ => ?_
  by_cases h : k = i
  · subst h; simp
  · rw [if_neg h]
    by_cases h2 : k < i
    · rw [if_pos h2, if_pos (by omega)]
    · rw [if_neg h2, if_neg (by omega)]
theorem row_or0 (n : Nat) (f g : Nat → Bool) : List.replicate n (AV.bool false) = rowB n (fun j => if j < 0 then (f j || g j) else false) :=
  (rowB_rep n).trans (rowB_congr n _ _ fun k _ => by simp)
theorem row_orn (n : Nat) (f g : Nat → Bool) : rowB n (fun j => if j < n then (f j || g j) else false) = rowB n (fun j => f j || g j) :=
  rowB_congr n _ _ fun k hk => by rw [if_pos hk]
/-- a word's part -/
def seg (w : List Int) (i j : Nat) : List Int := (w.take j).drop i
theorem seg_self (w : List Int) (i : Nat) : seg w i i = [] := by simp [seg]
theorem seg_len (w : List Int) {i j : Nat} (hj : j ≤ w.length) : (seg w i j).length = j - i := by simp [seg]; omega
theorem seg_app (w : List Int) {i j k : Nat} (h1 : i ≤ j) (h2 : j ≤ k) (h3 : k ≤ w.length) : seg w i j ++ seg w j k = seg w i k := by
  have e : w.take j = (w.take k).take j := by rw [List.take_take]; congr 1; omega
  simp only [seg]
  rw [e]
  have h4 : i ≤ ((w.take k).take j).length := by simp; omega
  rw [← List.drop_append_of_le_length h4, List.take_append_drop]
theorem seg_split (w : List Int) {i k : Nat} (h1 : i ≤ k) (h3 : k ≤ w.length) (u v : List Int) (h : seg w i k = u ++ v) : ∃ j, i ≤ j ∧ j ≤ k ∧ seg w i j = u ∧ seg w j k = v := by
  have hl : (seg w i k).length = u.length + v.length := by rw [h, List.length_append]
  rw [seg_len w h3] at hl
  refine ⟨i + u.length, by omega, by omega, ?_, ?_⟩
  · have := seg_app w (i := i) (j := i + u.length) (k := k) (by omega) (by omega) h3
    rw [h] at this
    exact (List.append_inj this (by rw [seg_len w (by omega)]; omega)).1
  · have := seg_app w (i := i) (j := i + u.length) (k := k) (by omega) (by omega) h3
    rw [h] at this
    exact (List.append_inj this (by rw [seg_len w (by omega)]; omega)).2
theorem seg_one (w : List Int) (i : Nat) (h : i < w.length) : seg w i (i + 1) = [w.getD i 0] := by
  simp only [seg]
  rw [take_getDG 0 w i h, List.drop_append_of_le_length (by rw [List.length_take]; omega), List.drop_of_length_le (by rw [List.length_take]; omega)]; rfl
/-- g: the places that words of A lead to from f's places -/
def Rch (A : Lg) (w : List Int) (f g : Nat → Bool) : Prop := ∀ j, j ≤ w.length → (g j = true ↔ ∃ i, i ≤ j ∧ f i = true ∧ A (seg w i j))
section rch
variable {A B : Lg} {w : List Int} {f g h : Nat → Bool}
theorem Rch.congr (hr : Rch A w f g) (he : ∀ j, j ≤ w.length → h j = g j) : Rch A w f h := fun j hj => by rw [he j hj]; exact hr j hj
theorem Rch.eps : Rch Lg.eps w f f := fun j hj => by
  constructor
  · intro h; exact ⟨j, Nat.le_refl _, h, seg_self w j⟩
  · rintro ⟨i, hi, h, e⟩
    have : (seg w i j).length = 0 := by rw [show seg w i j = [] from e]; rfl
    rw [seg_len w hj] at this
    obtain rfl : i = j := by omega
    exact h
theorem Rch.none : Rch Lg.none w f (fun _ => false) := fun j hj => by simp [Lg.none]
theorem Rch.one (n : Int) : Rch (Lg.one n) w f (fun j => decide (0 < j ∧ j ≤ w.length) && (f (j - 1) && (w.getD (j - 1) 0 == n))) := fun j hj => by
  simp only [Bool.and_eq_true, decide_eq_true_eq, beq_iff_eq]
  constructor
  · rintro ⟨⟨h1, _⟩, h2, h3⟩
    refine ⟨j - 1, by omega, h2, ?_⟩
    have := seg_one w (j - 1) (by omega)
    rw [show j - 1 + 1 = j from by omega] at this
    rw [this, h3]; rfl
  · rintro ⟨i, hi, h2, h3⟩
    have h3 : seg w i j = [n] := h3
    have hl : (seg w i j).length = 1 := by rw [h3]; rfl
    rw [seg_len w hj] at hl
    obtain rfl : j = i + 1 := by omega
    rw [seg_one w i (by omega)] at h3
    exact ⟨⟨by omega, hj⟩, h2, by simpa using h3⟩
theorem Rch.cat (ha : Rch A w f g) (hb : Rch B w g h) : Rch (Lg.cat A B) w f h := fun k hk => by
  rw [hb k hk]
  constructor
  · rintro ⟨j, hj, h1, h2⟩
    obtain ⟨i, hi, h3, h4⟩ := (ha j (by omega)).1 h1
    exact ⟨i, by omega, h3, _, _, (seg_app w hi hj hk).symm, h4, h2⟩
  · rintro ⟨i, hi, h1, u, v, e, h2, h3⟩
    obtain ⟨j, h4, h5, rfl, rfl⟩ := seg_split w hi hk u v e
    exact ⟨j, h5, (ha j (by omega)).2 ⟨i, h4, h1, h2⟩, h3⟩
theorem Rch.alt (ha : Rch A w f g) (hb : Rch B w f h) : Rch (Lg.alt A B) w f (fun j => g j || h j) := fun j hj => by
  simp only [Bool.or_eq_true]
  rw [ha j hj, hb j hj]
  constructor
  · rintro (⟨i, hi, h1, h2⟩ | ⟨i, hi, h1, h2⟩)
    · exact ⟨i, hi, h1, .inl h2⟩
    · exact ⟨i, hi, h1, .inr h2⟩
  · rintro ⟨i, hi, h1, h2 | h2⟩
    · exact .inl ⟨i, hi, h1, h2⟩
    · exact .inr ⟨i, hi, h1, h2⟩
/-- on the way to all that is led to: f's places are there, and what is there is led to -/
structure WayR (A : Lg) (w : List Int) (f o : Nat → Bool) : Prop where
  all : ∀ j, j ≤ w.length → f j = true → o j = true
  some : ∀ j, j ≤ w.length → o j = true → ∃ i, i ≤ j ∧ f i = true ∧ Lg.star A (seg w i j)
theorem WayR.start : WayR A w f f := ⟨fun _ _ h => h, fun j hj h => ⟨j, Nat.le_refl _, h, by rw [seg_self]; exact .nil⟩⟩
theorem WayR.step {o n : Nat → Bool} (hw : WayR A w f o) (hr : Rch A w o n) : WayR A w f (fun j => o j || n j) := by
  refine ⟨fun j hj h => by rw [hw.all j hj h]; rfl, fun k hk h => ?_⟩
  rcases Bool.or_eq_true _ _ |>.mp h with h | h
  · exact hw.some k hk h
  · obtain ⟨j, hj, h1, h2⟩ := (hr k hk).1 h
    obtain ⟨i, hi, h3, h4⟩ := hw.some j (by omega) h1
    refine ⟨i, by omega, h3, ?_⟩
    rw [← seg_app w hi hj hk]
    exact Lg.star_append h4 (Lg.star_one h2)
theorem WayR.done {o n : Nat → Bool} (hw : WayR A w f o) (hr : Rch A w o n) (he : ∀ j, j ≤ w.length → (o j || n j) = o j) : Rch (Lg.star A) w f o := fun k hk => by
  refine ⟨hw.some k hk, ?_⟩
  rintro ⟨i, hi, h1, h2⟩
  have key : ∀ z, Lg.star A z → ∀ i, i ≤ k → o i = true → seg w i k = z → o k = true := by
    intro z hz
    induction hz with
    | nil =>
      intro i hi ho e
      have : (seg w i k).length = 0 := by rw [e]; rfl
      rw [seg_len w hk] at this
      obtain rfl : i = k := by omega
      exact ho
    | cons u v hu _ ih =>
      intro i hi ho e
      obtain ⟨j, h4, h5, rfl, rfl⟩ := seg_split w hi hk u v e
      have hn := (hr j (by omega)).2 ⟨i, h4, ho, hu⟩
      have := he j (by omega)
      rw [hn, Bool.or_true] at this
      exact ih j h5 this.symm rfl
  exact key _ h2 i hi (hw.all i (by omega) h1) rfl
/-- how many places are not there -/
def outs (n : Nat) (o : Nat → Bool) : Nat := ((List.range n).filter fun j => !o j).length
theorem outs_lt (n : Nat) (o p : Nat → Bool) (h : ∀ j, j < n → o j = true → p j = true) (hne : ¬ ∀ j, j < n → p j = o j) : outs n p < outs n o := by
  induction n with
  | zero => exact absurd (fun j hj => absurd hj (Nat.not_lt_zero _)) hne
  | succ n ih =>
    have hle : ∀ m, m ≤ n → outs m p ≤ outs m o := by
      intro m
      induction m with
      | zero => intro _; exact Nat.le_refl _
      | succ m ih2 =>
        intro hm
        have := ih2 (by omega)
        simp only [outs, List.range_succ, List.filter_append, List.length_append] at this ⊢
        have h2 := h m (by omega)
        cases h3 : o m <;> cases h4 : p m <;> simp_all <;> omega
    simp only [outs, List.range_succ, List.filter_append, List.length_append]
    by_cases hn : p n = o n
    · have := ih (fun j hj => h j (by omega)) fun hall => hne fun j hj => by
        rcases Nat.lt_or_ge j n with h1 | h1
        · exact hall j h1
        · obtain rfl : j = n := by omega
          exact hn
      simp only [outs] at this
      simp only [List.filter_cons, List.filter_nil, hn]
      omega
    · have h1 := hle n (Nat.le_refl _)
      have h2 := h n (by omega)
      simp only [outs] at h1
      cases h3 : o n <;> cases h4 : p n <;> simp_all
      omega
end rch
/-- is a word meant? -/
noncomputable def Lg.dec (A : Lg) (w : List Int) : Bool := @decide (A w) (Classical.propDecidable _)
theorem Lg.dec_iff (A : Lg) (w : List Int) : Lg.dec A w = true ↔ A w := @decide_eq_true_iff (A w) (Classical.propDecidable _)
theorem Lg.dec_eq {A B : Lg} {u v : List Int} (h : A u ↔ B v) : Lg.dec A u = Lg.dec B v := Bool.eq_iff_iff.2 (by rw [Lg.dec_iff, Lg.dec_iff]; exact h)
theorem row_first (n : Nat) : (List.replicate n (AV.bool false)).set 0 (AV.bool true) = rowB n (fun j => j == 0) := by
  rw [rowB_rep, rowB_set]
  refine rowB_congr n _ _ fun k _ => ?_
  by_cases h : k = 0
  · subst h; rfl
  · rw [if_neg h]; simp [h]
theorem seg_all (w : List Int) : seg w 0 w.length = w := by simp [seg]
theorem Rch.whole {A : Lg} {w : List Int} {g : Nat → Bool} (h : Rch A w (fun j => j == 0) g) : g w.length = Lg.dec A w := Bool.eq_iff_iff.2 (by
  rw [h w.length (Nat.le_refl _), Lg.dec_iff]
  constructor
  · rintro ⟨i, _, hi, h2⟩
    obtain rfl : i = 0 := by simpa using hi
    rwa [seg_all] at h2
  · intro h2
    exact ⟨0, Nat.zero_le _, rfl, by rwa [seg_all]⟩)
/-- a word of raw numbers -/
def wordOf (l : List Int) (n : Nat) : List Int := (l.take n).map (· % 3)
theorem wordOf_len (l : List Int) (n : Nat) : (wordOf l n).length ≤ n := by unfold wordOf; rw [List.length_map, List.length_take]; omega
theorem wordOf_in (l : List Int) (n : Nat) : ∀ c ∈ wordOf l n, 0 ≤ c ∧ c < 3 := by
  intro c hc
  unfold wordOf at hc
  obtain ⟨x, _, rfl⟩ := List.mem_map.1 hc
  exact ⟨Int.emod_nonneg x (by decide), Int.emod_lt_of_pos x (by decide)⟩
/-- how long a drawn text is at most; how many letters it has -/
def tb : Nat → Nat
  | 0 => 2
  | 1 => 2
  | d + 2 => 2 * tb (d + 1) + 4
def nb : Nat → Nat
  | 0 => 1
  | 1 => 1
  | d + 2 => 2 * nb (d + 1)
/-- a text of an expression that is drawn -/
structure Dx (d : Nat) (s : List It) : Prop where
  ok : It.oks s
  abc : It.blws 3 s
  len : (It.stx s).length ≤ tb d
  nl : It.snl s ≤ nb d
theorem tb_ge : ∀ d, 2 ≤ tb d
  | 0 => Nat.le_refl _
  | 1 => Nat.le_refl _
  | d + 2 => by have := tb_ge (d + 1); simp only [tb]; omega
theorem nb_ge : ∀ d, 1 ≤ nb d
  | 0 => Nat.le_refl _
  | 1 => Nat.le_refl _
  | d + 2 => by have := nb_ge (d + 1); simp only [nb]; omega
theorem tb_step (d : Nat) (h : 2 ≤ d) : tb d = 2 * tb (d - 1) + 4 ∧ nb d = 2 * nb (d - 1) := by
  obtain ⟨k, rfl⟩ : ∃ k, d = k + 2 := ⟨d - 2, by omega⟩
  exact ⟨rfl, rfl⟩
theorem Dx.leaf (d n : Nat) (sf : List Nat) (hn : n < 3) (hs : sf = [] ∨ sf = [0] ∨ sf = [2]) : Dx d [It.ch n sf] := by
  have h1 := tb_ge d
  have h2 := nb_ge d
  refine ⟨?_, ?_, ?_, ?_⟩
  · simp only [It.oks, It.ok, and_true]
    refine ⟨by omega, ?_⟩
    rcases hs with rfl | rfl | rfl <;> simp
  · simp only [It.blws, It.blw, and_true]; exact hn
  · simp only [It.stx, It.tx, List.append_nil, List.length_cons, List.length_map]
    rcases hs with rfl | rfl | rfl <;> simp <;> omega
  · simp only [It.snl, It.nl]; omega
def Dx.sf4 (p : Nat) : List Nat := if p = 2 then [0] else if p = 3 then [2] else []
theorem Dx.sf4_in (p : Nat) : Dx.sf4 p = [] ∨ Dx.sf4 p = [0] ∨ Dx.sf4 p = [2] := by
  unfold Dx.sf4; split
  · exact .inr (.inl rfl)
  · split
    · exact .inr (.inr rfl)
    · exact .inl rfl
theorem Dx.leaf_tx (n p : Nat) (hn : n < 3) (hp : p < 4) : List.drop 0 (List.take (Int.toNat 1) (List.drop ((n : Nat) : Int).toNat (List.take 3 [97, 98, 99]))) ++ [[], [], [42], [63]].getD p [] = It.stx [It.ch n (Dx.sf4 p)] := by
  rcases (show n = 0 ∨ n = 1 ∨ n = 2 from by omega) with rfl | rfl | rfl <;> rcases (show p = 0 ∨ p = 1 ∨ p = 2 ∨ p = 3 from by omega) with rfl | rfl | rfl | rfl <;> rfl
theorem Dx.alt_tx (s t : List It) : ([40] ++ It.stx s ++ [124]) ++ It.stx t ++ [41] = It.stx [It.gr s [t] []] := by simp [It.stx, It.tx, It.atl]
theorem Dx.alts_tx (s t : List It) : ([40] ++ It.stx s ++ [124]) ++ It.stx t ++ [41, 42] = It.stx [It.gr s [t] [0]] := by simp [It.stx, It.tx, It.atl, sg]
theorem Dx.grp_tx (s t : List It) (q : Nat) (hq : q < 2) : ([40] ++ It.stx s ++ It.stx t ++ [41]) ++ [[43], [63]].getD q [] = It.stx [It.gr (s ++ t) [] [q + 1]] := by
  rcases (show q = 0 ∨ q = 1 from by omega) with rfl | rfl <;> simp [It.stx, It.tx, It.atl, It.stx_append, sg]
theorem tb_small (d : Nat) (h : d ≤ 10) : tb d ≤ 3100 := by
  rcases (show d = 0 ∨ d = 1 ∨ d = 2 ∨ d = 3 ∨ d = 4 ∨ d = 5 ∨ d = 6 ∨ d = 7 ∨ d = 8 ∨ d = 9 ∨ d = 10 from by omega) with rfl | rfl | rfl | rfl | rfl | rfl | rfl | rfl | rfl | rfl | rfl <;> decide
section dx
variable {d : Nat} {s t : List It}
theorem Dx.cat (hd : 2 ≤ d) (hs : Dx (d - 1) s) (ht : Dx (d - 1) t) : Dx d (s ++ t) := by
  have h := tb_step d hd
  refine ⟨It.oks_append hs.ok ht.ok, It.blws_append hs.abc ht.abc, ?_, ?_⟩
  · rw [It.stx_append, List.length_append]; have := hs.len; have := ht.len; omega
  · rw [It.snl_append]; have := hs.nl; have := ht.nl; omega
theorem Dx.alt (hd : 2 ≤ d) (hs : Dx (d - 1) s) (ht : Dx (d - 1) t) (sf : List Nat) (hf : sf = [] ∨ sf = [0]) : Dx d [It.gr s [t] sf] := by
  have h := tb_step d hd
  refine ⟨?_, ?_, ?_, ?_⟩
  · simp only [It.oks, It.ok, It.oka, and_true]
    exact ⟨⟨hs.ok, ht.ok⟩, by rcases hf with rfl | rfl <;> simp⟩
  · simp only [It.blws, It.blw, It.blwa, and_true]; exact ⟨hs.abc, ht.abc⟩
  · simp only [It.stx, It.tx, It.atl, List.append_nil, List.length_cons, List.length_append, List.length_map]
    have := hs.len; have := ht.len
    rcases hf with rfl | rfl <;> simp <;> omega
  · simp only [It.snl, It.nl, It.anl]; have := hs.nl; have := ht.nl; omega
theorem Dx.grp (hd : 2 ≤ d) (hs : Dx (d - 1) s) (ht : Dx (d - 1) t) (k : Nat) (hk : k = 1 ∨ k = 2) : Dx d [It.gr (s ++ t) [] [k]] := by
  have h := tb_step d hd
  refine ⟨?_, ?_, ?_, ?_⟩
  · simp only [It.oks, It.ok, It.oka, and_true]
    exact ⟨It.oks_append hs.ok ht.ok, by rcases hk with rfl | rfl <;> simp⟩
  · simp only [It.blws, It.blw, It.blwa, and_true]; exact It.blws_append hs.abc ht.abc
  · simp only [It.stx, It.tx, It.atl, List.append_nil, List.nil_append, List.length_cons, List.length_append, List.length_map, It.stx_append, List.length_nil]
    have := hs.len; have := ht.len; omega
  · simp only [It.snl, It.nl, It.anl, It.snl_append]; have := hs.nl; have := ht.nl; omega
end dx
/-- can a word be cut so, at one of the first places? -/
noncomputable def cutB (A B : Lg) (w : List Int) (i : Nat) : Bool := (List.range i).any fun j => Lg.dec A (w.take j) && Lg.dec B (w.drop j)
/-- a letter's row, step by step -/
def oneF (f : Nat → Bool) (w : List Int) (n : Int) (i : Nat) (j : Nat) : Bool := decide (0 < j ∧ j ≤ i) && (f (j - 1) && (w.getD (j - 1) 0 == n))
theorem one_row0 (m : Nat) (f : Nat → Bool) (w : List Int) (n : Int) : List.replicate m (AV.bool false) = rowB m (oneF f w n 0) :=
  (rowB_rep m).trans (rowB_congr m _ _ fun k _ => by unfold oneF; rw [decide_eq_false (by omega)]; rfl)
theorem one_row (m : Nat) (f : Nat → Bool) (w : List Int) (n : Int) (i : Nat) : (rowB m (oneF f w n i)).set (i + 1) (AV.bool (f i && (w.getD i 0 == n))) = rowB m (oneF f w n (i + 1)) := by
  rw [rowB_set]
  refine rowB_congr m _ _ fun k _ => ?_
  unfold oneF
  by_cases h : k = i + 1
  · subst h
    rw [if_pos rfl, decide_eq_true (by omega)]; simp
  · rw [if_neg h]
    congr 1
    exact decide_eq_decide.2 (by omega)
end Go.Vl
end

section
set_option linter.unusedVariables false
set_option linter.unusedSimpArgs false
set_option maxRecDepth 100000
namespace Go.Proofs.YtacaemfkdieocaaGreatDoor
open Go.Vl

namespace Base

theorem tmod_neg (a n : Int) (hn : 0 < n) (h : a.tmod n < 0) : a.tmod n + n = a % n := by
  have h1 := Int.tmod_eq_emod (a := a) (b := n)
  have h2 := Int.emod_nonneg a (by omega : n ≠ 0)
  have h3 := Int.emod_lt_of_pos a hn
  have h4 : (n.natAbs : Int) = n := by omega
  rw [h1] at h ⊢
  split at h <;> split <;> omega
theorem tmod_nonneg (a n : Int) (hn : 0 < n) (h : ¬ a.tmod n < 0) : a.tmod n = a % n := by
  have h1 := Int.tmod_eq_emod (a := a) (b := n)
  have h2 := Int.emod_nonneg a (by omega : n ≠ 0)
  have h3 := Int.emod_lt_of_pos a hn
  have h4 : (n.natAbs : Int) = n := by omega
  rw [h1] at h ⊢
  split at h <;> split <;> omega
theorem tmod_gt (a n : Int) (hn : 0 < n) : -n < a.tmod n ∧ a.tmod n < n := by
  have h1 := Int.tmod_eq_emod (a := a) (b := n)
  have h2 := Int.emod_nonneg a (by omega : n ≠ 0)
  have h3 := Int.emod_lt_of_pos a hn
  have h4 : (n.natAbs : Int) = n := by omega
  rw [h1]
  split <;> omega

theorem c_Picked (a n : Int) (hn : 0 < n) (hb : n ≤ 4611686018427387904) : FnP Tryz.prog 15 [.int a, .int n] (.int (a % n)) :=  by
  refine FnC.mk Tryz.func15 (by kernel_rfl) rfl Tryz.ntmps15 rfl (fun w0 F => ?_)
  have htm := tmod_gt a n hn
  refine W.seq ?_
  refine W.region ?_
  refine W.q (Ev.assign .k) rfl ?_
  refine W.nil ?_
  refine W.then ?_
  refine W.seq ?_
  refine W.region ?_
  refine W.q (Ev.move (.t rfl)) rfl ?_
  refine W.q (Ev.move (.t rfl)) rfl ?_
  first | refine W.q (Ev.rem (.t rfl) (.t rfl) (fun _ => by decide)) rfl ?_ | refine W.q (Ev.rem (.t rfl) (.t rfl) (fun _ => by omega)) rfl ?_
  refine W.q (Ev.assign (.t rfl)) rfl ?_
  refine W.nil ?_
  refine W.then ?_
  refine W.seq ?_
  refine W.seq ?_
  refine W.region ?_
  refine W.q (Ev.move (.t rfl)) rfl ?_
  refine W.q (Ev.lti (.t rfl) .k) rfl ?_
  refine W.nil ?_
  refine W.then ?_
  refine W.cond (.t rfl) (fun hc_t9 => ?_) (fun hc_t9 => ?_)
  · have h9 := of_decide_eq_true hc_t9
    refine W.seq ?_
    refine W.region ?_
    refine W.q (Ev.move (.t rfl)) rfl ?_
    refine W.q (Ev.move (.t rfl)) rfl ?_
    first | refine W.q (Ev.add (.t rfl) (.t rfl) (fun _ => by omega)) rfl ?_ | refine W.q (Ev.addw (.t rfl) (.t rfl)) rfl ?_
    refine W.q (Ev.assign (.t rfl)) rfl ?_
    refine W.nil ?_
    refine W.then ?_
    refine W.ret ?_
    refine W.then_ret ?_
    refine W.retn (M' := []) (rs := [.tmp 4]) (avs := [_]) Tryz.results15 ⟨rfl, trivial⟩ rfl (.refl _) ?_
    exact ⟨congrArg AV.int (by first | exact (tmod_neg a n hn h9).symm ▸ rfl | exact tmod_nonneg a n hn h9), rfl⟩
  · have h9 := of_decide_eq_false hc_t9
    refine W.skip ?_
    refine W.then ?_
    refine W.seq ?_
    refine W.region ?_
    refine W.q (Ev.move (.t rfl)) rfl ?_
    refine W.q (Ev.assign (.t rfl)) rfl ?_
    refine W.nil ?_
    refine W.then ?_
    refine W.ret ?_
    refine W.retn (M' := []) (rs := [.tmp 4]) (avs := [_]) Tryz.results15 ⟨rfl, trivial⟩ rfl (.refl _) ?_
    exact ⟨congrArg AV.int (by first | exact (tmod_neg a n hn h9).symm ▸ rfl | exact tmod_nonneg a n hn h9), rfl⟩

end Base

end Go.Proofs.YtacaemfkdieocaaGreatDoor
end

section
set_option linter.unusedVariables false
set_option linter.unusedSimpArgs false
set_option maxRecDepth 100000
namespace Go.Proofs.YtacaemfkdieocaaGreatDoor
open Go.Vl

namespace WMatch1
theorem ty4 : Ty Tryz.prog 4 1 1 (.bool false) := Ty.of (by kernel_rfl)
theorem ag4 : IsAgg Tryz.prog 4 false := ⟨_, Tryz.underlying4, rfl⟩
theorem ni26 : NotInt Tryz.prog 26 := .inl ⟨_, Tryz.underlying26⟩
theorem c_either (n : Nat) (f g : Nat → Bool) (hn : n ≤ 16777216) : FnP Tryz.prog 58 [.sl 1 (rowB n f), .sl 1 (rowB n g)] (.sl 1 (rowB n (fun j => f j || g j))) :=  by
  refine FnC.mk Tryz.func58 (by kernel_rfl) rfl Tryz.ntmps58 rfl (fun w0 F => ?_)
  refine W.seq ?_
  refine W.region ?_
  refine W.q (Ev.assign .k) rfl ?_
  refine W.nil ?_
  refine W.then ?_
  refine W.seq ?_
  refine W.region ?_
  refine W.q (Ev.move (.t rfl)) rfl ?_
  (refine W.q (Ev.lensl (.t rfl) Tryz.underlying26) rfl ?_)
  refine W.is (t := 8) (g := true) (av' := .int (n : Int)) rfl (congrArg AV.int (by rw [rowB_len])) ?_
  refine W.mk (.t rfl) (.t rfl) Tryz.underlying26 ty4 rfl rfl rfl rfl rfl (by omega) rfl ?_
  intro v9
  refine W.q (Ev.assign (.t rfl)) rfl ?_
  refine W.nil ?_
  refine W.then ?_
  refine W.seq ?_
  refine W.seq ?_
  refine W.region ?_
  refine W.q (Ev.move (.t rfl)) rfl ?_
  (refine W.q (Ev.lensl (.t rfl) Tryz.underlying26) rfl ?_)
  refine W.q (Ev.move .k) rfl ?_
  refine W.nil ?_
  refine W.is (t := 11) (g := true) (av' := .int (n : Int)) rfl (congrArg AV.int (by rw [rowB_len])) ?_
  refine W.then ?_
  refine W.block ?_
  refine W.loop (D := []) (ι := Nat) (fun i => [(12, true, .int (i : Int)), (11, true, .int (n : Int)), (5, true, .lit v9), (0, true, .sl 1 (rowB n f)), (1, true, .sl 1 (rowB n g))]) (fun i => [.arr v9 4 1 (rowB n (fun j => if j < i then (f j || g j) else false))]) (fun i => i ≤ n) (fun i => n - i) 0 ⟨rfl, rfl, rfl, rfl, rfl, trivial⟩ (by rw [← row_or0]; exact .refl _) (Nat.zero_le _) ?_
  intro i hi
  dsimp only at hi ⊢
  rcases (show i < n ∨ i = n from by omega) with hlt | hend
  · have hgf := rowB_at n f i hlt
    have hgg := rowB_at n g i hlt
    refine W.seq ?_
    refine W.region ?_
    refine W.q (Ev.lti (.t rfl) (.t rfl)) rfl ?_
    refine W.nil ?_
    refine W.then ?_
    refine W.seq ?_
    refine W.is (t := 13) (g := true) (av' := .lit (.bool true)) rfl (congrArg (fun b => AV.lit (.bool b)) (by exact decide_eq_true (by omega))) ?_
    refine W.condT (.t rfl) ?_
    refine W.skip ?_
    refine W.then ?_
    refine W.seq ?_
    refine W.block ?_
    refine W.seq ?_
    refine W.region ?_
    refine W.q (Ev.move (.t rfl)) rfl ?_
    refine W.q (Ev.assign (.t rfl)) rfl ?_
    refine W.nil ?_
    refine W.then ?_
    refine W.region ?_
    refine W.q (Ev.move (.t rfl)) rfl ?_
    refine W.q (Ev.move (.t rfl)) rfl ?_
    refine W.q (Ev.move (.t rfl)) rfl ?_
    refine W.q (Ev.move (.t rfl)) rfl ?_
    refine W.q (Ev.at (E := 4) (.t rfl) (.t rfl) Tryz.underlying26 ty4 (fun _ => ⟨by omega, hgf⟩) rfl rfl) rfl ?_
    (refine W.q (Ev.lde1 (.t rfl) ag4) rfl ?_)
    refine W.q (Ev.move (.t rfl)) rfl ?_
    refine W.qgF rfl rfl (Ev.move (.t rfl)) rfl ?_
    refine W.qgF rfl rfl (Ev.move (.t rfl)) rfl ?_
    refine W.qgF rfl rfl (Ev.at (E := 4) (.c rfl) (.c rfl) Tryz.underlying26 ty4 (fun _ => ⟨by omega, hgg⟩) rfl rfl) rfl ?_
    (refine W.qgF rfl rfl (Ev.lde1 (.c rfl) ag4) rfl ?_)
    refine W.q (Ev.or (.t rfl) ⟨_, _, rfl, rfl, by ((simp; done))⟩) rfl ?_
    refine W.q (Ev.ata 0 (.t rfl) rfl (.t rfl) Tryz.underlying26 ty4 (fun _ => by rw [rowB_len]; omega)) rfl ?_
    refine W.sta 0 i 0 (e := .bool ((fun j => if j < i then (f j || g j) else false) i)) (e' := .bool (f i || g i)) (.t rfl) (.t rfl) rfl (rowB_at _ _ i hlt) (by omega) ty4 rfl rfl rfl rfl rfl rfl rfl ?_
    refine W.nil ?_
    refine W.blk_normal ?_
    refine W.then ?_
    refine W.region ?_
    (refine W.q (Ev.add (.t rfl) .k (fun _ => by omega)) rfl ?_)
    refine W.q (Ev.move (.t rfl)) rfl ?_
    refine W.nil ?_
    refine W.then ?_
    refine W.reach (D := []) (i + 1) ⟨rfl, rfl, rfl, rfl, rfl, trivial⟩ (by rw [← row_or]; exact .refl _) ⟨by show i + 1 ≤ _; omega, by show _ - (i + 1) < _; omega⟩
  · rw [hend, row_orn]
    refine W.seq ?_
    refine W.region ?_
    refine W.q (Ev.lti (.t rfl) (.t rfl)) rfl ?_
    refine W.nil ?_
    refine W.then ?_
    refine W.seq ?_
    refine W.is (t := 13) (g := true) (av' := .lit (.bool false)) rfl (congrArg (fun b => AV.lit (.bool b)) (by exact decide_eq_false (by omega))) ?_
    refine W.condF (.t rfl) ?_
    refine W.exit ?_
    refine W.then_exit ?_
    refine W.then_exit ?_
    refine W.blk_hit ?_
    refine W.then ?_
    refine W.seq ?_
    refine W.region ?_
    refine W.q (Ev.move (.t rfl)) rfl ?_
    refine W.q (Ev.assign (.t rfl)) rfl ?_
    refine W.nil ?_
    refine W.then ?_
    refine W.ret ?_
    refine W.freezeA (M1 := []) (M2 := []) (D := []) (v := v9) (L' := [(4, true, .sl 1 (rowB n (fun j => f j || g j)))]) (.refl _) ⟨⟨_, rfl, .one .hit⟩, trivial⟩ (FrzMs.refl _) ?_
    refine W.retn (M' := []) (D := _) (rs := [.tmp 4]) (avs := [_]) Tryz.results58 ⟨rfl, trivial⟩ rfl (.refl _) ?_
    exact ⟨rfl, rfl⟩

theorem c_EqualB (n : Nat) (f g : Nat → Bool) (hn : n ≤ 16777216) : FnC Tryz.prog 59 [.sl 1 (rowB n f), .sl 1 (rowB n g)] [] (fun r M => M = [] ∧ ∃ q : Bool, r = .bool q ∧ (q = true ↔ ∀ j, j < n → f j = g j)) :=  by
  refine FnC.mk Tryz.func59 (by kernel_rfl) rfl Tryz.ntmps59 rfl (fun w0 F => ?_)
  refine W.seq ?_
  refine W.region ?_
  refine W.q (Ev.assign .k) rfl ?_
  refine W.nil ?_
  refine W.then ?_
  refine W.seq ?_
  refine W.seq ?_
  refine W.region ?_
  refine W.q (Ev.move (.t rfl)) rfl ?_
  (refine W.q (Ev.lensl (.t rfl) Tryz.underlying26) rfl ?_)
  refine W.q (Ev.move (.t rfl)) rfl ?_
  (refine W.q (Ev.lensl (.t rfl) Tryz.underlying26) rfl ?_)
  refine W.q (Ev.nei (.t rfl) (.t rfl)) rfl ?_
  refine W.nil ?_
  refine W.then ?_
  refine W.is (t := 10) (g := true) (av' := .lit (.bool false)) rfl (congrArg (fun b => AV.lit (.bool b)) (by rw [rowB_len, rowB_len]; simp)) ?_
  refine W.condF (.t rfl) ?_
  refine W.skip ?_
  refine W.then ?_
  refine W.seq ?_
  refine W.seq ?_
  refine W.region ?_
  refine W.q (Ev.move (.t rfl)) rfl ?_
  (refine W.q (Ev.lensl (.t rfl) Tryz.underlying26) rfl ?_)
  refine W.q (Ev.move .k) rfl ?_
  refine W.nil ?_
  refine W.is (t := 12) (g := true) (av' := .int (n : Int)) rfl (congrArg AV.int (by rw [rowB_len])) ?_
  refine W.then ?_
  refine W.block ?_
  refine W.loop (D := []) (ι := Nat) (fun i => [(13, true, .int (i : Int)), (12, true, .int (n : Int)), (0, true, .sl 1 (rowB n f)), (1, true, .sl 1 (rowB n g))]) (fun i => []) (fun i => i ≤ n ∧ ∀ j, j < i → f j = g j) (fun i => n - i) 0 ⟨rfl, rfl, rfl, rfl, trivial⟩ (.refl _) ⟨Nat.zero_le _, fun j hj => absurd hj (Nat.not_lt_zero _)⟩ ?_
  rintro i ⟨hi, hall⟩
  dsimp only at hi hall ⊢
  rcases (show i < n ∨ i = n from by omega) with hlt | hend
  · have hgf := rowB_at n f i hlt
    have hgg := rowB_at n g i hlt
    refine W.seq ?_
    refine W.region ?_
    refine W.q (Ev.lti (.t rfl) (.t rfl)) rfl ?_
    refine W.nil ?_
    refine W.then ?_
    refine W.seq ?_
    refine W.is (t := 14) (g := true) (av' := .lit (.bool true)) rfl (congrArg (fun b => AV.lit (.bool b)) (by exact decide_eq_true (by omega))) ?_
    refine W.condT (.t rfl) ?_
    refine W.skip ?_
    refine W.then ?_
    refine W.seq ?_
    refine W.block ?_
    refine W.seq ?_
    refine W.region ?_
    refine W.q (Ev.move (.t rfl)) rfl ?_
    refine W.q (Ev.assign (.t rfl)) rfl ?_
    refine W.nil ?_
    refine W.then ?_
    refine W.seq ?_
    refine W.drawn (by kernel_rfl) (by kernel_rfl) ?_
    refine DP.q (Ev.move (.t rfl)) rfl ?_
    refine DP.q (Ev.move (.t rfl)) rfl ?_
    refine DP.q (Ev.at (E := 4) (.t rfl) (.t rfl) Tryz.underlying26 ty4 (fun _ => ⟨by omega, hgf⟩) rfl rfl) rfl ?_
    (refine DP.q (Ev.lde1 (.t rfl) ag4) rfl ?_)
    refine DP.q (Ev.move (.t rfl)) rfl ?_
    refine DP.q (Ev.move (.t rfl)) rfl ?_
    refine DP.q (Ev.at (E := 4) (.t rfl) (.t rfl) Tryz.underlying26 ty4 (fun _ => ⟨by omega, hgg⟩) rfl rfl) rfl ?_
    (refine DP.q (Ev.lde1 (.t rfl) ag4) rfl ?_)
    refine DP.q (Ev.neb (.t rfl) (.t rfl) Tryz.underlying4) rfl ?_
    refine DP.nil ?_
    refine W.then ?_
    refine W.cond (.t rfl) (fun hc_t24 => ?_) (fun hc_t24 => ?_)
    · have hfg : f i ≠ g i := by intro h; rw [h] at hc_t24; simp at hc_t24
      refine W.seq ?_
      refine W.region ?_
      refine W.q (Ev.assign .k) rfl ?_
      refine W.nil ?_
      refine W.then ?_
      refine W.ret ?_
      refine W.blk_ret ?_
      refine W.then_ret ?_
      refine W.then_ret ?_
      refine W.blk_ret ?_
      refine W.then_ret ?_
      refine W.retn (M' := []) (rs := [.tmp 4]) (avs := [_]) Tryz.results59 ⟨rfl, trivial⟩ rfl (.refl _) ?_
      (exact ⟨rfl, _, rfl, ⟨fun h => absurd h (by decide), fun h => absurd (h i hlt) hfg⟩⟩)
    · have hfg : f i = g i := by simpa using hc_t24
      refine W.skip ?_
      refine W.blk_normal ?_
      refine W.then ?_
      refine W.region ?_
      (refine W.q (Ev.add (.t rfl) .k (fun _ => by omega)) rfl ?_)
      refine W.q (Ev.move (.t rfl)) rfl ?_
      refine W.nil ?_
      refine W.then ?_
      refine W.reach (D := []) (i + 1) ⟨rfl, rfl, rfl, rfl, trivial⟩ (.refl _) ⟨⟨by show i + 1 ≤ _; omega, fun j hj => (Nat.lt_or_ge j i).elim (hall j) (fun h => by rw [show j = i from by omega]; exact hfg)⟩, by show _ - (i + 1) < _; omega⟩
  · subst hend
    refine W.seq ?_
    refine W.region ?_
    refine W.q (Ev.lti (.t rfl) (.t rfl)) rfl ?_
    refine W.nil ?_
    refine W.then ?_
    refine W.seq ?_
    refine W.is (t := 14) (g := true) (av' := .lit (.bool false)) rfl (congrArg (fun b => AV.lit (.bool b)) (by exact decide_eq_false (by omega))) ?_
    refine W.condF (.t rfl) ?_
    refine W.exit ?_
    refine W.then_exit ?_
    refine W.then_exit ?_
    refine W.blk_hit ?_
    refine W.then ?_
    refine W.seq ?_
    refine W.region ?_
    refine W.q (Ev.assign .k) rfl ?_
    refine W.nil ?_
    refine W.then ?_
    refine W.ret ?_
    refine W.retn (M' := []) (rs := [.tmp 4]) (avs := [_]) Tryz.results59 ⟨rfl, trivial⟩ rfl (.refl _) ?_
    (exact ⟨rfl, _, rfl, ⟨fun _ => hall, fun _ => rfl⟩⟩)

theorem c_CloneB (es : List AV) (ho : ∀ e ∈ es, e.okc = true) (hl : es.length ≤ 1099511627776) : FnC Tryz.prog 57 [.sl 1 es] [] (fun r M => ∃ v, r = .lit v ∧ M = [.arr v 4 1 es]) :=  by
  refine FnC.mk Tryz.func57 (by kernel_rfl) rfl Tryz.ntmps57 rfl (fun w0 F => ?_)
  refine W.seq ?_
  refine W.region ?_
  refine W.q (Ev.assign .k) rfl ?_
  refine W.nil ?_
  refine W.then ?_
  refine W.seq ?_
  refine W.seq ?_
  refine W.region ?_
  refine W.q (Ev.move (.t rfl)) rfl ?_
  refine W.slnil (.t rfl) Tryz.underlying26 rfl (fun q hq => ?_)
  refine W.nil ?_
  refine W.then ?_
  refine W.cond (.t rfl) (fun hc_t4 => ?_) (fun hc_t4 => ?_)
  · refine W.seq ?_
    refine W.region ?_
    refine W.q (Ev.assign .k) rfl ?_
    refine W.nil ?_
    refine W.own_nil 4 1 ?_
    refine W.then ?_
    refine W.ret ?_
    refine W.then_ret ?_
    refine W.retn (M' := [.arr _ 4 1 _]) (rs := [.tmp 2]) (avs := [_]) Tryz.results57 ⟨rfl, trivial⟩ rfl (.refl _) ?_
    (exact ⟨_, rfl, by rw [hq hc_t4]⟩)
  · refine W.skip ?_
    refine W.then ?_
    refine W.seq ?_
    refine W.region ?_
    refine W.bso (es := []) Tryz.underlying26 ty4 trivial rfl (by decide) rfl rfl ?_
    intro v5
    refine W.q (Ev.move (.t rfl)) rfl ?_
    (refine W.app 0 (.t rfl) rfl (.sl (.t rfl) (ho)) Tryz.underlying26 ni26 ty4 rfl rfl (by simp; omega) rfl ?_)
    intro v7
    refine W.q (Ev.assign (.t rfl)) rfl ?_
    refine W.nil ?_
    refine W.then ?_
    refine W.ret ?_
    refine W.retn (M' := [.arr _ 4 1 _]) (rs := [.tmp 2]) (avs := [_]) Tryz.results57 ⟨rfl, trivial⟩ rfl (.refl _) ?_
    (exact ⟨_, rfl, rfl⟩)

end WMatch1

end Go.Proofs.YtacaemfkdieocaaGreatDoor
end

section
set_option linter.unusedVariables false
set_option linter.unusedSimpArgs false
set_option maxRecDepth 100000
namespace Go.Proofs.YtacaemfkdieocaaGreatDoor
open Go.Vl

namespace WReach
theorem ty3 : Ty Tryz.prog 3 1 8 (.int .i64 0) := Ty.of (by kernel_rfl)
theorem ty4 : Ty Tryz.prog 4 1 1 (.bool false) := Ty.of (by kernel_rfl)
theorem ty41 : Ty Tryz.prog 41 1 24 (.slice none 0 0) := Ty.of (by kernel_rfl)
theorem ty43 : Ty Tryz.prog 43 3 40 (.agg #[.int .i64 0, .int .i64 0, .slice none 0 0]) := Ty.of (by kernel_rfl)
theorem ag3 : IsAgg Tryz.prog 3 false := ⟨_, Tryz.underlying3, rfl⟩
theorem ag4 : IsAgg Tryz.prog 4 false := ⟨_, Tryz.underlying4, rfl⟩
theorem ag41 : IsAgg Tryz.prog 41 false := ⟨_, Tryz.underlying41, rfl⟩
theorem ag43 : IsAgg Tryz.prog 43 true := ⟨_, Tryz.underlying43, rfl⟩
theorem fa43_0 : FieldAt Tryz.prog 43 0 0 1 false := ⟨_, _, Tryz.underlying43, rfl, rfl, ty3.size, ag3, by decide⟩
theorem fa43_1 : FieldAt Tryz.prog 43 1 1 1 false := ⟨_, _, Tryz.underlying43, rfl, rfl, ty3.size, ag3, by decide⟩
theorem fa43_2 : FieldAt Tryz.prog 43 2 2 1 false := ⟨_, _, Tryz.underlying43, rfl, rfl, ty41.size, ag41, by decide⟩
theorem c_reach1 (x : Ex) (h1 : Ex.ok1 x) (hz : x.sz ≤ 16777216) (w : List Int) (hw : w.length ≤ 1048576) (ih : ∀ d ∈ x.parts, ∀ f : Nat → Bool, FnC Tryz.prog 40 [Ex.avx d, .sl 1 (w.map AV.int), .sl 1 (rowB (w.length + 1) f)] [] (fun r M => M = [] ∧ ∃ g : Nat → Bool, r = .sl 1 (rowB (w.length + 1) g) ∧ Rch (Ex.lg d) w f g)) (f : Nat → Bool) (hk : x.kind = 1) : FnC Tryz.prog 40 [Ex.avx x, .sl 1 (w.map AV.int), .sl 1 (rowB (w.length + 1) f)] [] (fun r M => M = [] ∧ ∃ g : Nat → Bool, r = .sl 1 (rowB (w.length + 1) g) ∧ Rch (Ex.lg x) w f g) :=  by
  refine FnC.mk Tryz.func40 (by kernel_rfl) rfl Tryz.ntmps40 rfl (fun w0 F => ?_)
  have hpl : (x.parts.map Ex.av).length = x.parts.length := List.length_map ..
  have hwl : (w.map AV.int).length = w.length := List.length_map ..
  obtain ⟨k0, k1, k2, k3, k4, k5, k6, k7⟩ := Ex.ok1_facts h1
  have hse := Ex.sz_eq x
  have hsl := Ex.szs_len x.parts
  refine W.seq ?_
  refine W.region ?_
  refine W.box (.t rfl) rfl rfl ?_
  intro b3
  refine W.q (Ev.assign .k) rfl ?_
  refine W.nil ?_
  refine W.then ?_
  refine W.seq ?_
  refine W.region ?_
  refine W.q (Ev.move (.t rfl)) rfl ?_
  (refine W.q (Ev.lensl (.t rfl) Tryz.underlying26) rfl ?_)
  refine W.is (t := 16) (g := true) (av' := .int (((w.length + 1) : Nat) : Int)) rfl (congrArg AV.int (by rw [rowB_len])) ?_
  refine W.mk (.t rfl) (.t rfl) Tryz.underlying26 ty4 rfl rfl rfl rfl rfl (by omega) rfl ?_
  intro v17
  refine W.q (Ev.assign (.t rfl)) rfl ?_
  refine W.nil ?_
  refine W.then ?_
  refine W.seq ?_
  refine W.seq ?_
  refine W.region ?_
  (refine W.q (Ev.fab (.t rfl) fa43_0) rfl ?_)
  (refine W.q (Ev.ldb1 1 (.t rfl) rfl ag3 rfl) rfl ?_)
  refine W.nil ?_
  refine W.then ?_
  refine W.block ?_
  refine W.seq ?_
  refine W.region ?_
  refine W.q (Ev.eqi (.t rfl) .k) rfl ?_
  refine W.q (Ev.assign (.t rfl)) rfl ?_
  refine W.nil ?_
  refine W.then ?_
  refine W.is (t := 46) (g := true) (av' := .lit (.bool true)) rfl (congrArg (fun b => AV.lit (.bool b)) (by rw [hk]; rfl)) ?_
  refine W.condT (.t rfl) ?_
  refine W.seq ?_
  refine W.region ?_
  refine W.q (Ev.move (.t rfl)) rfl ?_
  (refine W.q (Ev.lensl (.t rfl) Tryz.underlying22) rfl ?_)
  refine W.q (Ev.move .k) rfl ?_
  refine W.nil ?_
  refine W.then ?_
  refine W.block ?_
  refine W.loop (D := []) (ι := Nat) (fun i => [(50, true, .int (i : Int)), (49, true, .int ((w.map AV.int).length : Int)), (48, true, .sl 1 (w.map AV.int)), (7, true, .lit v17), (2, true, .sl 1 (rowB (w.length + 1) f)), (3, true, .lit (.pointer (some ⟨b3, 0, none⟩)))]) (fun i => [.arr v17 4 1 (rowB (w.length + 1) (oneF f w x.type i)), .box b3 43 x.avx.cells]) (fun i => i ≤ w.length) (fun i => w.length - i) 0 ⟨rfl, rfl, rfl, rfl, rfl, rfl, trivial⟩ (by rw [← one_row0]; exact .refl _) (Nat.zero_le _) ?_
  intro i hi
  dsimp only at hi ⊢
  rcases (show i < w.length ∨ i = w.length from by omega) with hlt | hend
  · have hgw := getD_mapG AV.int 0 w i hlt
    have hgf := rowB_at (w.length + 1) f i (by omega)
    refine W.seq ?_
    refine W.region ?_
    refine W.q (Ev.lti (.t rfl) (.t rfl)) rfl ?_
    refine W.nil ?_
    refine W.then ?_
    refine W.seq ?_
    refine W.is (t := 51) (g := true) (av' := .lit (.bool true)) rfl (congrArg (fun b => AV.lit (.bool b)) (by exact decide_eq_true (by omega))) ?_
    refine W.condT (.t rfl) ?_
    refine W.skip ?_
    refine W.then ?_
    refine W.seq ?_
    refine W.block ?_
    refine W.seq ?_
    refine W.region ?_
    refine W.q (Ev.move (.t rfl)) rfl ?_
    refine W.q (Ev.at (E := 3) (.t rfl) (.t rfl) Tryz.underlying22 ty3 (fun _ => ⟨by omega, hgw⟩) rfl rfl) rfl ?_
    (refine W.q (Ev.lde1 (.t rfl) ag3) rfl ?_)
    refine W.q (Ev.assign (.t rfl)) rfl ?_
    refine W.q (Ev.assign (.t rfl)) rfl ?_
    refine W.nil ?_
    refine W.then ?_
    refine W.region ?_
    refine W.q (Ev.move (.t rfl)) rfl ?_
    refine W.q (Ev.move (.t rfl)) rfl ?_
    (refine W.q (Ev.add (.t rfl) .k (fun _ => by omega)) rfl ?_)
    refine W.q (Ev.move (.t rfl)) rfl ?_
    refine W.q (Ev.move (.t rfl)) rfl ?_
    refine W.q (Ev.at (E := 4) (.t rfl) (.t rfl) Tryz.underlying26 ty4 (fun _ => ⟨by omega, hgf⟩) rfl rfl) rfl ?_
    (refine W.q (Ev.lde1 (.t rfl) ag4) rfl ?_)
    refine W.q (Ev.move (.t rfl)) rfl ?_
    refine W.qgT rfl rfl (Ev.move (.t rfl)) rfl ?_
    (refine W.qgT rfl rfl (Ev.fab (.t rfl) fa43_1) rfl ?_)
    (refine W.qgT rfl rfl (Ev.ldb1 1 (.c rfl) rfl ag3 rfl) rfl ?_)
    refine W.qgT rfl rfl (Ev.eqi (.c rfl) (.c rfl)) rfl ?_
    refine W.q (Ev.and (.t rfl) ⟨_, _, rfl, rfl, by ((simp; done))⟩) rfl ?_
    refine W.is (t := 57) (g := true) (av' := .int ((i + 1 : Nat) : Int)) rfl (congrArg AV.int (by omega)) ?_
    refine W.q (Ev.ata 0 (.t rfl) rfl (.t rfl) Tryz.underlying26 ty4 (fun _ => by rw [rowB_len]; omega)) rfl ?_
    refine W.sta 0 (i + 1) 0 (e := .bool (oneF f w x.type i (i + 1))) (e' := .bool (f i && (w.getD i 0 == x.type))) (.t rfl) (.t rfl) rfl (rowB_at _ _ (i + 1) (by omega)) (by omega) ty4 rfl rfl rfl rfl rfl rfl rfl ?_
    refine W.nil ?_
    refine W.blk_normal ?_
    refine W.then ?_
    refine W.region ?_
    (refine W.q (Ev.add (.t rfl) .k (fun _ => by omega)) rfl ?_)
    refine W.q (Ev.move (.t rfl)) rfl ?_
    refine W.nil ?_
    refine W.then ?_
    refine W.reach (D := []) (i + 1) ⟨rfl, rfl, rfl, rfl, rfl, rfl, trivial⟩ (by rw [← one_row]; exact .refl _) ⟨by show i + 1 ≤ _; omega, by show _ - (i + 1) < _; omega⟩
  · rw [hend]
    refine W.seq ?_
    refine W.region ?_
    refine W.q (Ev.lti (.t rfl) (.t rfl)) rfl ?_
    refine W.nil ?_
    refine W.then ?_
    refine W.seq ?_
    refine W.is (t := 51) (g := true) (av' := .lit (.bool false)) rfl (congrArg (fun b => AV.lit (.bool b)) (by exact decide_eq_false (by omega))) ?_
    refine W.condF (.t rfl) ?_
    refine W.exit ?_
    refine W.then_exit ?_
    refine W.then_exit ?_
    refine W.blk_hit ?_
    refine W.blk_normal ?_
    refine W.then ?_
    refine W.seq ?_
    refine W.region ?_
    refine W.q (Ev.move (.t rfl)) rfl ?_
    refine W.q (Ev.assign (.t rfl)) rfl ?_
    refine W.nil ?_
    refine W.then ?_
    refine W.ret ?_
    refine W.freezeA (M1 := [_]) (M2 := [_]) (D := []) (v := v17) (L' := [(6, true, .sl 1 (rowB (w.length + 1) (oneF f w x.type w.length)))]) (.refl _) ⟨⟨_, rfl, .one .hit⟩, trivial⟩ (FrzMs.refl _) ?_
    refine W.retn (M' := []) (D := _) (rs := [.tmp 6]) (avs := [_]) Tryz.results40 ⟨rfl, trivial⟩ rfl (.refl _) ?_
    exact ⟨rfl, _, rfl, by rw [Ex.lg_eq, if_pos hk]; exact Rch.one x.type⟩

theorem c_reach2 (x : Ex) (h1 : Ex.ok1 x) (hz : x.sz ≤ 16777216) (w : List Int) (hw : w.length ≤ 1048576) (ih : ∀ d ∈ x.parts, ∀ f : Nat → Bool, FnC Tryz.prog 40 [Ex.avx d, .sl 1 (w.map AV.int), .sl 1 (rowB (w.length + 1) f)] [] (fun r M => M = [] ∧ ∃ g : Nat → Bool, r = .sl 1 (rowB (w.length + 1) g) ∧ Rch (Ex.lg d) w f g)) (f : Nat → Bool) (hk : x.kind = 2) : FnC Tryz.prog 40 [Ex.avx x, .sl 1 (w.map AV.int), .sl 1 (rowB (w.length + 1) f)] [] (fun r M => M = [] ∧ ∃ g : Nat → Bool, r = .sl 1 (rowB (w.length + 1) g) ∧ Rch (Ex.lg x) w f g) :=  by
  refine FnC.mk Tryz.func40 (by kernel_rfl) rfl Tryz.ntmps40 rfl (fun w0 F => ?_)
  have hpl : (x.parts.map Ex.av).length = x.parts.length := List.length_map ..
  have hwl : (w.map AV.int).length = w.length := List.length_map ..
  obtain ⟨k0, k1, k2, k3, k4, k5, k6, k7⟩ := Ex.ok1_facts h1
  have hse := Ex.sz_eq x
  have hsl := Ex.szs_len x.parts
  refine W.seq ?_
  refine W.region ?_
  refine W.box (.t rfl) rfl rfl ?_
  intro b3
  refine W.q (Ev.assign .k) rfl ?_
  refine W.nil ?_
  refine W.then ?_
  refine W.seq ?_
  refine W.region ?_
  refine W.q (Ev.move (.t rfl)) rfl ?_
  (refine W.q (Ev.lensl (.t rfl) Tryz.underlying26) rfl ?_)
  refine W.is (t := 16) (g := true) (av' := .int (((w.length + 1) : Nat) : Int)) rfl (congrArg AV.int (by rw [rowB_len])) ?_
  refine W.mk (.t rfl) (.t rfl) Tryz.underlying26 ty4 rfl rfl rfl rfl rfl (by omega) rfl ?_
  intro v17
  refine W.q (Ev.assign (.t rfl)) rfl ?_
  refine W.nil ?_
  refine W.then ?_
  refine W.seq ?_
  refine W.seq ?_
  refine W.region ?_
  (refine W.q (Ev.fab (.t rfl) fa43_0) rfl ?_)
  (refine W.q (Ev.ldb1 1 (.t rfl) rfl ag3 rfl) rfl ?_)
  refine W.nil ?_
  refine W.then ?_
  refine W.block ?_
  refine W.seq ?_
  refine W.region ?_
  refine W.q (Ev.eqi (.t rfl) .k) rfl ?_
  refine W.q (Ev.assign (.t rfl)) rfl ?_
  refine W.nil ?_
  refine W.then ?_
  refine W.is (t := 46) (g := true) (av' := .lit (.bool false)) rfl (congrArg (fun b => AV.lit (.bool b)) (by rw [hk]; rfl)) ?_
  refine W.condF (.t rfl) ?_
  refine W.seq ?_
  refine W.region ?_
  refine W.q (Ev.eqi (.t rfl) .k) rfl ?_
  refine W.q (Ev.assign (.t rfl)) rfl ?_
  refine W.nil ?_
  refine W.then ?_
  refine W.is (t := 70) (g := true) (av' := .lit (.bool true)) rfl (congrArg (fun b => AV.lit (.bool b)) (by rw [hk]; rfl)) ?_
  refine W.condT (.t rfl) ?_
  refine W.seq ?_
  refine W.region ?_
  refine W.q (Ev.move (.t rfl)) rfl ?_
  refine W.call (WMatch1.c_CloneB (rowB (w.length + 1) f) (okc_rowB _ _) (by rw [rowB_len]; omega)) ⟨(.t rfl), trivial⟩ (.refl _) rfl ?_
  rintro _ _ ⟨v73, rfl, rfl⟩
  refine W.q (Ev.assign (.t rfl)) rfl ?_
  refine W.nil ?_
  refine W.freezeA (M1 := [_, _]) (M2 := [_, _]) (D := []) (v := v73) (L' := [(7, true, .sl 1 (rowB (w.length + 1) f))]) (.refl _) ⟨⟨_, rfl, .one .hit⟩, trivial⟩ (FrzMs.refl _) ?_
  refine W.then ?_
  refine W.seq ?_
  refine W.region ?_
  (refine W.q (Ev.fab (.t rfl) fa43_2) rfl ?_)
  (refine W.q (Ev.ldb1 1 (.t rfl) rfl ag41 rfl) rfl ?_)
  (refine W.q (Ev.lensl (.t rfl) Tryz.underlying41) rfl ?_)
  refine W.q (Ev.move .k) rfl ?_
  refine W.nil ?_
  refine W.then ?_
  refine W.block ?_
  refine W.loop (D := [_]) (ι := Nat × (Nat → Bool)) (fun z => [(77, true, .int (z.1 : Int)), (76, true, .int ((x.parts.map Ex.av).length : Int)), (75, true, .sl 3 (x.parts.map Ex.av)), (7, true, .sl 1 (rowB (w.length + 1) z.2)), (1, true, .sl 1 (w.map AV.int))]) (fun z => [.box b3 43 x.avx.cells]) (fun z => z.1 ≤ x.parts.length ∧ Rch (Ex.seqs (x.parts.take z.1)) w f z.2) (fun z => x.parts.length - z.1) (0, f) ⟨rfl, rfl, rfl, rfl, rfl, trivial⟩ (List.Perm.swap _ _ []) ⟨Nat.zero_le _, Rch.eps⟩ ?_
  rintro ⟨i, g⟩ ⟨hi, hg⟩
  dsimp only at hi hg ⊢
  rcases (show i < x.parts.length ∨ i = x.parts.length from by omega) with hlt | hend
  · have hga := Ex.at_av x.parts i hlt
    have hdm := getD_memG Ex.dflt x.parts i hlt
    have hts := take_getDG Ex.dflt x.parts i hlt
    generalize x.parts.getD i Ex.dflt = d at hga hdm hts
    refine W.seq ?_
    refine W.region ?_
    refine W.q (Ev.lti (.t rfl) (.t rfl)) rfl ?_
    refine W.nil ?_
    refine W.then ?_
    refine W.seq ?_
    refine W.is (t := 78) (g := true) (av' := .lit (.bool true)) rfl (congrArg (fun b => AV.lit (.bool b)) (by exact decide_eq_true (by omega))) ?_
    refine W.condT (.t rfl) ?_
    refine W.skip ?_
    refine W.then ?_
    refine W.seq ?_
    refine W.block ?_
    refine W.seq ?_
    refine W.region ?_
    refine W.q (Ev.at (E := 43) (.t rfl) (.t rfl) Tryz.underlying41 ty43 (fun _ => ⟨by omega, hga⟩) rfl rfl) rfl ?_
    (refine W.q (Ev.lden (.t rfl) ag43 ty43 rfl rfl) rfl ?_)
    refine W.alloc ty43 rfl rfl ?_
    intro b11
    (refine W.stb 0 (.t rfl) (.t rfl) rfl ty43 rfl rfl rfl ?_)
    refine W.nil ?_
    refine W.then ?_
    refine W.region ?_
    (refine W.q (Ev.ldbn 0 (.t rfl) rfl ag43 ty43 rfl) rfl ?_)
    refine W.q (Ev.move (.t rfl)) rfl ?_
    refine W.q (Ev.move (.t rfl)) rfl ?_
    refine W.call (ih d hdm g) ⟨(.t rfl), (.t rfl), (.t rfl), trivial⟩ (.refl _) rfl ?_
    rintro _ _ ⟨rfl, g2, rfl, hg2⟩
    refine W.q (Ev.assign (.t rfl)) rfl ?_
    refine W.nil ?_
    refine W.blk_normal ?_
    refine W.then ?_
    refine W.region ?_
    (refine W.q (Ev.add (.t rfl) .k (fun _ => by omega)) rfl ?_)
    refine W.q (Ev.move (.t rfl)) rfl ?_
    refine W.nil ?_
    refine W.then ?_
    refine W.reach (D := [_]) (i + 1, g2) ⟨rfl, rfl, rfl, rfl, rfl, trivial⟩ (List.Perm.swap _ _ []) ⟨⟨by show i + 1 ≤ _; omega, by show Rch (Ex.seqs (x.parts.take (i + 1))) w f g2; rw [hts, Ex.seqs_append, Ex.seqs_one]; exact hg.cat hg2⟩, by show _ - (i + 1) < _; omega⟩
  · rw [List.take_of_length_le (show x.parts.length ≤ i from by omega)] at hg
    refine W.seq ?_
    refine W.region ?_
    refine W.q (Ev.lti (.t rfl) (.t rfl)) rfl ?_
    refine W.nil ?_
    refine W.then ?_
    refine W.seq ?_
    refine W.is (t := 78) (g := true) (av' := .lit (.bool false)) rfl (congrArg (fun b => AV.lit (.bool b)) (by exact decide_eq_false (by omega))) ?_
    refine W.condF (.t rfl) ?_
    refine W.exit ?_
    refine W.then_exit ?_
    refine W.then_exit ?_
    refine W.blk_hit ?_
    refine W.blk_normal ?_
    refine W.then ?_
    refine W.seq ?_
    refine W.region ?_
    refine W.q (Ev.move (.t rfl)) rfl ?_
    refine W.q (Ev.assign (.t rfl)) rfl ?_
    refine W.nil ?_
    refine W.then ?_
    refine W.ret ?_
    refine W.retn (M' := []) (D := _) (rs := [.tmp 6]) (avs := [_]) Tryz.results40 ⟨rfl, trivial⟩ rfl (.refl _) ?_
    exact ⟨rfl, _, rfl, by rw [Ex.lg_eq, if_neg (by omega), if_pos hk]; exact hg⟩

theorem c_reach3 (x : Ex) (h1 : Ex.ok1 x) (hz : x.sz ≤ 16777216) (w : List Int) (hw : w.length ≤ 1048576) (ih : ∀ d ∈ x.parts, ∀ f : Nat → Bool, FnC Tryz.prog 40 [Ex.avx d, .sl 1 (w.map AV.int), .sl 1 (rowB (w.length + 1) f)] [] (fun r M => M = [] ∧ ∃ g : Nat → Bool, r = .sl 1 (rowB (w.length + 1) g) ∧ Rch (Ex.lg d) w f g)) (f : Nat → Bool) (hk : x.kind = 3) : FnC Tryz.prog 40 [Ex.avx x, .sl 1 (w.map AV.int), .sl 1 (rowB (w.length + 1) f)] [] (fun r M => M = [] ∧ ∃ g : Nat → Bool, r = .sl 1 (rowB (w.length + 1) g) ∧ Rch (Ex.lg x) w f g) :=  by
  refine FnC.mk Tryz.func40 (by kernel_rfl) rfl Tryz.ntmps40 rfl (fun w0 F => ?_)
  have hpl : (x.parts.map Ex.av).length = x.parts.length := List.length_map ..
  have hwl : (w.map AV.int).length = w.length := List.length_map ..
  obtain ⟨k0, k1, k2, k3, k4, k5, k6, k7⟩ := Ex.ok1_facts h1
  have hse := Ex.sz_eq x
  have hsl := Ex.szs_len x.parts
  refine W.seq ?_
  refine W.region ?_
  refine W.box (.t rfl) rfl rfl ?_
  intro b3
  refine W.q (Ev.assign .k) rfl ?_
  refine W.nil ?_
  refine W.then ?_
  refine W.seq ?_
  refine W.region ?_
  refine W.q (Ev.move (.t rfl)) rfl ?_
  (refine W.q (Ev.lensl (.t rfl) Tryz.underlying26) rfl ?_)
  refine W.is (t := 16) (g := true) (av' := .int (((w.length + 1) : Nat) : Int)) rfl (congrArg AV.int (by rw [rowB_len])) ?_
  refine W.mk (.t rfl) (.t rfl) Tryz.underlying26 ty4 rfl rfl rfl rfl rfl (by omega) rfl ?_
  intro v17
  refine W.q (Ev.assign (.t rfl)) rfl ?_
  refine W.nil ?_
  refine W.then ?_
  refine W.seq ?_
  refine W.seq ?_
  refine W.region ?_
  (refine W.q (Ev.fab (.t rfl) fa43_0) rfl ?_)
  (refine W.q (Ev.ldb1 1 (.t rfl) rfl ag3 rfl) rfl ?_)
  refine W.nil ?_
  refine W.then ?_
  refine W.block ?_
  refine W.seq ?_
  refine W.region ?_
  refine W.q (Ev.eqi (.t rfl) .k) rfl ?_
  refine W.q (Ev.assign (.t rfl)) rfl ?_
  refine W.nil ?_
  refine W.then ?_
  refine W.is (t := 46) (g := true) (av' := .lit (.bool false)) rfl (congrArg (fun b => AV.lit (.bool b)) (by rw [hk]; rfl)) ?_
  refine W.condF (.t rfl) ?_
  refine W.seq ?_
  refine W.region ?_
  refine W.q (Ev.eqi (.t rfl) .k) rfl ?_
  refine W.q (Ev.assign (.t rfl)) rfl ?_
  refine W.nil ?_
  refine W.then ?_
  refine W.is (t := 70) (g := true) (av' := .lit (.bool false)) rfl (congrArg (fun b => AV.lit (.bool b)) (by rw [hk]; rfl)) ?_
  refine W.condF (.t rfl) ?_
  refine W.seq ?_
  refine W.region ?_
  refine W.q (Ev.eqi (.t rfl) .k) rfl ?_
  refine W.q (Ev.assign (.t rfl)) rfl ?_
  refine W.nil ?_
  refine W.then ?_
  refine W.is (t := 86) (g := true) (av' := .lit (.bool true)) rfl (congrArg (fun b => AV.lit (.bool b)) (by rw [hk]; rfl)) ?_
  refine W.condT (.t rfl) ?_
  refine W.seq ?_
  refine W.region ?_
  (refine W.q (Ev.fab (.t rfl) fa43_2) rfl ?_)
  (refine W.q (Ev.ldb1 1 (.t rfl) rfl ag41 rfl) rfl ?_)
  (refine W.q (Ev.lensl (.t rfl) Tryz.underlying41) rfl ?_)
  refine W.q (Ev.move .k) rfl ?_
  refine W.nil ?_
  refine W.freezeA (M1 := [_]) (M2 := [_]) (D := []) (v := v17) (L' := [(7, true, .sl 1 (rowB (w.length + 1) (fun _ => false)))]) (.refl _) ⟨⟨_, rfl, .one (by rw [← rowB_rep]; exact .hit)⟩, trivial⟩ (FrzMs.refl _) ?_
  refine W.then ?_
  refine W.block ?_
  refine W.loop (D := []) (ι := Nat × (Nat → Bool)) (fun z => [(91, true, .int (z.1 : Int)), (90, true, .int ((x.parts.map Ex.av).length : Int)), (89, true, .sl 3 (x.parts.map Ex.av)), (7, true, .sl 1 (rowB (w.length + 1) z.2)), (1, true, .sl 1 (w.map AV.int)), (2, true, .sl 1 (rowB (w.length + 1) f))]) (fun z => [.box b3 43 x.avx.cells]) (fun z => z.1 ≤ x.parts.length ∧ Rch (Ex.alts (x.parts.take z.1)) w f z.2) (fun z => x.parts.length - z.1) (0, fun _ => false) ⟨rfl, rfl, rfl, rfl, rfl, rfl, trivial⟩ (.refl _) ⟨Nat.zero_le _, Rch.none⟩ ?_
  rintro ⟨i, g⟩ ⟨hi, hg⟩
  dsimp only at hi hg ⊢
  rcases (show i < x.parts.length ∨ i = x.parts.length from by omega) with hlt | hend
  · have hga := Ex.at_av x.parts i hlt
    have hdm := getD_memG Ex.dflt x.parts i hlt
    have hts := take_getDG Ex.dflt x.parts i hlt
    generalize x.parts.getD i Ex.dflt = d at hga hdm hts
    refine W.seq ?_
    refine W.region ?_
    refine W.q (Ev.lti (.t rfl) (.t rfl)) rfl ?_
    refine W.nil ?_
    refine W.then ?_
    refine W.seq ?_
    refine W.is (t := 92) (g := true) (av' := .lit (.bool true)) rfl (congrArg (fun b => AV.lit (.bool b)) (by exact decide_eq_true (by omega))) ?_
    refine W.condT (.t rfl) ?_
    refine W.skip ?_
    refine W.then ?_
    refine W.seq ?_
    refine W.block ?_
    refine W.seq ?_
    refine W.region ?_
    refine W.q (Ev.at (E := 43) (.t rfl) (.t rfl) Tryz.underlying41 ty43 (fun _ => ⟨by omega, hga⟩) rfl rfl) rfl ?_
    (refine W.q (Ev.lden (.t rfl) ag43 ty43 rfl rfl) rfl ?_)
    refine W.alloc ty43 rfl rfl ?_
    intro b13
    (refine W.stb 0 (.t rfl) (.t rfl) rfl ty43 rfl rfl rfl ?_)
    refine W.nil ?_
    refine W.then ?_
    refine W.region ?_
    refine W.q (Ev.move (.t rfl)) rfl ?_
    (refine W.q (Ev.ldbn 0 (.t rfl) rfl ag43 ty43 rfl) rfl ?_)
    refine W.q (Ev.move (.t rfl)) rfl ?_
    refine W.q (Ev.move (.t rfl)) rfl ?_
    refine W.call (ih d hdm f) ⟨(.t rfl), (.t rfl), (.t rfl), trivial⟩ (.refl _) rfl ?_
    rintro _ _ ⟨rfl, g2, rfl, hg2⟩
    refine W.callp (WMatch1.c_either (w.length + 1) g g2 (by omega)) ⟨(.t rfl), (.t rfl), trivial⟩ rfl ?_
    refine W.q (Ev.assign (.t rfl)) rfl ?_
    refine W.nil ?_
    refine W.blk_normal ?_
    refine W.then ?_
    refine W.region ?_
    (refine W.q (Ev.add (.t rfl) .k (fun _ => by omega)) rfl ?_)
    refine W.q (Ev.move (.t rfl)) rfl ?_
    refine W.nil ?_
    refine W.then ?_
    refine W.reach (D := [_]) (i + 1, fun j => g j || g2 j) ⟨rfl, rfl, rfl, rfl, rfl, rfl, trivial⟩ (List.Perm.swap _ _ []) ⟨⟨by show i + 1 ≤ _; omega, by show Rch (Ex.alts (x.parts.take (i + 1))) w f _; rw [hts, Ex.alts_append, Ex.alts_one]; exact hg.alt hg2⟩, by show _ - (i + 1) < _; omega⟩
  · rw [List.take_of_length_le (show x.parts.length ≤ i from by omega)] at hg
    refine W.seq ?_
    refine W.region ?_
    refine W.q (Ev.lti (.t rfl) (.t rfl)) rfl ?_
    refine W.nil ?_
    refine W.then ?_
    refine W.seq ?_
    refine W.is (t := 92) (g := true) (av' := .lit (.bool false)) rfl (congrArg (fun b => AV.lit (.bool b)) (by exact decide_eq_false (by omega))) ?_
    refine W.condF (.t rfl) ?_
    refine W.exit ?_
    refine W.then_exit ?_
    refine W.then_exit ?_
    refine W.blk_hit ?_
    refine W.blk_normal ?_
    refine W.then ?_
    refine W.seq ?_
    refine W.region ?_
    refine W.q (Ev.move (.t rfl)) rfl ?_
    refine W.q (Ev.assign (.t rfl)) rfl ?_
    refine W.nil ?_
    refine W.then ?_
    refine W.ret ?_
    refine W.retn (M' := []) (D := _) (rs := [.tmp 6]) (avs := [_]) Tryz.results40 ⟨rfl, trivial⟩ rfl (.refl _) ?_
    exact ⟨rfl, _, rfl, by rw [Ex.lg_eq, if_neg (by omega), if_neg (by omega), if_pos hk]; exact hg⟩

theorem c_reach6 (x : Ex) (h1 : Ex.ok1 x) (hz : x.sz ≤ 16777216) (w : List Int) (hw : w.length ≤ 1048576) (ih : ∀ d ∈ x.parts, ∀ f : Nat → Bool, FnC Tryz.prog 40 [Ex.avx d, .sl 1 (w.map AV.int), .sl 1 (rowB (w.length + 1) f)] [] (fun r M => M = [] ∧ ∃ g : Nat → Bool, r = .sl 1 (rowB (w.length + 1) g) ∧ Rch (Ex.lg d) w f g)) (f : Nat → Bool) (hk : x.kind = 6) : FnC Tryz.prog 40 [Ex.avx x, .sl 1 (w.map AV.int), .sl 1 (rowB (w.length + 1) f)] [] (fun r M => M = [] ∧ ∃ g : Nat → Bool, r = .sl 1 (rowB (w.length + 1) g) ∧ Rch (Ex.lg x) w f g) :=  by
  refine FnC.mk Tryz.func40 (by kernel_rfl) rfl Tryz.ntmps40 rfl (fun w0 F => ?_)
  have hpl : (x.parts.map Ex.av).length = x.parts.length := List.length_map ..
  have hwl : (w.map AV.int).length = w.length := List.length_map ..
  obtain ⟨k0, k1, k2, k3, k4, k5, k6, k7⟩ := Ex.ok1_facts h1
  have hse := Ex.sz_eq x
  have hsl := Ex.szs_len x.parts
  obtain ⟨q, hq⟩ : ∃ q, x.parts = [q] := List.length_eq_one_iff.1 (k6 (by omega))
  have hgq : (x.parts.map Ex.av)[0]? = some q.avx := by rw [hq, ← Ex.av_eq]; rfl
  have hqm : q ∈ x.parts := by rw [hq]; exact List.mem_cons_self
  have hal : Ex.alts x.parts = Ex.lg q := by rw [hq, Ex.alts_one]
  refine W.seq ?_
  refine W.region ?_
  refine W.box (.t rfl) rfl rfl ?_
  intro b3
  refine W.q (Ev.assign .k) rfl ?_
  refine W.nil ?_
  refine W.then ?_
  refine W.seq ?_
  refine W.region ?_
  refine W.q (Ev.move (.t rfl)) rfl ?_
  (refine W.q (Ev.lensl (.t rfl) Tryz.underlying26) rfl ?_)
  refine W.is (t := 16) (g := true) (av' := .int (((w.length + 1) : Nat) : Int)) rfl (congrArg AV.int (by rw [rowB_len])) ?_
  refine W.mk (.t rfl) (.t rfl) Tryz.underlying26 ty4 rfl rfl rfl rfl rfl (by omega) rfl ?_
  intro v17
  refine W.q (Ev.assign (.t rfl)) rfl ?_
  refine W.nil ?_
  refine W.then ?_
  refine W.seq ?_
  refine W.seq ?_
  refine W.region ?_
  (refine W.q (Ev.fab (.t rfl) fa43_0) rfl ?_)
  (refine W.q (Ev.ldb1 1 (.t rfl) rfl ag3 rfl) rfl ?_)
  refine W.nil ?_
  refine W.then ?_
  refine W.block ?_
  refine W.seq ?_
  refine W.region ?_
  refine W.q (Ev.eqi (.t rfl) .k) rfl ?_
  refine W.q (Ev.assign (.t rfl)) rfl ?_
  refine W.nil ?_
  refine W.then ?_
  refine W.is (t := 46) (g := true) (av' := .lit (.bool false)) rfl (congrArg (fun b => AV.lit (.bool b)) (by rw [hk]; rfl)) ?_
  refine W.condF (.t rfl) ?_
  refine W.seq ?_
  refine W.region ?_
  refine W.q (Ev.eqi (.t rfl) .k) rfl ?_
  refine W.q (Ev.assign (.t rfl)) rfl ?_
  refine W.nil ?_
  refine W.then ?_
  refine W.is (t := 70) (g := true) (av' := .lit (.bool false)) rfl (congrArg (fun b => AV.lit (.bool b)) (by rw [hk]; rfl)) ?_
  refine W.condF (.t rfl) ?_
  refine W.seq ?_
  refine W.region ?_
  refine W.q (Ev.eqi (.t rfl) .k) rfl ?_
  refine W.q (Ev.assign (.t rfl)) rfl ?_
  refine W.nil ?_
  refine W.then ?_
  refine W.is (t := 86) (g := true) (av' := .lit (.bool false)) rfl (congrArg (fun b => AV.lit (.bool b)) (by rw [hk]; rfl)) ?_
  refine W.condF (.t rfl) ?_
  refine W.seq ?_
  refine W.region ?_
  refine W.q (Ev.eqi (.t rfl) .k) rfl ?_
  refine W.q (Ev.assign (.t rfl)) rfl ?_
  refine W.nil ?_
  refine W.then ?_
  refine W.is (t := 102) (g := true) (av' := .lit (.bool true)) rfl (congrArg (fun b => AV.lit (.bool b)) (by rw [hk]; rfl)) ?_
  refine W.condT (.t rfl) ?_
  refine W.region ?_
  refine W.q (Ev.move (.t rfl)) rfl ?_
  (refine W.q (Ev.fab (.t rfl) fa43_2) rfl ?_)
  (refine W.q (Ev.ldb1 1 (.t rfl) rfl ag41 rfl) rfl ?_)
  refine W.q (Ev.at (E := 43) (.t rfl) .k Tryz.underlying41 ty43 (fun _ => ⟨by decide, hgq⟩) rfl rfl) rfl ?_
  (refine W.q (Ev.lden (.t rfl) ag43 ty43 rfl rfl) rfl ?_)
  refine W.q (Ev.move (.t rfl)) rfl ?_
  refine W.q (Ev.move (.t rfl)) rfl ?_
  refine W.call (ih q hqm f) ⟨(.t rfl), (.t rfl), (.t rfl), trivial⟩ (.refl _) rfl ?_
  rintro _ _ ⟨rfl, g2, rfl, hg2⟩
  refine W.callp (WMatch1.c_either (w.length + 1) f g2 (by omega)) ⟨(.t rfl), (.t rfl), trivial⟩ rfl ?_
  refine W.q (Ev.assign (.t rfl)) rfl ?_
  refine W.nil ?_
  refine W.blk_normal ?_
  refine W.then ?_
  refine W.seq ?_
  refine W.region ?_
  refine W.q (Ev.move (.t rfl)) rfl ?_
  refine W.q (Ev.assign (.t rfl)) rfl ?_
  refine W.nil ?_
  refine W.then ?_
  refine W.ret ?_
  refine W.retn (M' := []) (D := _) (rs := [.tmp 6]) (avs := [_]) Tryz.results40 ⟨rfl, trivial⟩ rfl (.refl _) ?_
  exact ⟨rfl, _, rfl, by rw [Ex.lg_eq, if_neg (by omega), if_neg (by omega), if_neg (by omega), if_neg (by omega), if_neg (by omega), hal]; exact Rch.eps.alt hg2⟩

theorem c_reach4 (x : Ex) (h1 : Ex.ok1 x) (hz : x.sz ≤ 16777216) (w : List Int) (hw : w.length ≤ 1048576) (ih : ∀ d ∈ x.parts, ∀ f : Nat → Bool, FnC Tryz.prog 40 [Ex.avx d, .sl 1 (w.map AV.int), .sl 1 (rowB (w.length + 1) f)] [] (fun r M => M = [] ∧ ∃ g : Nat → Bool, r = .sl 1 (rowB (w.length + 1) g) ∧ Rch (Ex.lg d) w f g)) (f : Nat → Bool) (hk : x.kind = 4) : FnC Tryz.prog 40 [Ex.avx x, .sl 1 (w.map AV.int), .sl 1 (rowB (w.length + 1) f)] [] (fun r M => M = [] ∧ ∃ g : Nat → Bool, r = .sl 1 (rowB (w.length + 1) g) ∧ Rch (Ex.lg x) w f g) :=  by
  refine FnC.mk Tryz.func40 (by kernel_rfl) rfl Tryz.ntmps40 rfl (fun w0 F => ?_)
  have hpl : (x.parts.map Ex.av).length = x.parts.length := List.length_map ..
  have hwl : (w.map AV.int).length = w.length := List.length_map ..
  obtain ⟨k0, k1, k2, k3, k4, k5, k6, k7⟩ := Ex.ok1_facts h1
  have hse := Ex.sz_eq x
  have hsl := Ex.szs_len x.parts
  obtain ⟨q, hq⟩ : ∃ q, x.parts = [q] := List.length_eq_one_iff.1 (k6 (by omega))
  have hgq : (x.parts.map Ex.av)[0]? = some q.avx := by rw [hq, ← Ex.av_eq]; rfl
  have hqm : q ∈ x.parts := by rw [hq]; exact List.mem_cons_self
  have hal : Ex.alts x.parts = Ex.lg q := by rw [hq, Ex.alts_one]
  refine W.seq ?_
  refine W.region ?_
  refine W.box (.t rfl) rfl rfl ?_
  intro b3
  refine W.q (Ev.assign .k) rfl ?_
  refine W.nil ?_
  refine W.then ?_
  refine W.seq ?_
  refine W.region ?_
  refine W.q (Ev.move (.t rfl)) rfl ?_
  (refine W.q (Ev.lensl (.t rfl) Tryz.underlying26) rfl ?_)
  refine W.is (t := 16) (g := true) (av' := .int (((w.length + 1) : Nat) : Int)) rfl (congrArg AV.int (by rw [rowB_len])) ?_
  refine W.mk (.t rfl) (.t rfl) Tryz.underlying26 ty4 rfl rfl rfl rfl rfl (by omega) rfl ?_
  intro v17
  refine W.q (Ev.assign (.t rfl)) rfl ?_
  refine W.nil ?_
  refine W.then ?_
  refine W.seq ?_
  refine W.seq ?_
  refine W.region ?_
  (refine W.q (Ev.fab (.t rfl) fa43_0) rfl ?_)
  (refine W.q (Ev.ldb1 1 (.t rfl) rfl ag3 rfl) rfl ?_)
  refine W.nil ?_
  refine W.then ?_
  refine W.block ?_
  refine W.seq ?_
  refine W.region ?_
  refine W.q (Ev.eqi (.t rfl) .k) rfl ?_
  refine W.q (Ev.assign (.t rfl)) rfl ?_
  refine W.nil ?_
  refine W.then ?_
  refine W.is (t := 46) (g := true) (av' := .lit (.bool false)) rfl (congrArg (fun b => AV.lit (.bool b)) (by rw [hk]; rfl)) ?_
  refine W.condF (.t rfl) ?_
  refine W.seq ?_
  refine W.region ?_
  refine W.q (Ev.eqi (.t rfl) .k) rfl ?_
  refine W.q (Ev.assign (.t rfl)) rfl ?_
  refine W.nil ?_
  refine W.then ?_
  refine W.is (t := 70) (g := true) (av' := .lit (.bool false)) rfl (congrArg (fun b => AV.lit (.bool b)) (by rw [hk]; rfl)) ?_
  refine W.condF (.t rfl) ?_
  refine W.seq ?_
  refine W.region ?_
  refine W.q (Ev.eqi (.t rfl) .k) rfl ?_
  refine W.q (Ev.assign (.t rfl)) rfl ?_
  refine W.nil ?_
  refine W.then ?_
  refine W.is (t := 86) (g := true) (av' := .lit (.bool false)) rfl (congrArg (fun b => AV.lit (.bool b)) (by rw [hk]; rfl)) ?_
  refine W.condF (.t rfl) ?_
  refine W.seq ?_
  refine W.region ?_
  refine W.q (Ev.eqi (.t rfl) .k) rfl ?_
  refine W.q (Ev.assign (.t rfl)) rfl ?_
  refine W.nil ?_
  refine W.then ?_
  refine W.is (t := 102) (g := true) (av' := .lit (.bool false)) rfl (congrArg (fun b => AV.lit (.bool b)) (by rw [hk]; rfl)) ?_
  refine W.condF (.t rfl) ?_
  refine W.seq ?_
  refine W.region ?_
  refine W.q (Ev.move (.t rfl)) rfl ?_
  refine W.call (WMatch1.c_CloneB (rowB (w.length + 1) f) (okc_rowB _ _) (by rw [rowB_len]; omega)) ⟨(.t rfl), trivial⟩ (.refl _) rfl ?_
  rintro _ _ ⟨v21, rfl, rfl⟩
  refine W.q (Ev.assign (.t rfl)) rfl ?_
  refine W.nil ?_
  refine W.freezeA (M1 := [_, _]) (M2 := [_, _]) (D := []) (v := v21) (L' := [(7, true, .sl 1 (rowB (w.length + 1) f))]) (.refl _) ⟨⟨_, rfl, .one .hit⟩, trivial⟩ (FrzMs.refl _) ?_
  refine W.weaken (L' := [(7, true, .sl 1 (rowB (w.length + 1) f)), (1, true, .sl 1 (w.map AV.int)), (2, true, .sl 1 (rowB (w.length + 1) f)), (3, true, .lit (.pointer (some ⟨b3, 0, none⟩)))]) (M' := [.box b3 43 x.avx.cells]) (D := [_]) ⟨rfl, rfl, rfl, rfl, trivial⟩ (List.Perm.swap _ _ []) ?_
  refine W.then ?_
  refine W.seq ?_
  refine W.seq ?_
  refine W.region ?_
  (refine W.q (Ev.fab (.t rfl) fa43_0) rfl ?_)
  (refine W.q (Ev.ldb1 0 (.t rfl) rfl ag3 rfl) rfl ?_)
  refine W.q (Ev.eqi (.t rfl) .k) rfl ?_
  refine W.nil ?_
  refine W.then ?_
  refine W.is (t := 24) (g := true) (av' := .lit (.bool false)) rfl (congrArg (fun b => AV.lit (.bool b)) (by rw [hk]; rfl)) ?_
  refine W.condF (.t rfl) ?_
  refine W.skip ?_
  refine W.then ?_
  refine W.block ?_
  refine W.loop (D := []) (ι := Nat → Bool) (fun o => [(7, true, .sl 1 (rowB (w.length + 1) o)), (1, true, .sl 1 (w.map AV.int)), (3, true, .lit (.pointer (some ⟨b3, 0, none⟩)))]) (fun o => [.box b3 43 x.avx.cells]) (fun o => WayR (Ex.lg q) w f o) (fun o => outs (w.length + 1) o) f ⟨rfl, rfl, rfl, trivial⟩ (.refl _) WayR.start ?_
  intro o ho
  dsimp only at ho ⊢
  refine W.block ?_
  refine W.seq ?_
  refine W.region ?_
  refine W.q (Ev.move (.t rfl)) rfl ?_
  (refine W.q (Ev.fab (.t rfl) fa43_2) rfl ?_)
  (refine W.q (Ev.ldb1 0 (.t rfl) rfl ag41 rfl) rfl ?_)
  refine W.q (Ev.at (E := 43) (.t rfl) .k Tryz.underlying41 ty43 (fun _ => ⟨by decide, hgq⟩) rfl rfl) rfl ?_
  (refine W.q (Ev.lden (.t rfl) ag43 ty43 rfl rfl) rfl ?_)
  refine W.q (Ev.move (.t rfl)) rfl ?_
  refine W.q (Ev.move (.t rfl)) rfl ?_
  refine W.call (ih q hqm o) ⟨(.t rfl), (.t rfl), (.t rfl), trivial⟩ (.refl _) rfl ?_
  rintro _ _ ⟨rfl, g2, rfl, hg2⟩
  refine W.callp (WMatch1.c_either (w.length + 1) o g2 (by omega)) ⟨(.t rfl), (.t rfl), trivial⟩ rfl ?_
  refine W.q (Ev.assign (.t rfl)) rfl ?_
  refine W.nil ?_
  refine W.then ?_
  refine W.seq ?_
  refine W.seq ?_
  refine W.region ?_
  refine W.q (Ev.move (.t rfl)) rfl ?_
  refine W.q (Ev.move (.t rfl)) rfl ?_
  refine W.call (WMatch1.c_EqualB (w.length + 1) (fun j => o j || g2 j) o (by omega)) ⟨(.t rfl), (.t rfl), trivial⟩ (.refl _) rfl ?_
  rintro _ _ ⟨rfl, q43, rfl, hq43⟩
  refine W.nil ?_
  refine W.then ?_
  refine W.cond (.t rfl) (fun hc_t43 => ?_) (fun hc_t43 => ?_)
  · refine W.seq ?_
    refine W.region ?_
    refine W.q (Ev.move (.t rfl)) rfl ?_
    refine W.q (Ev.assign (.t rfl)) rfl ?_
    refine W.nil ?_
    refine W.then ?_
    refine W.ret ?_
    refine W.then_ret ?_
    refine W.blk_ret ?_
    refine W.then_ret ?_
    refine W.blk_ret ?_
    refine W.blk_ret ?_
    refine W.then_ret ?_
    refine W.retn (M' := []) (D := _) (rs := [.tmp 6]) (avs := [_]) Tryz.results40 ⟨rfl, trivial⟩ rfl (.refl _) ?_
    exact ⟨rfl, o, rfl, by rw [Ex.lg_eq, if_neg (by omega), if_neg (by omega), if_neg (by omega), if_pos hk, hal]; exact (ho.done hg2 fun j hj => hq43.1 hc_t43 j (by omega))⟩
  · refine W.skip ?_
    refine W.then ?_
    refine W.region ?_
    refine W.q (Ev.move (.t rfl)) rfl ?_
    refine W.q (Ev.assign (.t rfl)) rfl ?_
    refine W.nil ?_
    refine W.blk_normal ?_
    refine W.then ?_
    refine W.reach (D := []) (fun j => o j || g2 j) ⟨rfl, rfl, rfl, trivial⟩ (.refl _) ⟨ho.step hg2, outs_lt _ _ _ (fun j _ h => by simp [h]) (fun h => by have := hq43.2 h; rw [this] at hc_t43; cases hc_t43)⟩

theorem c_reach5 (x : Ex) (h1 : Ex.ok1 x) (hz : x.sz ≤ 16777216) (w : List Int) (hw : w.length ≤ 1048576) (ih : ∀ d ∈ x.parts, ∀ f : Nat → Bool, FnC Tryz.prog 40 [Ex.avx d, .sl 1 (w.map AV.int), .sl 1 (rowB (w.length + 1) f)] [] (fun r M => M = [] ∧ ∃ g : Nat → Bool, r = .sl 1 (rowB (w.length + 1) g) ∧ Rch (Ex.lg d) w f g)) (f : Nat → Bool) (hk : x.kind = 5) : FnC Tryz.prog 40 [Ex.avx x, .sl 1 (w.map AV.int), .sl 1 (rowB (w.length + 1) f)] [] (fun r M => M = [] ∧ ∃ g : Nat → Bool, r = .sl 1 (rowB (w.length + 1) g) ∧ Rch (Ex.lg x) w f g) :=  by
  refine FnC.mk Tryz.func40 (by kernel_rfl) rfl Tryz.ntmps40 rfl (fun w0 F => ?_)
  have hpl : (x.parts.map Ex.av).length = x.parts.length := List.length_map ..
  have hwl : (w.map AV.int).length = w.length := List.length_map ..
  obtain ⟨k0, k1, k2, k3, k4, k5, k6, k7⟩ := Ex.ok1_facts h1
  have hse := Ex.sz_eq x
  have hsl := Ex.szs_len x.parts
  obtain ⟨q, hq⟩ : ∃ q, x.parts = [q] := List.length_eq_one_iff.1 (k6 (by omega))
  have hgq : (x.parts.map Ex.av)[0]? = some q.avx := by rw [hq, ← Ex.av_eq]; rfl
  have hqm : q ∈ x.parts := by rw [hq]; exact List.mem_cons_self
  have hal : Ex.alts x.parts = Ex.lg q := by rw [hq, Ex.alts_one]
  refine W.seq ?_
  refine W.region ?_
  refine W.box (.t rfl) rfl rfl ?_
  intro b3
  refine W.q (Ev.assign .k) rfl ?_
  refine W.nil ?_
  refine W.then ?_
  refine W.seq ?_
  refine W.region ?_
  refine W.q (Ev.move (.t rfl)) rfl ?_
  (refine W.q (Ev.lensl (.t rfl) Tryz.underlying26) rfl ?_)
  refine W.is (t := 16) (g := true) (av' := .int (((w.length + 1) : Nat) : Int)) rfl (congrArg AV.int (by rw [rowB_len])) ?_
  refine W.mk (.t rfl) (.t rfl) Tryz.underlying26 ty4 rfl rfl rfl rfl rfl (by omega) rfl ?_
  intro v17
  refine W.q (Ev.assign (.t rfl)) rfl ?_
  refine W.nil ?_
  refine W.then ?_
  refine W.seq ?_
  refine W.seq ?_
  refine W.region ?_
  (refine W.q (Ev.fab (.t rfl) fa43_0) rfl ?_)
  (refine W.q (Ev.ldb1 1 (.t rfl) rfl ag3 rfl) rfl ?_)
  refine W.nil ?_
  refine W.then ?_
  refine W.block ?_
  refine W.seq ?_
  refine W.region ?_
  refine W.q (Ev.eqi (.t rfl) .k) rfl ?_
  refine W.q (Ev.assign (.t rfl)) rfl ?_
  refine W.nil ?_
  refine W.then ?_
  refine W.is (t := 46) (g := true) (av' := .lit (.bool false)) rfl (congrArg (fun b => AV.lit (.bool b)) (by rw [hk]; rfl)) ?_
  refine W.condF (.t rfl) ?_
  refine W.seq ?_
  refine W.region ?_
  refine W.q (Ev.eqi (.t rfl) .k) rfl ?_
  refine W.q (Ev.assign (.t rfl)) rfl ?_
  refine W.nil ?_
  refine W.then ?_
  refine W.is (t := 70) (g := true) (av' := .lit (.bool false)) rfl (congrArg (fun b => AV.lit (.bool b)) (by rw [hk]; rfl)) ?_
  refine W.condF (.t rfl) ?_
  refine W.seq ?_
  refine W.region ?_
  refine W.q (Ev.eqi (.t rfl) .k) rfl ?_
  refine W.q (Ev.assign (.t rfl)) rfl ?_
  refine W.nil ?_
  refine W.then ?_
  refine W.is (t := 86) (g := true) (av' := .lit (.bool false)) rfl (congrArg (fun b => AV.lit (.bool b)) (by rw [hk]; rfl)) ?_
  refine W.condF (.t rfl) ?_
  refine W.seq ?_
  refine W.region ?_
  refine W.q (Ev.eqi (.t rfl) .k) rfl ?_
  refine W.q (Ev.assign (.t rfl)) rfl ?_
  refine W.nil ?_
  refine W.then ?_
  refine W.is (t := 102) (g := true) (av' := .lit (.bool false)) rfl (congrArg (fun b => AV.lit (.bool b)) (by rw [hk]; rfl)) ?_
  refine W.condF (.t rfl) ?_
  refine W.seq ?_
  refine W.region ?_
  refine W.q (Ev.move (.t rfl)) rfl ?_
  refine W.call (WMatch1.c_CloneB (rowB (w.length + 1) f) (okc_rowB _ _) (by rw [rowB_len]; omega)) ⟨(.t rfl), trivial⟩ (.refl _) rfl ?_
  rintro _ _ ⟨v21, rfl, rfl⟩
  refine W.q (Ev.assign (.t rfl)) rfl ?_
  refine W.nil ?_
  refine W.freezeA (M1 := [_, _]) (M2 := [_, _]) (D := []) (v := v21) (L' := [(7, true, .sl 1 (rowB (w.length + 1) f))]) (.refl _) ⟨⟨_, rfl, .one .hit⟩, trivial⟩ (FrzMs.refl _) ?_
  refine W.weaken (L' := [(7, true, .sl 1 (rowB (w.length + 1) f)), (1, true, .sl 1 (w.map AV.int)), (2, true, .sl 1 (rowB (w.length + 1) f)), (3, true, .lit (.pointer (some ⟨b3, 0, none⟩)))]) (M' := [.box b3 43 x.avx.cells]) (D := [_]) ⟨rfl, rfl, rfl, rfl, trivial⟩ (List.Perm.swap _ _ []) ?_
  refine W.then ?_
  refine W.seq ?_
  refine W.seq ?_
  refine W.region ?_
  (refine W.q (Ev.fab (.t rfl) fa43_0) rfl ?_)
  (refine W.q (Ev.ldb1 0 (.t rfl) rfl ag3 rfl) rfl ?_)
  refine W.q (Ev.eqi (.t rfl) .k) rfl ?_
  refine W.nil ?_
  refine W.then ?_
  refine W.is (t := 24) (g := true) (av' := .lit (.bool true)) rfl (congrArg (fun b => AV.lit (.bool b)) (by rw [hk]; rfl)) ?_
  refine W.condT (.t rfl) ?_
  refine W.region ?_
  (refine W.q (Ev.fab (.t rfl) fa43_2) rfl ?_)
  (refine W.q (Ev.ldb1 0 (.t rfl) rfl ag41 rfl) rfl ?_)
  refine W.q (Ev.at (E := 43) (.t rfl) .k Tryz.underlying41 ty43 (fun _ => ⟨by decide, hgq⟩) rfl rfl) rfl ?_
  (refine W.q (Ev.lden (.t rfl) ag43 ty43 rfl rfl) rfl ?_)
  refine W.q (Ev.move (.t rfl)) rfl ?_
  refine W.q (Ev.move (.t rfl)) rfl ?_
  refine W.call (ih q hqm f) ⟨(.t rfl), (.t rfl), (.t rfl), trivial⟩ (.refl _) rfl ?_
  rintro _ _ ⟨rfl, g0, rfl, hg0⟩
  refine W.q (Ev.assign (.t rfl)) rfl ?_
  refine W.nil ?_
  refine W.then ?_
  refine W.block ?_
  refine W.loop (D := []) (ι := Nat → Bool) (fun o => [(7, true, .sl 1 (rowB (w.length + 1) o)), (1, true, .sl 1 (w.map AV.int)), (3, true, .lit (.pointer (some ⟨b3, 0, none⟩)))]) (fun o => [.box b3 43 x.avx.cells]) (fun o => WayR (Ex.lg q) w g0 o) (fun o => outs (w.length + 1) o) g0 ⟨rfl, rfl, rfl, trivial⟩ (.refl _) WayR.start ?_
  intro o ho
  dsimp only at ho ⊢
  refine W.block ?_
  refine W.seq ?_
  refine W.region ?_
  refine W.q (Ev.move (.t rfl)) rfl ?_
  (refine W.q (Ev.fab (.t rfl) fa43_2) rfl ?_)
  (refine W.q (Ev.ldb1 0 (.t rfl) rfl ag41 rfl) rfl ?_)
  refine W.q (Ev.at (E := 43) (.t rfl) .k Tryz.underlying41 ty43 (fun _ => ⟨by decide, hgq⟩) rfl rfl) rfl ?_
  (refine W.q (Ev.lden (.t rfl) ag43 ty43 rfl rfl) rfl ?_)
  refine W.q (Ev.move (.t rfl)) rfl ?_
  refine W.q (Ev.move (.t rfl)) rfl ?_
  refine W.call (ih q hqm o) ⟨(.t rfl), (.t rfl), (.t rfl), trivial⟩ (.refl _) rfl ?_
  rintro _ _ ⟨rfl, g2, rfl, hg2⟩
  refine W.callp (WMatch1.c_either (w.length + 1) o g2 (by omega)) ⟨(.t rfl), (.t rfl), trivial⟩ rfl ?_
  refine W.q (Ev.assign (.t rfl)) rfl ?_
  refine W.nil ?_
  refine W.then ?_
  refine W.seq ?_
  refine W.seq ?_
  refine W.region ?_
  refine W.q (Ev.move (.t rfl)) rfl ?_
  refine W.q (Ev.move (.t rfl)) rfl ?_
  refine W.call (WMatch1.c_EqualB (w.length + 1) (fun j => o j || g2 j) o (by omega)) ⟨(.t rfl), (.t rfl), trivial⟩ (.refl _) rfl ?_
  rintro _ _ ⟨rfl, q43, rfl, hq43⟩
  refine W.nil ?_
  refine W.then ?_
  refine W.cond (.t rfl) (fun hc_t43 => ?_) (fun hc_t43 => ?_)
  · refine W.seq ?_
    refine W.region ?_
    refine W.q (Ev.move (.t rfl)) rfl ?_
    refine W.q (Ev.assign (.t rfl)) rfl ?_
    refine W.nil ?_
    refine W.then ?_
    refine W.ret ?_
    refine W.then_ret ?_
    refine W.blk_ret ?_
    refine W.then_ret ?_
    refine W.blk_ret ?_
    refine W.blk_ret ?_
    refine W.then_ret ?_
    refine W.retn (M' := []) (D := _) (rs := [.tmp 6]) (avs := [_]) Tryz.results40 ⟨rfl, trivial⟩ rfl (.refl _) ?_
    exact ⟨rfl, o, rfl, by rw [Ex.lg_eq, if_neg (by omega), if_neg (by omega), if_neg (by omega), if_neg (by omega), if_pos hk, hal]; exact hg0.cat (ho.done hg2 fun j hj => hq43.1 hc_t43 j (by omega))⟩
  · refine W.skip ?_
    refine W.then ?_
    refine W.region ?_
    refine W.q (Ev.move (.t rfl)) rfl ?_
    refine W.q (Ev.assign (.t rfl)) rfl ?_
    refine W.nil ?_
    refine W.blk_normal ?_
    refine W.then ?_
    refine W.reach (D := []) (fun j => o j || g2 j) ⟨rfl, rfl, rfl, trivial⟩ (.refl _) ⟨ho.step hg2, outs_lt _ _ _ (fun j _ h => by simp [h]) (fun h => by have := hq43.2 h; rw [this] at hc_t43; cases hc_t43)⟩

theorem c_reach (w : List Int) (hw : w.length ≤ 1048576) : ∀ x : Ex, Ex.ok x → x.sz ≤ 16777216 → ∀ f : Nat → Bool, FnC Tryz.prog 40 [Ex.avx x, .sl 1 (w.map AV.int), .sl 1 (rowB (w.length + 1) f)] [] (fun r M => M = [] ∧ ∃ g : Nat → Bool, r = .sl 1 (rowB (w.length + 1) g) ∧ Rch (Ex.lg x) w f g) := by
  refine Ex.rec' fun x ih hx hz f => ?_
  obtain ⟨h1, h2⟩ := (Ex.ok_iff x).1 hx
  have ih' : ∀ d ∈ x.parts, ∀ f : Nat → Bool, FnC Tryz.prog 40 [Ex.avx d, .sl 1 (w.map AV.int), .sl 1 (rowB (w.length + 1) f)] [] (fun r M => M = [] ∧ ∃ g : Nat → Bool, r = .sl 1 (rowB (w.length + 1) g) ∧ Rch (Ex.lg d) w f g) := fun d hd f => ih d hd (h2 d hd) (by have := Ex.part_sz hd; omega) f
  obtain ⟨hk1, hk6⟩ := Ex.ok_kind hx
  rcases (show x.kind = 1 ∨ x.kind = 2 ∨ x.kind = 3 ∨ x.kind = 4 ∨ x.kind = 5 ∨ x.kind = 6 from by omega) with h | h | h | h | h | h
  · exact c_reach1 x h1 hz w hw ih' f h
  · exact c_reach2 x h1 hz w hw ih' f h
  · exact c_reach3 x h1 hz w hw ih' f h
  · exact c_reach4 x h1 hz w hw ih' f h
  · exact c_reach5 x h1 hz w hw ih' f h
  · exact c_reach6 x h1 hz w hw ih' f h

end WReach

end Go.Proofs.YtacaemfkdieocaaGreatDoor
end
