/-
  What is read of an expression's text, letter by letter. Without a program.
-/
import Derived.Test.YthhkionhimbekaaExprR
import Derived.Test.YthhkionhimbekaaCallG
import Derived.Lib.Join
set_option linter.unusedVariables false
set_option linter.unusedSimpArgs false
namespace Go.Vl
namespace It
/-- what may stand behind alternatives; a sequence; an item -/
def endA (r : List UInt8) : Prop := r = [] ∨ ∃ t, r = 41 :: t
def endS (r : List UInt8) : Prop := r = [] ∨ ∃ t, r = 41 :: t ∨ r = 124 :: t
def endI (r : List UInt8) : Prop := ∀ c t, r = c :: t → c ≠ 42 ∧ c ≠ 43 ∧ c ≠ 63
theorem ch_nat (n : Nat) (h : n < 8) : (97 + UInt8.ofNat n).toNat = 97 + n := by
  rcases (show n = 0 ∨ n = 1 ∨ n = 2 ∨ n = 3 ∨ n = 4 ∨ n = 5 ∨ n = 6 ∨ n = 7 from by omega) with rfl | rfl | rfl | rfl | rfl | rfl | rfl | rfl <;> rfl
theorem tx_head (i : It) (h : ok i) : ∃ c t, tx i = c :: t ∧ ((97 ≤ c.toNat ∧ c.toNat ≤ 104) ∨ c = 40) := by
  cases i with
  | ch n sf =>
    simp only [ok] at h
    refine ⟨_, _, by rw [tx], .inl ?_⟩
    rw [ch_nat n h.1]; omega
  | gr s a sf => exact ⟨_, _, by rw [tx], .inr rfl⟩
theorem endA.s {r : List UInt8} (h : endA r) : endS r := by
  rcases h with h | ⟨t, h⟩
  · exact .inl h
  · exact .inr ⟨t, .inl h⟩
theorem endS.i {r : List UInt8} (h : endS r) : endI r := by
  rintro c t rfl
  rcases h with h | ⟨t', h | h⟩
  · cases h
  · obtain ⟨rfl, rfl⟩ := List.cons.inj h; decide
  · obtain ⟨rfl, rfl⟩ := List.cons.inj h; decide
theorem endS_atl (a : List (List It)) {r : List UInt8} (h : endA r) : endS (atl a ++ r) := by
  cases a with
  | nil => exact h.s
  | cons s a => exact .inr ⟨_, .inr rfl⟩
theorem endA_close (r : List UInt8) : endA (41 :: r) := .inr ⟨r, rfl⟩
theorem endI_stx (s : List It) (hs : oks s) {r : List UInt8} (h : endS r) : endI (stx s ++ r) := by
  cases s with
  | nil => exact h.i
  | cons i s =>
    obtain ⟨c, t, e, hc⟩ := tx_head i hs.1
    intro c' t' e'
    rw [stx, e] at e'
    obtain ⟨rfl, rfl⟩ := List.cons.inj e'
    rcases hc with hc | rfl
    · refine ⟨?_, ?_, ?_⟩ <;> (rintro rfl; simp at hc)
    · decide
theorem sg_idx (k : Nat) (h : k < 3) : idxI (fun b => b == sg k) [42, 43, 63] = (k : Int) := by
  rcases (show k = 0 ∨ k = 1 ∨ k = 2 from by omega) with rfl | rfl | rfl <;> rfl
theorem idx_no (c : UInt8) (h : c ≠ 42 ∧ c ≠ 43 ∧ c ≠ 63) : idxI (fun b => b == c) [42, 43, 63] = -1 := by
  refine idxI_miss _ _ fun d hd => ?_
  simp only [List.mem_cons, List.not_mem_nil, or_false] at hd
  rcases hd with rfl | rfl | rfl
  · exact beq_eq_false_iff_ne.2 (Ne.symm h.1)
  · exact beq_eq_false_iff_ne.2 (Ne.symm h.2.1)
  · exact beq_eq_false_iff_ne.2 (Ne.symm h.2.2)
theorem drop_cons (s : List It) (k : Nat) (h : k < s.length) : stx (s.drop k) = tx (s.getD k (ch 0 [])) ++ stx (s.drop (k + 1)) := by
  rw [drop_getDG (ch 0 []) s k h, stx]
theorem sfdrop (sf : List Nat) (k : Nat) (h : k < sf.length) (r : List UInt8) : (sf.drop k).map sg ++ r = sg (sf.getD k 0) :: ((sf.drop (k + 1)).map sg ++ r) := by
  rw [drop_getDG 0 sf k h]; rfl
theorem tail1 (c : UInt8) (r : List UInt8) : List.drop (Int.toNat 1) (List.take (((c :: r).length : Nat) : Int).toNat (c :: r)) = r := by simp
theorem u8ne {c : UInt8} {n : Nat} (hn : n < 256) (h : c ≠ UInt8.ofNat n) : ((c.toNat : Nat) : Int) ≠ (n : Int) := by
  intro h'; apply h; apply UInt8.toNat_inj.1; simp [Nat.mod_eq_of_lt hn]; omega
/-- the pieces of an alternative's text -/
theorem atl_drop (a : List (List It)) (k : Nat) (h : k < a.length) : atl (a.drop k) = 124 :: (stx (a.getD k []) ++ atl (a.drop (k + 1))) := by
  rw [drop_getDG [] a k h, atl]
end It
theorem Ex.joinW_lib (sep : List UInt8) : ∀ l : List (List UInt8), Ex.joinW sep l = Lib.join l sep
  | [] => rfl
  | [s] => by simp [Ex.joinW, Lib.join, List.intercalate]
  | s :: t :: l => by
    rw [Ex.joinW, Ex.joinW_lib sep (t :: l)]
    simp [Lib.join, List.intercalate]
theorem Ex.letter8 (t : Int) (h0 : 0 ≤ t) (h8 : t < 8) : List.drop t.toNat (List.take (t + 1).toNat [97, 98, 99, 100, 101, 102, 103, 104]) = [97 + UInt8.ofNat t.toNat] := by
  obtain ⟨n, rfl⟩ : ∃ n : Nat, t = (n : Int) := ⟨t.toNat, by omega⟩
  rw [show ((n : Int) + 1).toNat = n + 1 from by omega, Int.toNat_natCast]
  rcases (show n = 0 ∨ n = 1 ∨ n = 2 ∨ n = 3 ∨ n = 4 ∨ n = 5 ∨ n = 6 ∨ n = 7 from by omega) with rfl | rfl | rfl | rfl | rfl | rfl | rfl | rfl <;> rfl
theorem Ex.join0_le (x : Ex) : (Ex.joinW [] (x.parts.map (Ex.ptx1 x.kind))).length = Ex.sumL (x.parts.map (Ex.ptx1 x.kind)) := by
  rw [Ex.joinW_nil, List.length_flatten]; rfl
theorem Ex.join1_le (x : Ex) : (Ex.joinW [124] (x.parts.map (Ex.ptx1 x.kind))).length ≤ Ex.sumL (x.parts.map (Ex.ptx1 x.kind)) + x.parts.length := by
  have := Ex.joinW_len [124] (x.parts.map (Ex.ptx1 x.kind))
  simp only [List.length_singleton, List.length_map, Nat.mul_one] at this
  split at this <;> omega
/-- how long the parts' texts are -/
def Ex.wz (x : Ex) : Nat := Ex.sumL (x.parts.map (Ex.ptx1 x.kind)) + x.parts.length + 2
theorem Ex.ptx_len (x : Ex) : ∀ d ∈ x.parts, (Ex.txt d).length ≤ Ex.wz x := by
  intro d hd
  have h1 : (Ex.txt d).length ≤ (Ex.ptx1 x.kind d).length := by unfold Ex.ptx1; split <;> simp; omega
  have h2 : ∀ l : List Ex, d ∈ l → (Ex.ptx1 x.kind d).length ≤ Ex.sumL (l.map (Ex.ptx1 x.kind)) := by
    intro l
    induction l with
    | nil => intro h; cases h
    | cons e l ih =>
      intro h
      rw [List.map_cons, Ex.sumL_cons]
      rcases List.mem_cons.1 h with rfl | h
      · omega
      · have := ih h; omega
  have := h2 _ hd
  unfold Ex.wz; omega
theorem Ex.sign3 (k : Int) (j : Nat) (h : k - 4 = (j : Int)) (hj : j < 3) : List.drop ((j : Nat) : Int).toNat (List.take (((j : Nat) : Int) + 1).toNat [42, 43, 63]) = [Ex.sgn k] := by
  rw [show (((j : Nat) : Int) + 1).toNat = j + 1 from by omega, Int.toNat_natCast]
  obtain rfl : k = 4 + (j : Int) := by omega
  rcases (show j = 0 ∨ j = 1 ∨ j = 2 from by omega) with rfl | rfl | rfl <;> rfl
theorem Ex.part_txt (x : Ex) (h1 : Ex.ok1 x) : ∀ d ∈ x.parts, (Ex.txt d).length ≤ (Ex.txt x).length := by
  intro d hd
  have hp : (Ex.txt d).length ≤ (Ex.ptx1 x.kind d).length := by unfold Ex.ptx1; split <;> simp; omega
  have hm : ∀ (sep : List UInt8) (l : List Ex), d ∈ l → (Ex.ptx1 x.kind d).length ≤ (Ex.joinW sep (l.map (Ex.ptx1 x.kind))).length := by
    intro sep l
    induction l with
    | nil => intro h; cases h
    | cons e l ih =>
      intro h
      rw [List.map_cons, Ex.joinW_cons, List.length_append]
      rcases List.mem_cons.1 h with rfl | h
      · omega
      · have := ih h
        cases l with
        | nil => cases h
        | cons f l =>
          rw [List.map_cons, Ex.joinW_cons, List.length_append] at this
          rw [List.map_cons, List.flatMap_cons, List.length_append, List.length_append]; omega
  rw [Ex.txt_eq x]
  split
  · rename_i e
    rcases h1 with h1 | h1 | h1 | h1
    · rw [h1.2.1] at hd; cases hd
    · omega
    · omega
    · omega
  · split
    · have := hm [] _ hd; omega
    · split
      · have := hm [124] _ hd; omega
      · have := hm [] _ hd; rw [List.length_append]; omega
theorem Ex.wz_le (x : Ex) (h1 : Ex.ok1 x) : Ex.wz x ≤ (Ex.txt x).length + x.parts.length + 2 := by
  have h0 := Ex.join0_le x
  have h3 := Ex.joinW_len [124] (x.parts.map (Ex.ptx1 x.kind))
  unfold Ex.wz
  rw [Ex.txt_eq x]
  simp only [List.length_singleton, List.length_map, Nat.mul_one] at h3
  split
  · rename_i e
    have : x.parts = [] := by
      rcases h1 with h1 | h1 | h1 | h1
      · exact h1.2.1
      · omega
      · omega
      · omega
    rw [this]; simp [Ex.sumL]
  · split
    · omega
    · split
      · rename_i e
        have hn : x.parts.map (Ex.ptx1 x.kind) ≠ [] := by
          intro h'
          have : x.parts = [] := by simpa using h'
          rcases h1 with h1 | h1 | h1 | h1
          · omega
          · omega
          · rw [this] at h1; simp at h1
          · omega
        rw [if_neg hn] at h3
        have : x.parts.length ≠ 0 := fun h => hn (by rw [List.eq_nil_of_length_eq_zero h]; rfl)
        omega
      · rw [List.length_append]; omega
theorem Ex.ok1_facts {x : Ex} (h : Ex.ok1 x) : (1 ≤ x.kind ∧ x.kind ≤ 6) ∧ (0 ≤ x.type ∧ x.type < 8) ∧ (x.kind = 1 → x.parts.length = 0) ∧ (x.kind ≠ 1 → x.type = 0) ∧ ((x.kind = 2 ∨ x.kind = 3) → x.parts.length ≠ 1) ∧ (x.kind = 3 → x.parts.length ≠ 0) ∧
    (4 ≤ x.kind → x.parts.length = 1) ∧ ((x.kind == 2 || x.kind == 3) = true → (x.parts.any fun d => d.kind == x.kind) = false) := by
  have hany : ∀ k : Int, (∀ q ∈ x.parts, q.kind ≠ k) → (x.parts.any fun d => d.kind == k) = false := fun k hk => by
    rw [List.any_eq_false]; intro q hq; simpa using hk q hq
  rcases h with ⟨h1, h2, h3, h4⟩ | ⟨h1, h2, h3, h4⟩ | ⟨h1, h2, h3, h4⟩ | ⟨h1, h2, h3, h4⟩
  · have hl : x.parts.length = 0 := by rw [h2]; rfl
    refine ⟨by omega, by omega, by omega, by omega, by omega, by omega, by omega, fun h => ?_⟩
    rw [h1] at h; simp at h
  · refine ⟨by omega, by omega, by omega, by omega, by omega, by omega, by omega, fun _ => ?_⟩
    rw [h1]; exact hany 2 h4
  · refine ⟨by omega, by omega, by omega, by omega, by omega, by omega, by omega, fun _ => ?_⟩
    rw [h1]; exact hany 3 h4
  · refine ⟨by omega, by omega, by omega, by omega, by omega, by omega, by omega, fun h => ?_⟩
    have : x.kind = 2 ∨ x.kind = 3 := by simpa using h
    omega
theorem Ex.tog_sz (k : Int) (l : List Ex) : (tog k l).sz ≤ 1 + szs l := by
  rcases tog_cases k l with ⟨x, rfl, e⟩ | ⟨h1, y, h2, e⟩ | ⟨h1, h2, e⟩
  · rw [e]; simp [szs]
  · have := flat_szs k l
    rw [h2] at this
    rw [e]; simp only [szs] at this; omega
  · rw [e, sz]
    have := flat_szs k l; omega
theorem Ex.sfe_sz : ∀ (sf : List Nat) (x : Ex), (sfe x sf).sz = x.sz + sf.length
  | [], x => rfl
  | k :: sf, x => by
    show (sfe (.mk (4 + (k : Int)) 0 [x]) sf).sz = _
    rw [Ex.sfe_sz sf, sz]; simp only [szs, List.length_cons]; omega
namespace It
theorem sev_big' (s : List It) (h : ∀ i ∈ s, Ex.sz i.ev ≤ 2 * (tx i).length) : Ex.szs (sev s) ≤ 2 * (stx s).length := by
  induction s with
  | nil => exact Nat.le_refl _
  | cons i s ih =>
    have h1 := h i List.mem_cons_self
    have h2 := ih fun j hj => h j (List.mem_cons_of_mem _ hj)
    rw [sev, Ex.szs, stx, List.length_append]; omega
theorem aev_big' (a : List (List It)) (h : ∀ t ∈ a, Ex.szs (sev t) ≤ 2 * (stx t).length) : Ex.szs (aev a) ≤ 2 * (atl a).length := by
  induction a with
  | nil => exact Nat.le_refl _
  | cons t a ih =>
    have h1 := h t List.mem_cons_self
    have h2 := ih fun j hj => h j (List.mem_cons_of_mem _ hj)
    have h3 := Ex.tog_sz 2 (sev t)
    rw [aev, Ex.szs, atl, List.length_cons, List.length_append]; omega
theorem ev_big : ∀ i : It, Ex.sz i.ev ≤ 2 * (tx i).length := by
  refine rec' ?_ ?_
  · intro n sf
    rw [ev, Ex.sfe_sz, tx, List.length_cons, List.length_map, Ex.sz]; simp only [Ex.szs]; omega
  · intro s a sf h1 h2
    have h3 := sev_big' s h1
    have h4 := aev_big' a fun t ht => sev_big' t (h2 t ht)
    have h5 := Ex.tog_sz 2 (sev s)
    have h6 := Ex.tog_sz 3 (Ex.tog 2 (sev s) :: aev a)
    rw [ev, Ex.sfe_sz, tx]
    simp only [List.length_cons, List.length_append, List.length_map, Ex.szs] at *
    omega
theorem sev_big (s : List It) : Ex.szs (sev s) ≤ 2 * (stx s).length := sev_big' s fun i _ => ev_big i
theorem al_big (s : List It) (a : List (List It)) : Ex.szs (sq s :: aev a) ≤ 1 + 2 * (stx s ++ atl a).length := by
  have h1 := sev_big s
  have h2 := aev_big' a fun t _ => sev_big t
  have h3 : (sq s).sz ≤ 1 + Ex.szs (sev s) := Ex.tog_sz 2 (sev s)
  rw [Ex.szs, List.length_append]; omega
theorem al_sz (s : List It) (a : List (List It)) : (al s a).sz ≤ 2 + 2 * (stx s ++ atl a).length := by
  have h1 := Ex.tog_sz 3 (sq s :: aev a)
  have h2 := al_big s a
  show (Ex.tog 3 (sq s :: aev a)).sz ≤ _
  omega
theorem stx_mem {s : List It} {i : It} (h : i ∈ s) : (tx i).length ≤ (stx s).length := by
  induction s with
  | nil => cases h
  | cons e l ih =>
    rw [stx, List.length_append]
    rcases List.mem_cons.1 h with rfl | h
    · omega
    · have := ih h; omega
theorem atl_mem {a : List (List It)} {t : List It} (h : t ∈ a) : (stx t).length ≤ (atl a).length := by
  induction a with
  | nil => cases h
  | cons e l ih =>
    rw [atl, List.length_cons, List.length_append]
    rcases List.mem_cons.1 h with rfl | h
    · omega
    · have := ih h; omega
theorem al_mem {s : List It} {a : List (List It)} {t : List It} (h : t = s ∨ t ∈ a) : (stx t).length ≤ (stx s ++ atl a).length := by
  rw [List.length_append]
  rcases h with rfl | h
  · omega
  · have := atl_mem h; omega
end It
end Go.Vl
