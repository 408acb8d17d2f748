/-
  Letters of bytes: plain facts on the model's own decoding, over lists of bytes.
-/
import Derived.Test.YtpjngpegkoohgaaIter
set_option linter.unusedVariables false
set_option linter.unusedSimpArgs false
namespace Go.Vl

theorem dec_eq (l : List UInt8) : dec l =
    (if (l.getD 0 0).toNat < 128 then ((l.getD 0 0).toNat, 1)
    else if (l.getD 0 0).toNat / 32 == 6 && (decide (1 < l.length) && (l.getD 1 0).toNat / 64 == 2) then
      if ((l.getD 0 0).toNat % 32) * 64 + (l.getD 1 0).toNat % 64 ≥ 128 then (((l.getD 0 0).toNat % 32) * 64 + (l.getD 1 0).toNat % 64, 2) else (Utf8.runeError, 1)
    else if (l.getD 0 0).toNat / 16 == 14 && (decide (1 < l.length) && (l.getD 1 0).toNat / 64 == 2) && (decide (2 < l.length) && (l.getD 2 0).toNat / 64 == 2) then
      if ((l.getD 0 0).toNat % 16) * 4096 + ((l.getD 1 0).toNat % 64) * 64 + (l.getD 2 0).toNat % 64 ≥ 2048 && Utf8.valid ((((l.getD 0 0).toNat % 16) * 4096 + ((l.getD 1 0).toNat % 64) * 64 + (l.getD 2 0).toNat % 64 : Nat) : Int) then (((l.getD 0 0).toNat % 16) * 4096 + ((l.getD 1 0).toNat % 64) * 64 + (l.getD 2 0).toNat % 64, 3) else (Utf8.runeError, 1)
    else if (l.getD 0 0).toNat / 8 == 30 && (decide (1 < l.length) && (l.getD 1 0).toNat / 64 == 2) && (decide (2 < l.length) && (l.getD 2 0).toNat / 64 == 2) && (decide (3 < l.length) && (l.getD 3 0).toNat / 64 == 2) then
      if ((l.getD 0 0).toNat % 8) * 262144 + ((l.getD 1 0).toNat % 64) * 4096 + ((l.getD 2 0).toNat % 64) * 64 + (l.getD 3 0).toNat % 64 ≥ 65536 && Utf8.valid ((((l.getD 0 0).toNat % 8) * 262144 + ((l.getD 1 0).toNat % 64) * 4096 + ((l.getD 2 0).toNat % 64) * 64 + (l.getD 3 0).toNat % 64 : Nat) : Int) then (((l.getD 0 0).toNat % 8) * 262144 + ((l.getD 1 0).toNat % 64) * 4096 + ((l.getD 2 0).toNat % 64) * 64 + (l.getD 3 0).toNat % 64, 4) else (Utf8.runeError, 1)
    else (Utf8.runeError, 1)) := by
  unfold dec Utf8.decode
  simp only [get!_mk, size_mk, Nat.zero_add]

/-- a letter's width, and that it is one -/
theorem dec_width (l : List UInt8) (h : l ≠ []) : 1 ≤ (dec l).2 ∧ (dec l).2 ≤ l.length ∧ (dec l).2 ≤ 4 := by
  have hl : 0 < l.length := List.length_pos_iff.2 h
  rw [dec_eq]
  generalize (l.getD 0 0).toNat = b0
  generalize (l.getD 1 0).toNat = b1
  generalize (l.getD 2 0).toNat = b2
  generalize (l.getD 3 0).toNat = b3
  repeat' split
  all_goals simp_all
  all_goals omega

theorem dec_le (l : List UInt8) : (dec l).1 ≤ 1114111 := by
  rw [dec_eq]
  generalize (l.getD 0 0).toNat = b0
  generalize (l.getD 1 0).toNat = b1
  generalize (l.getD 2 0).toNat = b2
  generalize (l.getD 3 0).toNat = b3
  repeat' split
  all_goals simp_all [Utf8.runeError, Utf8.valid]
  all_goals omega

def runesN : Nat → List UInt8 → List Nat
  | 0, _ => []
  | _ + 1, [] => []
  | n + 1, b :: l => (dec (b :: l)).1 :: runesN n ((b :: l).drop (dec (b :: l)).2)
/-- the letters of a text -/
def runes (l : List UInt8) : List Nat := runesN l.length l

theorem runesN_eq : ∀ (n m : Nat) (l : List UInt8), l.length ≤ n → l.length ≤ m → runesN n l = runesN m l
  | 0, m, l, h, _ => by
    have : l = [] := List.eq_nil_of_length_eq_zero (by omega)
    subst this
    cases m <;> rfl
  | n + 1, 0, l, _, h => by
    have : l = [] := List.eq_nil_of_length_eq_zero (by omega)
    subst this
    rfl
  | n + 1, m + 1, [], _, _ => rfl
  | n + 1, m + 1, b :: l, h1, h2 => by
    have hw := dec_width (b :: l) (by simp)
    simp only [runesN]
    rw [runesN_eq n m _ (by rw [List.length_drop]; omega) (by rw [List.length_drop]; omega)]
theorem runes_nil : runes [] = [] := rfl
theorem runes_cons (l : List UInt8) (h : l ≠ []) : runes l = (dec l).1 :: runes (l.drop (dec l).2) := by
  cases l with
  | nil => exact absurd rfl h
  | cons b l =>
    have hw := dec_width (b :: l) h
    simp only [runes, List.length_cons, runesN]
    rw [runesN_eq l.length _ _ (by rw [List.length_drop, List.length_cons]; omega) (Nat.le_refl _)]
theorem runes_drop (l : List UInt8) (p : Nat) (h : p < l.length) : runes (l.drop p) = (dec (l.drop p)).1 :: runes (l.drop (p + (dec (l.drop p)).2)) := by
  rw [runes_cons (l.drop p) (by intro e; have := congrArg List.length e; simp at this; omega), List.drop_drop]

def rvs (l : List UInt8) : List AV := (runes l).map fun (n : Nat) => AV.int (n : Int)
theorem rvs_drop (l : List UInt8) (p : Nat) (h : p < l.length) : rvs (l.drop p) = AV.int ((dec (l.drop p)).1 : Int) :: rvs (l.drop (p + (dec (l.drop p)).2)) := by
  simp only [rvs, runes_drop l p h, List.map_cons]
theorem rvs_len (l : List UInt8) : (rvs l).length = (runes l).length := by simp [rvs]

/-! ### how many letters -/
def rc (l : List UInt8) : Nat := (runes l).length
theorem rc_nil : rc [] = 0 := rfl
theorem rc_cons (l : List UInt8) (h : l ≠ []) : rc l = 1 + rc (l.drop (dec l).2) := by
  unfold rc
  rw [runes_cons l h, List.length_cons]; omega

/-- the letter's value, and whether bytes are such a letter -/
def v2 (a b : UInt8) : Nat := (a.toNat % 32) * 64 + b.toNat % 64
def v3 (a b c : UInt8) : Nat := (a.toNat % 16) * 4096 + (b.toNat % 64) * 64 + c.toNat % 64
def v4 (a b c d : UInt8) : Nat := (a.toNat % 8) * 262144 + (b.toNat % 64) * 4096 + (c.toNat % 64) * 64 + d.toNat % 64
def ct (b : UInt8) : Bool := b.toNat / 64 == 2
def k2 (a b : UInt8) : Bool := a.toNat / 32 == 6 && ct b && decide (v2 a b ≥ 128)
def k3 (a b c : UInt8) : Bool := a.toNat / 16 == 14 && ct b && ct c && (decide (v3 a b c ≥ 2048) && Utf8.valid (v3 a b c : Int))
def k4 (a b c d : UInt8) : Bool := a.toNat / 8 == 30 && ct b && ct c && ct d && (decide (v4 a b c d ≥ 65536) && Utf8.valid (v4 a b c d : Int))
abbrev er : Nat × Nat := (Utf8.runeError, 1)

theorem k2_hi {a b : UInt8} (h : k2 a b = true) : ¬ a.toNat < 128 := by simp [k2] at h; omega
theorem k3_hi {a b c : UInt8} (h : k3 a b c = true) : ¬ a.toNat < 128 ∧ ∀ b', k2 a b' = false := by
  simp [k3] at h
  refine ⟨by omega, fun b' => ?_⟩
  simp [k2]; omega
theorem k4_hi {a b c d : UInt8} (h : k4 a b c d = true) : ¬ a.toNat < 128 ∧ (∀ b', k2 a b' = false) ∧ ∀ b' c', k3 a b' c' = false := by
  simp [k4] at h
  refine ⟨by omega, fun b' => ?_, fun b' c' => ?_⟩
  · simp [k2]; omega
  · simp [k3]; omega

theorem dec1 (a : UInt8) : dec [a] = if a.toNat < 128 then (a.toNat, 1) else er := by
  rw [dec_eq]; simp
theorem dec2 (a b : UInt8) : dec [a, b] = if a.toNat < 128 then (a.toNat, 1) else if k2 a b then (v2 a b, 2) else er := by
  rw [dec_eq]
  simp only [List.getD_cons_zero, List.getD_cons_succ, List.length_cons, List.length_nil, k2, v2, ct]
  split
  · rfl
  · by_cases h : a.toNat / 32 = 6 <;> by_cases h2 : b.toNat / 64 = 2 <;> simp_all
theorem dec3 (a b c : UInt8) : dec [a, b, c] = if a.toNat < 128 then (a.toNat, 1) else if k2 a b then (v2 a b, 2) else if k3 a b c then (v3 a b c, 3) else er := by
  rw [dec_eq]
  simp only [List.getD_cons_zero, List.getD_cons_succ, List.length_cons, List.length_nil, k2, v2, k3, v3, ct]
  have hx : a.toNat / 32 = 6 → ¬ a.toNat / 16 = 14 := by omega
  split
  · rfl
  · by_cases h : a.toNat / 32 = 6
    · have := hx h
      by_cases h2 : b.toNat / 64 = 2 <;> simp_all
    · simp_all
      by_cases h3 : a.toNat / 16 = 14 <;> by_cases h4 : b.toNat / 64 = 2 <;> by_cases h5 : c.toNat / 64 = 2 <;> simp_all
theorem dec4 (a b c d : UInt8) (r : List UInt8) : dec (a :: b :: c :: d :: r) = if a.toNat < 128 then (a.toNat, 1) else if k2 a b then (v2 a b, 2) else if k3 a b c then (v3 a b c, 3) else if k4 a b c d then (v4 a b c d, 4) else er := by
  rw [dec_eq]
  simp only [List.getD_cons_zero, List.getD_cons_succ, List.length_cons, List.length_nil, k2, v2, k3, v3, k4, v4, ct]
  have hx : a.toNat / 32 = 6 → ¬ a.toNat / 16 = 14 ∧ ¬ a.toNat / 8 = 30 := by omega
  have hy : a.toNat / 16 = 14 → ¬ a.toNat / 8 = 30 := by omega
  split
  · rfl
  · by_cases h : a.toNat / 32 = 6
    · have := hx h
      by_cases h2 : b.toNat / 64 = 2 <;> simp_all
    · by_cases h3 : a.toNat / 16 = 14
      · have := hy h3
        by_cases h4 : b.toNat / 64 = 2 <;> by_cases h5 : c.toNat / 64 = 2 <;> simp_all
      · by_cases h6 : a.toNat / 8 = 30 <;> by_cases h4 : b.toNat / 64 = 2 <;> by_cases h5 : c.toNat / 64 = 2 <;> by_cases h7 : d.toNat / 64 = 2 <;> simp_all

/-- a letter is one of these -/
theorem dec_cases (a : UInt8) (r : List UInt8) :
    (a.toNat < 128 ∧ dec (a :: r) = (a.toNat, 1)) ∨ (∃ b r', r = b :: r' ∧ k2 a b = true ∧ dec (a :: r) = (v2 a b, 2)) ∨ (∃ b c r', r = b :: c :: r' ∧ k3 a b c = true ∧ dec (a :: r) = (v3 a b c, 3)) ∨
    (∃ b c d r', r = b :: c :: d :: r' ∧ k4 a b c d = true ∧ dec (a :: r) = (v4 a b c d, 4)) ∨
    (¬ a.toNat < 128 ∧ (∀ b r', r = b :: r' → k2 a b = false) ∧ (∀ b c r', r = b :: c :: r' → k3 a b c = false) ∧ (∀ b c d r', r = b :: c :: d :: r' → k4 a b c d = false) ∧ dec (a :: r) = er) := by
  by_cases h1 : a.toNat < 128
  · left
    refine ⟨h1, ?_⟩
    match r with
    | [] => rw [dec1, if_pos h1]
    | [b] => rw [dec2, if_pos h1]
    | [b, c] => rw [dec3, if_pos h1]
    | b :: c :: d :: r' => rw [dec4, if_pos h1]
  right
  match r with
  | [] =>
    right; right; right
    exact ⟨h1, (fun _ _ h => by cases h), (fun _ _ _ h => by cases h), (fun _ _ _ _ h => by cases h), by rw [dec1, if_neg h1]⟩
  | b :: r =>
    cases h2 : k2 a b with
    | true =>
      left
      refine ⟨b, r, rfl, h2, ?_⟩
      match r with
      | [] => rw [dec2, if_neg h1, if_pos h2]
      | [c] => rw [dec3, if_neg h1, if_pos h2]
      | c :: d :: r' => rw [dec4, if_neg h1, if_pos h2]
    | false =>
      right
      match r with
      | [] =>
        right; right
        exact ⟨h1, (fun _ _ h => by cases h; exact h2), (fun _ _ _ h => by cases h), (fun _ _ _ _ h => by cases h), by rw [dec2, if_neg h1, h2, if_neg (by simp)]⟩
      | c :: r =>
        cases h3 : k3 a b c with
        | true =>
          left
          refine ⟨b, c, r, rfl, h3, ?_⟩
          match r with
          | [] => rw [dec3, if_neg h1, h2, if_neg (by simp), if_pos h3]
          | d :: r' => rw [dec4, if_neg h1, h2, if_neg (by simp), if_pos h3]
        | false =>
          right
          match r with
          | [] =>
            right
            exact ⟨h1, (fun _ _ h => by cases h; exact h2), (fun _ _ _ h => by cases h; exact h3), (fun _ _ _ _ h => by cases h), by rw [dec3, if_neg h1, h2, h3, if_neg (by simp), if_neg (by simp)]⟩
          | d :: r =>
            cases h4 : k4 a b c d with
            | true =>
              left
              exact ⟨b, c, d, r, rfl, h4, by rw [dec4, if_neg h1, h2, h3, if_neg (by simp), if_neg (by simp), if_pos h4]⟩
            | false =>
              right
              exact ⟨h1, (fun _ _ h => by cases h; exact h2), (fun _ _ _ h => by cases h; exact h3), (fun _ _ _ _ h => by cases h; exact h4), by rw [dec4, if_neg h1, h2, h3, h4, if_neg (by simp), if_neg (by simp), if_neg (by simp)]⟩
theorem dec_of1 {a : UInt8} {r : List UInt8} (h : a.toNat < 128) : dec (a :: r) = (a.toNat, 1) := by
  match r with
  | [] => rw [dec1, if_pos h]
  | [b] => rw [dec2, if_pos h]
  | [b, c] => rw [dec3, if_pos h]
  | b :: c :: d :: r' => rw [dec4, if_pos h]
theorem dec_of2 {a b : UInt8} {r : List UInt8} (h : k2 a b = true) : dec (a :: b :: r) = (v2 a b, 2) := by
  have hi := k2_hi h
  match r with
  | [] => rw [dec2, if_neg hi, if_pos h]
  | [c] => rw [dec3, if_neg hi, if_pos h]
  | c :: d :: r' => rw [dec4, if_neg hi, if_pos h]
theorem dec_of3 {a b c : UInt8} {r : List UInt8} (h : k3 a b c = true) : dec (a :: b :: c :: r) = (v3 a b c, 3) := by
  obtain ⟨h1, h2⟩ := k3_hi h
  match r with
  | [] => rw [dec3, if_neg h1, h2 b, if_neg (by simp), if_pos h]
  | d :: r' => rw [dec4, if_neg h1, h2 b, if_neg (by simp), if_pos h]
theorem dec_of4 {a b c d : UInt8} {r : List UInt8} (h : k4 a b c d = true) : dec (a :: b :: c :: d :: r) = (v4 a b c d, 4) := by
  obtain ⟨h1, h2, h3⟩ := k4_hi h
  rw [dec4, if_neg h1, h2 b, h3 b c, if_neg (by simp), if_neg (by simp), if_pos h]
theorem dec_er {a : UInt8} {r : List UInt8} (h1 : ¬ a.toNat < 128) (h2 : ∀ b r', r = b :: r' → k2 a b = false) (h3 : ∀ b c r', r = b :: c :: r' → k3 a b c = false) (h4 : ∀ b c d r', r = b :: c :: d :: r' → k4 a b c d = false) : dec (a :: r) = er := by
  rcases dec_cases a r with h | ⟨b, r', rfl, h, _⟩ | ⟨b, c, r', rfl, h, _⟩ | ⟨b, c, d, r', rfl, h, _⟩ | h
  · exact absurd h.1 h1
  · rw [h2 b r' rfl] at h; cases h
  · rw [h3 b c r' rfl] at h; cases h
  · rw [h4 b c d r' rfl] at h; cases h
  · exact h.2.2.2.2

/-- a byte that goes on is no letter by itself -/
theorem dec_ct {b : UInt8} {r : List UInt8} (h : ct b = true) : dec (b :: r) = er := by
  simp [ct] at h
  refine dec_er (by omega) (fun c r' _ => ?_) (fun c d r' _ => ?_) (fun c d e r' _ => ?_)
  · simp [k2]; omega
  · simp [k3]; omega
  · simp [k4]; omega

theorem rc_cts (l r : List UInt8) (h : ∀ b ∈ l, ct b = true) : rc (l ++ r) = l.length + rc r := by
  induction l with
  | nil => simp
  | cons b l ih =>
    have hb := h b (by simp)
    rw [List.cons_append, rc_cons _ (by simp), dec_ct hb]
    simp only [List.drop_succ_cons, List.drop_zero, List.length_cons]
    rw [ih (fun c hc => h c (by simp [hc]))]
    omega

/-- A CUT WITHIN A LETTER, OR NOT. -/
theorem dec_app (a : UInt8) (s t : List UInt8) : (dec (a :: s) = dec (a :: (s ++ t)) ∧ (dec (a :: s)).2 ≤ s.length + 1) ∨
    (s.length + 1 < (dec (a :: (s ++ t))).2 ∧ dec (a :: s) = er ∧ ∃ m r, t = m ++ r ∧ s.length + 1 + m.length = (dec (a :: (s ++ t))).2 ∧ (∀ b ∈ s, ct b = true) ∧ ∀ b ∈ m, ct b = true) := by
  have hw := dec_width (a :: s) (by simp)
  rw [List.length_cons] at hw
  by_cases hle : (dec (a :: (s ++ t))).2 ≤ s.length + 1
  · left
    refine ⟨?_, hw.2.1⟩
    rcases dec_cases a s with ⟨h, e⟩ | ⟨b, r', rfl, h, e⟩ | ⟨b, c, r', rfl, h, e⟩ | ⟨b, c, d, r', rfl, h, e⟩ | ⟨h1, h2, h3, h4, e⟩
    · rw [e, dec_of1 h]
    · rw [e, List.cons_append, dec_of2 h]
    · rw [e, List.cons_append, List.cons_append, dec_of3 h]
    · rw [e, List.cons_append, List.cons_append, List.cons_append, dec_of4 h]
    · rw [e]
      rcases dec_cases a (s ++ t) with ⟨h, e'⟩ | ⟨b, r', es, h, e'⟩ | ⟨b, c, r', es, h, e'⟩ | ⟨b, c, d, r', es, h, e'⟩ | h
      · exact absurd h h1
      · rw [e'] at hle
        match s, es with
        | [], _ => simp at hle
        | b' :: s', es => simp at es; rw [es.1] at h2; rw [h2 b s' rfl] at h; cases h
      · rw [e'] at hle
        match s, es with
        | [], _ => simp at hle
        | [b'], _ => simp at hle
        | b' :: c' :: s', es => simp at es; rw [es.1, es.2.1] at h3; rw [h3 b c s' rfl] at h; cases h
      · rw [e'] at hle
        match s, es with
        | [], _ => simp at hle
        | [b'], _ => simp at hle
        | [b', c'], _ => simp at hle
        | b' :: c' :: d' :: s', es => simp at es; rw [es.1, es.2.1, es.2.2.1] at h4; rw [h4 b c d s' rfl] at h; cases h
      · exact h.2.2.2.2.symm
  · right
    have hgt : s.length + 1 < (dec (a :: (s ++ t))).2 := by omega
    have hes : dec (a :: s) = er := by
      rcases dec_cases a s with ⟨h, e⟩ | ⟨b, r', rfl, h, e⟩ | ⟨b, c, r', rfl, h, e⟩ | ⟨b, c, d, r', rfl, h, e⟩ | h
      · rw [dec_of1 h] at hgt; simp at hgt
      · rw [List.cons_append, dec_of2 h] at hgt; simp at hgt; omega
      · rw [List.cons_append, List.cons_append, dec_of3 h] at hgt; simp at hgt; omega
      · rw [List.cons_append, List.cons_append, List.cons_append, dec_of4 h] at hgt; simp at hgt; omega
      · exact h.2.2.2.2
    refine ⟨hgt, hes, ?_⟩
    rcases dec_cases a (s ++ t) with ⟨h, e'⟩ | ⟨b, r', es, h, e'⟩ | ⟨b, c, r', es, h, e'⟩ | ⟨b, c, d, r', es, h, e'⟩ | h
    · rw [e'] at hgt; simp at hgt
    · rw [e'] at hgt ⊢
      have hb : ct b = true := by simp [k2] at h; exact h.1.2
      match s, es with
      | [], es => exact ⟨[b], r', by simpa using es, by simp, by simp, by simp [hb]⟩
      | _ :: s', _ => exfalso; simp at hgt; omega
    · rw [e'] at hgt ⊢
      have hb : ct b = true ∧ ct c = true := by simp [k3] at h; exact ⟨h.1.1.2, h.1.2⟩
      match s, es with
      | [], es => exact ⟨[b, c], r', by simpa using es, by simp, by simp, by simp [hb]⟩
      | [b'], es => simp at es; exact ⟨[c], r', by simpa using es.2, by simp, by simp [es.1, hb], by simp [hb]⟩
      | _ :: _ :: s', _ => exfalso; simp at hgt; omega
    · rw [e'] at hgt ⊢
      have hb : ct b = true ∧ ct c = true ∧ ct d = true := by simp [k4] at h; exact ⟨h.1.1.1.2, h.1.1.2, h.1.2⟩
      match s, es with
      | [], es => exact ⟨[b, c, d], r', by simpa using es, by simp, by simp, by simp [hb]⟩
      | [b'], es => simp at es; exact ⟨[c, d], r', by simpa using es.2, by simp, by simp [es.1, hb], by simp [hb]⟩
      | [b', c'], es => simp at es; exact ⟨[d], r', by simpa using es.2.2, by simp, by simp [es.1, es.2.1, hb], by simp [hb]⟩
      | _ :: _ :: _ :: s', _ => exfalso; simp at hgt; omega
    · rw [h.2.2.2.2] at hgt; simp at hgt

theorem rc_append : ∀ (n : Nat) (s t : List UInt8), s.length ≤ n → rc (s ++ t) ≤ rc s + rc t ∧ rc s + rc t ≤ rc (s ++ t) + 3
  | _, [], t, _ => by simp [rc_nil]
  | 0, a :: s, t, h => by simp at h
  | n + 1, a :: s, t, h => by
    have hw := dec_width (a :: s) (by simp)
    have hw4 := dec_width (a :: (s ++ t)) (by simp)
    rcases dec_app a s t with ⟨he, hle⟩ | ⟨hgt, he, m, r, rfl, hm, hcs, hcm⟩
    · rw [List.cons_append, rc_cons (a :: (s ++ t)) (by simp), rc_cons (a :: s) (by simp), ← he]
      have hd : (a :: (s ++ t)).drop (dec (a :: s)).2 = (a :: s).drop (dec (a :: s)).2 ++ t := by
        rw [← List.cons_append, List.drop_append_of_le_length (by rw [List.length_cons]; exact hle)]
      rw [hd]
      have ih := rc_append n ((a :: s).drop (dec (a :: s)).2) t (by rw [List.length_drop, List.length_cons]; simp at h; omega)
      omega
    · have h1 : rc (a :: s) = 1 + s.length := by
        rw [rc_cons (a :: s) (by simp), he]
        have := rc_cts s [] hcs
        simp only [List.append_nil, rc_nil] at this
        simp only [List.drop_succ_cons, List.drop_zero]
        omega
      have h2 := rc_cts m r hcm
      have h3 : rc (a :: s ++ (m ++ r)) = 1 + rc r := by
        rw [List.cons_append, rc_cons (a :: (s ++ (m ++ r))) (by simp), ← hm]
        congr 2
        rw [← List.cons_append, ← List.append_assoc, List.drop_append_of_le_length (by simp; omega), List.drop_of_length_le (by simp; omega), List.nil_append]
      rw [h3]
      omega
theorem rc_bounds : ∀ (n : Nat) (s : List UInt8), s.length ≤ n → rc s ≤ s.length ∧ s.length ≤ 4 * rc s
  | _, [], _ => by simp [rc_nil]
  | 0, a :: s, h => by simp at h
  | n + 1, a :: s, h => by
    have hw := dec_width (a :: s) (by simp)
    rw [rc_cons (a :: s) (by simp)]
    have ih := rc_bounds n ((a :: s).drop (dec (a :: s)).2) (by rw [List.length_drop, List.length_cons]; simp at h; omega)
    rw [List.length_drop] at ih
    omega
theorem rc_a : rc [97] = 1 := by decide
end Go.Vl
