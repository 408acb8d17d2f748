/-
  Letters as bytes: plain facts on encoding, and what the program's Clean comes to.
-/
import Derived.Test.YtpjngpegkoohgaaUtf
set_option linter.unusedVariables false
set_option linter.unusedSimpArgs false
namespace Go.Vl

def o8 (n : Nat) : UInt8 := UInt8.ofNat n
/-- the bytes of a letter that is one -/
def encN (c : Nat) : List UInt8 :=
  if c < 128 then [o8 c]
  else if c < 2048 then [o8 (192 + c / 64), o8 (128 + c % 64)]
  else if c < 65536 then [o8 (224 + c / 4096), o8 (128 + c / 64 % 64), o8 (128 + c % 64)]
  else [o8 (240 + c / 262144), o8 (128 + c / 4096 % 64), o8 (128 + c / 64 % 64), o8 (128 + c % 64)]
/-- the bytes of whatever number -/
def enc (r : Int) : List UInt8 := encN (if Utf8.valid r then r.toNat else 65533)

theorem o8_toNat (n : Nat) (h : n < 256) : (o8 n).toNat = n := by
  simp [o8]; omega
theorem valid_iff (r : Int) : Utf8.valid r = true ↔ (0 ≤ r ∧ r < 55296) ∨ (57344 ≤ r ∧ r ≤ 1114111) := by simp [Utf8.valid]
theorem encN_len (c : Nat) : 1 ≤ (encN c).length ∧ (encN c).length ≤ 4 := by
  unfold encN
  split
  · simp
  split
  · simp
  split
  · simp
  · simp
theorem enc_len (r : Int) : 1 ≤ (enc r).length ∧ (enc r).length ≤ 4 := encN_len _

/-! ### the bytes as the program reckons them -/
theorem or192 (y : Int) (h : 0 ≤ y ∧ y < 32) : bits .or .u8 192 y = 192 + y := by
  obtain ⟨n, rfl⟩ := Int.eq_ofNat_of_zero_le h.1
  have hn : n < 32 := by omega
  have : ∀ n : Fin 32, bits .or .u8 192 ((n.val : Nat) : Int) = 192 + ((n.val : Nat) : Int) := by decide
  exact this ⟨n, hn⟩
theorem or224 (y : Int) (h : 0 ≤ y ∧ y < 16) : bits .or .u8 224 y = 224 + y := by
  obtain ⟨n, rfl⟩ := Int.eq_ofNat_of_zero_le h.1
  have hn : n < 16 := by omega
  have : ∀ n : Fin 16, bits .or .u8 224 ((n.val : Nat) : Int) = 224 + ((n.val : Nat) : Int) := by decide
  exact this ⟨n, hn⟩
theorem or240 (y : Int) (h : 0 ≤ y ∧ y < 8) : bits .or .u8 240 y = 240 + y := by
  obtain ⟨n, rfl⟩ := Int.eq_ofNat_of_zero_le h.1
  have hn : n < 8 := by omega
  have : ∀ n : Fin 8, bits .or .u8 240 ((n.val : Nat) : Int) = 240 + ((n.val : Nat) : Int) := by decide
  exact this ⟨n, hn⟩
theorem or128 (y : Int) (h : 0 ≤ y ∧ y < 64) : bits .or .u8 128 y = 128 + y := by
  obtain ⟨n, rfl⟩ := Int.eq_ofNat_of_zero_le h.1
  have hn : n < 64 := by omega
  have : ∀ n : Fin 64, bits .or .u8 128 ((n.val : Nat) : Int) = 128 + ((n.val : Nat) : Int) := by decide
  exact this ⟨n, hn⟩
set_option maxRecDepth 4000 in
theorem and63 (y : Int) (h : 0 ≤ y ∧ y < 256) : bits .and .u8 y 63 = y % 64 := by
  obtain ⟨n, rfl⟩ := Int.eq_ofNat_of_zero_le h.1
  have hn : n < 256 := by omega
  have : ∀ n : Fin 256, bits .and .u8 ((n.val : Nat) : Int) 63 = ((n.val : Nat) : Int) % 64 := by decide
  exact this ⟨n, hn⟩
theorem wrap8 (z : Int) : IntKind.u8.wrap z = z % 256 := by rw [IntKind.wrap_u8]
theorem tail64 (z : Int) : bits .or .u8 128 (bits .and .u8 (IntKind.u8.wrap z) 63) = 128 + z % 64 := by
  rw [wrap8, and63 _ (by omega), or128 _ (by omega)]
  omega
theorem head192 (z : Int) (h : 0 ≤ z ∧ z < 32) : bits .or .u8 192 (IntKind.u8.wrap z) = 192 + z := by rw [wrap8, or192 _ (by omega)]; omega
theorem head224 (z : Int) (h : 0 ≤ z ∧ z < 16) : bits .or .u8 224 (IntKind.u8.wrap z) = 224 + z := by rw [wrap8, or224 _ (by omega)]; omega
theorem head240 (z : Int) (h : 0 ≤ z ∧ z < 8) : bits .or .u8 240 (IntKind.u8.wrap z) = 240 + z := by rw [wrap8, or240 _ (by omega)]; omega

theorem u8_of (n : Nat) (z : Int) (h : n < 256) (hz : z = n) : AV.lit (.int .u8 z) = AV.u8 (o8 n) := by
  subst hz
  show AV.lit (.int .u8 (n : Int)) = AV.lit (.int .u8 ((o8 n).toNat : Int))
  rw [o8_toNat n h]

theorem enc_1 (r : Int) (h : 0 ≤ r ∧ r ≤ 127) : [AV.lit (.int .u8 (IntKind.u8.wrap r))] = (enc r).map AV.u8 := by
  have hv : Utf8.valid r = true := (valid_iff r).2 (by omega)
  obtain ⟨n, rfl⟩ := Int.eq_ofNat_of_zero_le h.1
  rw [enc, if_pos hv, Int.toNat_natCast, encN, if_pos (by omega), List.map_cons, List.map_nil, wrap8]
  rw [u8_of n _ (by omega) (by omega)]
theorem enc_2 (r : Int) (h : 128 ≤ r ∧ r ≤ 2047) :
    [AV.lit (.int .u8 (bits .or .u8 192 (IntKind.u8.wrap (r / 2 ^ 6)))), AV.lit (.int .u8 (bits .or .u8 128 (bits .and .u8 (IntKind.u8.wrap r) 63)))] = (enc r).map AV.u8 := by
  have hv : Utf8.valid r = true := (valid_iff r).2 (by omega)
  obtain ⟨n, rfl⟩ := Int.eq_ofNat_of_zero_le (show 0 ≤ r by omega)
  rw [enc, if_pos hv, Int.toNat_natCast, encN, if_neg (by omega), if_pos (by omega)]
  simp only [List.map_cons, List.map_nil]
  rw [tail64, head192 _ (by omega), u8_of (192 + n / 64) _ (by omega) (by omega), u8_of (128 + n % 64) _ (by omega) (by omega)]
theorem enc_3 (r : Int) (h : 2048 ≤ r ∧ r ≤ 65535) (hs : r < 55296 ∨ 57343 < r) :
    [AV.lit (.int .u8 (bits .or .u8 224 (IntKind.u8.wrap (r / 2 ^ 12)))), AV.lit (.int .u8 (bits .or .u8 128 (bits .and .u8 (IntKind.u8.wrap (r / 2 ^ 6)) 63))), AV.lit (.int .u8 (bits .or .u8 128 (bits .and .u8 (IntKind.u8.wrap r) 63)))] = (enc r).map AV.u8 := by
  have hv : Utf8.valid r = true := (valid_iff r).2 (by omega)
  obtain ⟨n, rfl⟩ := Int.eq_ofNat_of_zero_le (show 0 ≤ r by omega)
  rw [enc, if_pos hv, Int.toNat_natCast, encN, if_neg (by omega), if_neg (by omega), if_pos (by omega)]
  simp only [List.map_cons, List.map_nil]
  rw [tail64, tail64, head224 _ (by omega), u8_of (224 + n / 4096) _ (by omega) (by omega), u8_of (128 + n / 64 % 64) _ (by omega) (by omega), u8_of (128 + n % 64) _ (by omega) (by omega)]
theorem enc_4 (r : Int) (h : 65536 ≤ r ∧ r ≤ 1114111) :
    [AV.lit (.int .u8 (bits .or .u8 240 (IntKind.u8.wrap (r / 2 ^ 18)))), AV.lit (.int .u8 (bits .or .u8 128 (bits .and .u8 (IntKind.u8.wrap (r / 2 ^ 12)) 63))), AV.lit (.int .u8 (bits .or .u8 128 (bits .and .u8 (IntKind.u8.wrap (r / 2 ^ 6)) 63))), AV.lit (.int .u8 (bits .or .u8 128 (bits .and .u8 (IntKind.u8.wrap r) 63)))] = (enc r).map AV.u8 := by
  have hv : Utf8.valid r = true := (valid_iff r).2 (by omega)
  obtain ⟨n, rfl⟩ := Int.eq_ofNat_of_zero_le (show 0 ≤ r by omega)
  rw [enc, if_pos hv, Int.toNat_natCast, encN, if_neg (by omega), if_neg (by omega), if_neg (by omega)]
  simp only [List.map_cons, List.map_nil]
  rw [tail64, tail64, tail64, head240 _ (by omega), u8_of (240 + n / 262144) _ (by omega) (by omega), u8_of (128 + n / 4096 % 64) _ (by omega) (by omega), u8_of (128 + n / 64 % 64) _ (by omega) (by omega), u8_of (128 + n % 64) _ (by omega) (by omega)]
theorem enc_bad (r : Int) (h : Utf8.valid r = false) : [AV.lit (.int .u8 239), AV.lit (.int .u8 191), AV.lit (.int .u8 189)] = (enc r).map AV.u8 := by
  have e : encN 65533 = [o8 239, o8 191, o8 189] := by decide
  rw [enc, h, if_neg (by simp), e]
  simp only [List.map_cons, List.map_nil]
  rw [u8_of 239 _ (by omega) (by omega), u8_of 191 _ (by omega) (by omega), u8_of 189 _ (by omega) (by omega)]

/-! ### Clean -/
/-- what a letter becomes, ahead of a rest -/
def cpiece (r : Nat) (rest : List UInt8) : List UInt8 :=
  if r = 0 then enc 65533 else if r = 13 then (if rest.head? = some 10 then [] else [10]) else enc (r : Int)
def cleanN : Nat → List UInt8 → List UInt8
  | 0, _ => []
  | _ + 1, [] => []
  | n + 1, b :: l => cpiece (dec (b :: l)).1 ((b :: l).drop (dec (b :: l)).2) ++ cleanN n ((b :: l).drop (dec (b :: l)).2)
def clean (l : List UInt8) : List UInt8 := cleanN l.length l

theorem cleanN_eq : ∀ (n m : Nat) (l : List UInt8), l.length ≤ n → l.length ≤ m → cleanN n l = cleanN m l
  | 0, m, l, h, _ => by
    have : l = [] := List.eq_nil_of_length_eq_zero (by omega)
    subst this
    cases m <;> rfl
  | n + 1, 0, l, _, h => by
    have : l = [] := List.eq_nil_of_length_eq_zero (by omega)
    subst this
    rfl
  | n + 1, m + 1, [], _, _ => rfl
  | n + 1, m + 1, b :: l, h1, h2 => by
    have hw := dec_width (b :: l) (by simp)
    simp only [cleanN]
    rw [cleanN_eq n m _ (by rw [List.length_drop]; omega) (by rw [List.length_drop]; omega)]
theorem clean_nil : clean [] = [] := rfl
theorem clean_cons (l : List UInt8) (h : l ≠ []) : clean l = cpiece (dec l).1 (l.drop (dec l).2) ++ clean (l.drop (dec l).2) := by
  cases l with
  | nil => exact absurd rfl h
  | cons b l =>
    have hw := dec_width (b :: l) h
    simp only [clean, List.length_cons, cleanN]
    rw [cleanN_eq l.length _ _ (by rw [List.length_drop, List.length_cons]; omega) (Nat.le_refl _)]
theorem clean_drop (l : List UInt8) (p : Nat) (h : p < l.length) : clean (l.drop p) = cpiece (dec (l.drop p)).1 (l.drop (p + (dec (l.drop p)).2)) ++ clean (l.drop (p + (dec (l.drop p)).2)) := by
  rw [clean_cons (l.drop p) (by intro e; have := congrArg List.length e; simp at this; omega), List.drop_drop]
theorem cpiece_len (r : Nat) (rest : List UInt8) : (cpiece r rest).length ≤ 4 := by
  unfold cpiece
  split
  · exact (enc_len _).2
  · split
    · split <;> simp
    · exact (enc_len _).2
/-- a letter below 128 is one byte -/
theorem dec_low (l : List UInt8) (h : l ≠ []) (hr : (dec l).1 < 128) : (dec l).2 = 1 ∧ l.head? = some (o8 (dec l).1) := by
  match l, h with
  | a :: s, _ =>
    rcases dec_cases a s with ⟨h, e⟩ | ⟨b, r', rfl, h, e⟩ | ⟨b, c, r', rfl, h, e⟩ | ⟨b, c, d, r', rfl, h, e⟩ | h
    · rw [e]
      refine ⟨rfl, ?_⟩
      simp [o8]
    · rw [e] at hr; simp [k2] at h; simp at hr; omega
    · rw [e] at hr; simp [k3] at h; simp at hr; omega
    · rw [e] at hr; simp [k4] at h; simp at hr; omega
    · rw [h.2.2.2.2] at hr; simp [Utf8.runeError] at hr
theorem head_getD (l : List UInt8) (p : Nat) (h : p < l.length) : (l.drop p).head? = some (l.getD p 0) := by
  rw [List.head?_drop, List.getElem?_eq_getElem h, List.getD_eq_getElem?_getD, List.getElem?_eq_getElem h]
  rfl
theorem toNat_eq {b : UInt8} {n : Nat} (h : n < 256) (e : ((b.toNat : Int) == (n : Int)) = true) : b = o8 n := by
  have : b.toNat = n := by simp at e; omega
  apply UInt8.toNat_inj.1
  rw [o8_toNat n h, this]
theorem cp_skip (l : List UInt8) (p : Nat) (hp : p < l.length) (h : ((((dec (l.drop p)).1 : Int) == 13) && decide ((p : Int) + 1 < l.length) && (((l.getD ((p : Int) + 1).toNat 0).toNat : Int) == 10)) = true) :
    cpiece (dec (l.drop p)).1 (l.drop (p + (dec (l.drop p)).2)) = [] := by
  simp only [Bool.and_eq_true, decide_eq_true_eq] at h
  obtain ⟨⟨h1, h2⟩, h3⟩ := h
  have h1' : (dec (l.drop p)).1 = 13 := by simp at h1; omega
  have hw := (dec_low (l.drop p) (by intro e; have := congrArg List.length e; simp at this; omega) (by omega)).1
  rw [hw, h1', cpiece, if_neg (by decide), if_pos rfl, head_getD l (p + 1) (by omega)]
  have e : ((p : Int) + 1).toNat = p + 1 := by omega
  rw [e] at h3
  have := toNat_eq (n := 10) (by decide) h3
  rw [this, if_pos (by decide)]
theorem cp_13 (l : List UInt8) (p : Nat) (hp : p < l.length) (h : ((((dec (l.drop p)).1 : Int) == 13) && decide ((p : Int) + 1 < l.length) && (((l.getD ((p : Int) + 1).toNat 0).toNat : Int) == 10)) = false) (h13 : (((dec (l.drop p)).1 : Int) == 13) = true) :
    cpiece (dec (l.drop p)).1 (l.drop (p + (dec (l.drop p)).2)) = enc 10 := by
  have h1' : (dec (l.drop p)).1 = 13 := by have h2 := h13; simp at h2; omega
  have hw := (dec_low (l.drop p) (by intro e; have := congrArg List.length e; simp at this; omega) (by omega)).1
  have e10 : enc 10 = [10] := by decide
  rw [hw, h1', cpiece, if_neg (by decide), if_pos rfl, e10]
  rw [h13, Bool.true_and, Bool.and_eq_false_iff] at h
  rw [if_neg]
  intro hh
  rcases h with h | h
  · have hl : l.length ≤ p + 1 := by simp at h; omega
    rw [List.drop_of_length_le hl] at hh
    cases hh
  · have hlt : p + 1 < l.length := by
      rcases Nat.lt_or_ge (p + 1) l.length with h' | h'
      · exact h'
      · rw [List.drop_of_length_le h'] at hh; cases hh
    rw [head_getD l (p + 1) hlt] at hh
    have e : ((p : Int) + 1).toNat = p + 1 := by omega
    rw [e, Option.some.inj hh] at h
    exact absurd h (by decide)
theorem cp_0 (l : List UInt8) (p : Nat) (rest : List UInt8) (h : (((dec (l.drop p)).1 : Int) == 0) = true) : cpiece (dec (l.drop p)).1 rest = enc 65533 := by
  have h1' : (dec (l.drop p)).1 = 0 := by simpa using h
  rw [h1', cpiece, if_pos rfl]
theorem cp_else (l : List UInt8) (p : Nat) (rest : List UInt8) (h : (((dec (l.drop p)).1 : Int) == 0) = false) (h13 : (((dec (l.drop p)).1 : Int) == 13) = false) : cpiece (dec (l.drop p)).1 rest = enc ((dec (l.drop p)).1 : Int) := by
  have h0 : ¬ (dec (l.drop p)).1 = 0 := by simpa using h
  have h1 : ¬ (dec (l.drop p)).1 = 13 := by intro e; rw [e] at h13; exact absurd h13 (by decide)
  rw [cpiece, if_neg h0, if_neg h1]
end Go.Vl
