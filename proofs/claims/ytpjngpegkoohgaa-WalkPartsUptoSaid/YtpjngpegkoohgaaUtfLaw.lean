/-
  The laws of utf, without a program: what is encoded is decoded; Clean part by part, and once more.
-/
import Derived.Test.YtpjngpegkoohgaaEnc
set_option linter.unusedVariables false
set_option linter.unusedSimpArgs false
namespace Go.Vl

/-- bytes of a letter behind its first one go on -/
theorem dec_cts (a : UInt8) (l : List UInt8) : ∀ b ∈ l.take ((dec (a :: l)).2 - 1), ct b = true := by
  rcases dec_cases a l with ⟨h, e⟩ | ⟨b, r', rfl, h, e⟩ | ⟨b, c, r', rfl, h, e⟩ | ⟨b, c, d, r', rfl, h, e⟩ | h
  · rw [e]; simp
  · rw [e]; simp [k2] at h; simp [h]
  · rw [e]; simp [k3] at h; simp [h]
  · rw [e]; simp [k4] at h; simp [h]
  · rw [h.2.2.2.2]; simp

theorem ct_hi {b : UInt8} (h : ct b = true) : 128 ≤ b.toNat := by simp [ct] at h; omega

/-- a letter does not go beyond a byte below 128 -/
theorem dec_stop (a : UInt8) (s : List UInt8) (x : UInt8) (t : List UInt8) (hx : x.toNat < 128) :
    dec (a :: (s ++ x :: t)) = dec (a :: (s ++ [x])) ∧ (dec (a :: (s ++ [x]))).2 ≤ s.length + 1 := by
  have hc : ¬ ct x = true := fun h => by have := ct_hi h; omega
  have h2 : (dec (a :: (s ++ [x]))).2 ≤ s.length + 1 := by
    have hw := dec_width (a :: (s ++ [x])) (by simp)
    simp only [List.length_cons, List.length_append, List.length_nil] at hw
    rcases Nat.lt_or_ge (s.length + 1) (dec (a :: (s ++ [x]))).2 with h | h
    · exfalso
      apply hc
      refine dec_cts a (s ++ [x]) x ?_
      rw [List.take_of_length_le (by simp; omega)]
      simp
    · exact h
  refine ⟨?_, h2⟩
  rcases dec_app a (s ++ [x]) t with ⟨he, _⟩ | ⟨_, _, m, r, _, _, hs, _⟩
  · rw [he]; simp
  · exact absurd (hs x (by simp)) hc

theorem cpiece_head (r : Nat) (l l' : List UInt8) (h : l.head? = l'.head?) : cpiece r l = cpiece r l' := by
  unfold cpiece; rw [h]
theorem cpiece_ne (r : Nat) (l l' : List UInt8) (h : r ≠ 13) : cpiece r l = cpiece r l' := by
  unfold cpiece; rw [if_neg h, if_neg h]

/-- CLEAN CAN BE DONE IN PARTS behind a byte below 128 that is not 13. -/
theorem clean_parts (x : UInt8) (hx : x.toNat < 128) (h13 : x.toNat ≠ 13) (t : List UInt8) : ∀ (n : Nat) (s : List UInt8), s.length ≤ n → clean (s ++ x :: t) = clean (s ++ [x]) ++ clean t
  | _, [], _ => by
    rw [List.nil_append, List.nil_append, clean_cons (x :: t) (by simp), clean_cons [x] (by simp), dec_of1 hx, dec_of1 hx]
    simp only [List.drop_succ_cons, List.drop_zero, clean_nil, List.append_nil]
    rw [cpiece_ne _ t [] h13]
  | 0, a :: s, h => by simp at h
  | n + 1, a :: s, h => by
    obtain ⟨h1, h2⟩ := dec_stop a s x t hx
    have hw := dec_width (a :: (s ++ [x])) (by simp)
    rw [List.cons_append, List.cons_append, clean_cons (a :: (s ++ x :: t)) (by simp), clean_cons (a :: (s ++ [x])) (by simp), h1]
    have hd : ∀ w, w ≤ s.length + 1 → ∀ u, (a :: (s ++ u)).drop w = (a :: s).drop w ++ u := fun w hw u => by
      rw [← List.cons_append, List.drop_append_of_le_length (by rw [List.length_cons]; exact hw)]
    have d1 := hd _ h2 (x :: t)
    have d2 := hd _ h2 [x]
    rw [d1, d2]
    have ih := clean_parts x hx h13 t n ((a :: s).drop (dec (a :: (s ++ [x]))).2) (by rw [List.length_drop, List.length_cons]; simp at h; omega)
    rw [ih, List.append_assoc]
    congr 1
    apply cpiece_head
    cases (a :: s).drop (dec (a :: (s ++ [x]))).2 <;> rfl

theorem clean_a13 : clean [97, 13] = [97, 10] := by decide

/-! ### what is encoded is decoded -/
theorem o8_low (c : Nat) (h : c < 128) : (o8 c).toNat = c := o8_toNat c (by omega)
theorem dec_encN (c : Nat) (h : Utf8.valid (c : Int) = true) (t : List UInt8) : dec (encN c ++ t) = (c, (encN c).length) := by
  have hv := (valid_iff (c : Int)).1 h
  unfold encN
  split
  · rename_i h1
    rw [List.cons_append, dec_of1 (by rw [o8_low c h1]; exact h1), o8_low c h1]; rfl
  · split
    · rename_i h1 h2
      have e1 := o8_toNat (192 + c / 64) (by omega)
      have e2 := o8_toNat (128 + c % 64) (by omega)
      have hv2 : v2 (o8 (192 + c / 64)) (o8 (128 + c % 64)) = c := by rw [v2, e1, e2]; omega
      have hk : k2 (o8 (192 + c / 64)) (o8 (128 + c % 64)) = true := by
        simp only [k2, ct, hv2, e1, e2, Bool.and_eq_true, beq_iff_eq, decide_eq_true_eq]; omega
      rw [List.cons_append, List.cons_append, dec_of2 hk, hv2]; rfl
    · split
      · rename_i h1 h2 h3
        have e1 := o8_toNat (224 + c / 4096) (by omega)
        have e2 := o8_toNat (128 + c / 64 % 64) (by omega)
        have e3 := o8_toNat (128 + c % 64) (by omega)
        have hv3 : v3 (o8 (224 + c / 4096)) (o8 (128 + c / 64 % 64)) (o8 (128 + c % 64)) = c := by rw [v3, e1, e2, e3]; omega
        have hk : k3 (o8 (224 + c / 4096)) (o8 (128 + c / 64 % 64)) (o8 (128 + c % 64)) = true := by
          simp only [k3, ct, hv3, e1, e2, e3, h, Bool.and_eq_true, beq_iff_eq, decide_eq_true_eq, and_true]; omega
        rw [List.cons_append, List.cons_append, List.cons_append, dec_of3 hk, hv3]; rfl
      · rename_i h1 h2 h3
        have e1 := o8_toNat (240 + c / 262144) (by omega)
        have e2 := o8_toNat (128 + c / 4096 % 64) (by omega)
        have e3 := o8_toNat (128 + c / 64 % 64) (by omega)
        have e4 := o8_toNat (128 + c % 64) (by omega)
        have hv4 : v4 (o8 (240 + c / 262144)) (o8 (128 + c / 4096 % 64)) (o8 (128 + c / 64 % 64)) (o8 (128 + c % 64)) = c := by rw [v4, e1, e2, e3, e4]; omega
        have hk : k4 (o8 (240 + c / 262144)) (o8 (128 + c / 4096 % 64)) (o8 (128 + c / 64 % 64)) (o8 (128 + c % 64)) = true := by
          simp only [k4, ct, hv4, e1, e2, e3, e4, h, Bool.and_eq_true, beq_iff_eq, decide_eq_true_eq, and_true]; omega
        rw [List.cons_append, List.cons_append, List.cons_append, List.cons_append, dec_of4 hk, hv4]; rfl
theorem encN_ne (c : Nat) (t : List UInt8) : encN c ++ t ≠ [] := by
  intro e
  have h : (encN c ++ t).length = 0 := by rw [e]; rfl
  have := (encN_len c).1
  rw [List.length_append] at h
  omega
/-- the bytes of letters -/
def flat (cs : List Nat) : List UInt8 := cs.flatMap encN
theorem flat_cons (c : Nat) (cs : List Nat) : flat (c :: cs) = encN c ++ flat cs := by simp [flat]
theorem flat_append (as bs : List Nat) : flat (as ++ bs) = flat as ++ flat bs := by simp [flat]
theorem runes_flat : ∀ (cs : List Nat) (t : List UInt8), (∀ c ∈ cs, Utf8.valid (c : Int) = true) → runes (flat cs ++ t) = cs ++ runes t
  | [], t, _ => by simp [flat]
  | c :: cs, t, h => by
    rw [flat_cons, List.append_assoc, runes_cons _ (encN_ne c _), dec_encN c (h c (by simp))]
    simp only [List.drop_left, List.cons_append]
    rw [runes_flat cs t (fun d hd => h d (by simp [hd]))]
theorem runes_flat' (cs : List Nat) (h : ∀ c ∈ cs, Utf8.valid (c : Int) = true) : runes (flat cs) = cs := by
  have := runes_flat cs [] h
  simpa [runes_nil] using this

/-- a letter of a text is one -/
theorem dec_valid (a : UInt8) (l : List UInt8) : Utf8.valid ((dec (a :: l)).1 : Int) = true := by
  rcases dec_cases a l with ⟨h, e⟩ | ⟨b, r', rfl, h, e⟩ | ⟨b, c, r', rfl, h, e⟩ | ⟨b, c, d, r', rfl, h, e⟩ | h
  · rw [e, valid_iff]; dsimp only; omega
  · rw [e, valid_iff]; simp only [v2]; omega
  · rw [e]; simp [k3] at h; exact h.2.2
  · rw [e]; simp [k4] at h; exact h.2.2
  · rw [h.2.2.2.2]; rfl
theorem dec_room (a : UInt8) (l : List UInt8) : (encN (dec (a :: l)).1).length ≤ 3 * (dec (a :: l)).2 := by
  rcases dec_cases a l with ⟨h, e⟩ | ⟨b, r', rfl, h, e⟩ | ⟨b, c, r', rfl, h, e⟩ | ⟨b, c, d, r', rfl, h, e⟩ | h
  · rw [e, encN, if_pos h]; show 1 ≤ 3; omega
  · rw [e]; have := (encN_len (v2 a b)).2; dsimp only; omega
  · rw [e]; have := (encN_len (v3 a b c)).2; dsimp only; omega
  · rw [e]; have := (encN_len (v4 a b c d)).2; dsimp only; omega
  · rw [h.2.2.2.2]; decide

/-- letters that Clean leaves -/
def Good (c : Nat) : Prop := Utf8.valid (c : Int) = true ∧ c ≠ 0 ∧ c ≠ 13
theorem enc_nat (c : Nat) (h : Utf8.valid (c : Int) = true) : enc (c : Int) = encN c := by rw [enc, if_pos h, Int.toNat_natCast]
theorem cpiece_good (a : UInt8) (l rest : List UInt8) : ∃ cs, cpiece (dec (a :: l)).1 rest = flat cs ∧ (∀ c ∈ cs, Good c) ∧ (cpiece (dec (a :: l)).1 rest).length ≤ 3 * (dec (a :: l)).2 := by
  have hw := dec_width (a :: l) (by simp)
  have hr := dec_room a l
  have hv := dec_valid a l
  unfold cpiece
  split
  · exact ⟨[65533], by decide, by intro c hc; simp at hc; subst hc; exact ⟨by decide, by decide, by decide⟩, by rw [show (enc 65533).length = 3 from by decide]; omega⟩
  · split
    · split
      · exact ⟨[], rfl, by simp, by simp⟩
      · exact ⟨[10], by decide, by intro c hc; simp at hc; subst hc; exact ⟨by decide, by decide, by decide⟩, by simp; omega⟩
    · rename_i h0 h13
      refine ⟨[(dec (a :: l)).1], by rw [enc_nat _ hv]; simp [flat], ?_, by rw [enc_nat _ hv]; exact hr⟩
      intro c hc
      simp at hc
      subst hc
      exact ⟨hv, h0, h13⟩
theorem clean_good : ∀ (n : Nat) (l : List UInt8), l.length ≤ n → ∃ cs, clean l = flat cs ∧ (∀ c ∈ cs, Good c) ∧ (clean l).length ≤ 3 * l.length
  | _, [], _ => ⟨[], rfl, by simp, by simp [clean_nil]⟩
  | 0, a :: l, h => by simp at h
  | n + 1, a :: l, h => by
    have hw := dec_width (a :: l) (by simp)
    obtain ⟨cs, h1, h2, h3⟩ := clean_good n ((a :: l).drop (dec (a :: l)).2) (by rw [List.length_drop, List.length_cons]; simp at h; omega)
    obtain ⟨ds, h4, h5, h6⟩ := cpiece_good a l ((a :: l).drop (dec (a :: l)).2)
    rw [clean_cons (a :: l) (by simp)]
    refine ⟨ds ++ cs, by rw [flat_append, h4, h1], ?_, ?_⟩
    · intro c hc
      rcases List.mem_append.1 hc with hc | hc
      · exact h5 c hc
      · exact h2 c hc
    · rw [List.length_append]
      rw [List.length_drop] at h3
      omega
theorem clean_flat : ∀ (cs : List Nat), (∀ c ∈ cs, Good c) → clean (flat cs) = flat cs
  | [], _ => rfl
  | c :: cs, h => by
    obtain ⟨hv, h0, h13⟩ := h c (by simp)
    rw [flat_cons, clean_cons _ (encN_ne c _), dec_encN c hv]
    simp only [List.drop_left]
    have e : cpiece c (flat cs) = encN c := by rw [cpiece, if_neg h0, if_neg h13, enc_nat c hv]
    rw [clean_flat cs (fun d hd => h d (by simp [hd])), e]
theorem clean_twice (l : List UInt8) : clean (clean l) = clean l := by
  obtain ⟨cs, h1, h2, _⟩ := clean_good _ l (Nat.le_refl _)
  rw [h1, clean_flat cs h2]
theorem encN_bytes (c : Nat) (hv : Utf8.valid (c : Int) = true) (h0 : c ≠ 0) (h13 : c ≠ 13) : ∀ b ∈ encN c, b.toNat ≠ 0 ∧ b.toNat ≠ 13 := by
  have hv := (valid_iff (c : Int)).1 hv
  have hb : ∀ n, 128 ≤ n → n < 256 → ∀ b, b = o8 n → b.toNat ≠ 0 ∧ b.toNat ≠ 13 := fun n h1 h2 b e => by
    subst e; rw [o8_toNat n h2]; omega
  unfold encN
  split
  · rename_i h
    intro b hb
    simp at hb
    subst hb
    rw [o8_low c h]
    exact ⟨h0, h13⟩
  · split
    · intro b hb'
      simp at hb'
      rcases hb' with h | h
      · exact hb _ (by omega) (by omega) b h
      · exact hb _ (by omega) (by omega) b h
    · split
      · intro b hb'
        simp at hb'
        rcases hb' with h | h | h
        · exact hb _ (by omega) (by omega) b h
        · exact hb _ (by omega) (by omega) b h
        · exact hb _ (by omega) (by omega) b h
      · intro b hb'
        simp at hb'
        rcases hb' with h | h | h | h
        · exact hb _ (by omega) (by omega) b h
        · exact hb _ (by omega) (by omega) b h
        · exact hb _ (by omega) (by omega) b h
        · exact hb _ (by omega) (by omega) b h
theorem clean_bytes (l : List UInt8) : ∀ b ∈ clean l, b.toNat ≠ 0 ∧ b.toNat ≠ 13 := by
  obtain ⟨cs, h1, h2, _⟩ := clean_good _ l (Nat.le_refl _)
  rw [h1]
  intro b hb
  simp only [flat, List.mem_flatMap] at hb
  obtain ⟨c, hc, hb⟩ := hb
  obtain ⟨hv, h0, h13⟩ := h2 c hc
  exact encN_bytes c hv h0 h13 b hb
/-- the letters of what is clean give it back -/
theorem clean_runes (l : List UInt8) : (∀ c ∈ runes (clean l), Utf8.valid (c : Int) = true) ∧ flat (runes (clean l)) = clean l := by
  obtain ⟨cs, h1, h2, _⟩ := clean_good _ l (Nat.le_refl _)
  rw [h1, runes_flat' cs (fun c hc => (h2 c hc).1)]
  exact ⟨fun c hc => (h2 c hc).1, rfl⟩

/-! ### Text -/
/-- the first letter of a list that is none -/
def allOk (l : List Int) : Bool := l.all fun n => Utf8.valid n
def textE (l : List Int) : Int := if allOk l then (if (l.flatMap enc).length ≤ 600 then 0 else 1) else 2
def textS (l : List Int) : List UInt8 := if allOk l ∧ (l.flatMap enc).length ≤ 600 then l.flatMap enc else []
theorem flatMap_enc (l : List Int) : (l.flatMap enc).length ≤ 4 * l.length := by
  induction l with
  | nil => simp
  | cons a l ih => have := (enc_len a).2; simp only [List.flatMap_cons, List.length_append, List.length_cons]; omega
theorem flatMap_enc_nat (cs : List Nat) (h : ∀ c ∈ cs, Utf8.valid (c : Int) = true) : (cs.map fun (c : Nat) => (c : Int)).flatMap enc = flat cs := by
  induction cs with
  | nil => rfl
  | cons c cs ih =>
    simp only [List.map_cons, List.flatMap_cons, flat_cons]
    rw [enc_nat c (h c (by simp)), ih (fun d hd => h d (by simp [hd]))]

/-! ### the letters that the laws draw -/
def pick5 (k : Int) : Int := if k = 0 then 128 else if k = 1 then 300 else if k = 2 then 3000 else if k = 3 then 70000 else 1114112
def letter0 (z : Int) : Int := z % pick5 (IntKind.i64.wrap (z.tdiv 7) % 5)
def letterOf (z : Int) : Int := if 55296 ≤ letter0 z ∧ letter0 z ≤ 57343 then 65 else letter0 z
theorem pick5_pos (k : Int) : 0 < pick5 k ∧ pick5 k ≤ 1114112 := by unfold pick5; repeat' split <;> omega
theorem pick5_get (w : Int) : ([.lit (.int .i64 128), .lit (.int .i64 300), .lit (.int .i64 3000), .lit (.int .i64 70000), .lit (.int .i64 1114112)] : List AV)[(w % 5).toNat]? = some (.int (pick5 (w % 5))) := by
  have h : w % 5 = 0 ∨ w % 5 = 1 ∨ w % 5 = 2 ∨ w % 5 = 3 ∨ w % 5 = 4 := by omega
  rcases h with h | h | h | h | h <;> rw [h] <;> rfl
theorem letter0_range (z : Int) : 0 ≤ letter0 z ∧ letter0 z < 1114112 := by
  have h := pick5_pos (IntKind.i64.wrap (z.tdiv 7) % 5)
  have h1 := Int.emod_nonneg z (show pick5 (IntKind.i64.wrap (z.tdiv 7) % 5) ≠ 0 by omega)
  have h2 := Int.emod_lt_of_pos z h.1
  unfold letter0
  omega
theorem letterOf_valid (z : Int) : Utf8.valid (letterOf z) = true := by
  have := letter0_range z
  rw [valid_iff]
  unfold letterOf
  split <;> omega
end Go.Vl
