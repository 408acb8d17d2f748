/-
  Merged: Live Ord Cnt Copy Que Plc Add Sch Base WToGo.
-/
import Derived.Test.YtphlkdbglpcikaaGreatDoorG4
import Derived.Lib.Overlaps
import Derived.Laws.Externs
import Derived.Test.YtphlkdbglpcikaaGreatDoorRows

section
set_option linter.unusedVariables false
set_option linter.unusedSimpArgs false
namespace Go.Vl
theorem outs_congr {n : Nat} {f g : Nat → Bool} (h : ∀ k, k < n → f k = g k) : outs n f = outs n g := by
  unfold outs
  congr 1
  exact List.filter_congr fun k hk => by rw [h k (List.mem_range.1 hk)]
namespace Au
structure Lv (w : Au) (f0 f : Nat → Bool) (m : Bool) (i c : Nat) : Prop where
  sound : ∀ k, k < w.next.length → f k = true → w.lives k
  fin : ∀ k, k < w.next.length → w.final.getD k false = true → f k = true
  up : ∀ k, k < w.next.length → f0 k = true → f k = true
  still : m = false → (∀ k, k < w.next.length → f k = f0 k) ∧ ∀ k d, k < w.next.length → d < 8 → (k < i ∨ (k = i ∧ d < c)) → ∀ t : Nat, w.to (k : Int) (d : Int) = (t : Int) → f t = true → f k = true
  less : m = true → outs w.next.length f < outs w.next.length f0
variable {w : Au} {f0 f : Nat → Bool} {m : Bool} {i c : Nat}
theorem Lv.start : Lv w (fun k => w.final.getD k false) (fun k => w.final.getD k false) false 0 0 := by
  refine ⟨fun k hk h => ⟨[], ?_⟩, fun k _ h => h, fun k _ h => h, fun _ => ⟨fun _ _ => rfl, fun k d _ _ h => by omega⟩, fun h => by cases h⟩
  simp only [acc, Int.toNat_natCast]
  exact ⟨by omega, h⟩
theorem Lv.again (h : Lv w f0 f m i c) : Lv w f f false 0 0 :=
  ⟨h.sound, h.fin, fun k _ h => h, fun _ => ⟨fun _ _ => rfl, fun k d _ _ h => by omega⟩, fun h => by cases h⟩
theorem Lv.row (h : Lv w f0 f m i 8) : Lv w f0 f m (i + 1) 0 :=
  ⟨h.sound, h.fin, h.up, fun hm => ⟨(h.still hm).1, fun k d hk hd hx => (h.still hm).2 k d hk hd (by omega)⟩, h.less⟩
theorem Lv.skip (h : Lv w f0 f m i c) (hn : ∀ t : Nat, w.to (i : Int) (c : Int) = (t : Int) → f t = true → f i = true) : Lv w f0 f m i (c + 1) := by
  refine ⟨h.sound, h.fin, h.up, fun hm => ⟨(h.still hm).1, fun k d hk hd hx t ht hf => ?_⟩, h.less⟩
  by_cases h1 : k < i ∨ (k = i ∧ d < c)
  · exact (h.still hm).2 k d hk hd h1 t ht hf
  · obtain ⟨rfl, rfl⟩ : k = i ∧ d = c := by omega
    exact hn t ht hf
theorem Lv.set (h : Lv w f0 f m i c) (hi : i < w.next.length) (hc : c < 8) {t : Nat} (htl : t < w.next.length) (ht : w.to (i : Int) (c : Int) = (t : Int)) (hft : f t = true) (hfi : f i = false) : Lv w f0 (fun k => if k = i then true else f k) true i (c + 1) := by
  refine ⟨fun k hk hf => ?_, fun k hk hf => ?_, fun k hk hf => ?_, (fun h => by cases h), fun _ => ?_⟩
  · by_cases hki : k = i
    · subst hki
      obtain ⟨u, hu⟩ := h.sound t htl hft
      exact ⟨(c : Int) :: u, by rw [acc_step k c hc, ht]; exact hu⟩
    · rw [if_neg hki] at hf; exact h.sound k hk hf
  · split
    · rfl
    · exact h.fin k hk hf
  · split
    · rfl
    · exact h.up k hk hf
  · have h1 : outs w.next.length (fun k => if k = i then true else f k) < outs w.next.length f := by
      refine outs_lt _ _ _ (fun k _ hk => ?_) (fun hall => ?_)
      · split
        · rfl
        · exact hk
      · have := hall i hi
        rw [if_pos rfl, hfi] at this; cases this
    cases m with
    | true => have := h.less rfl; omega
    | false =>
      have h2 : outs w.next.length f = outs w.next.length f0 := by
        unfold outs
        congr 1
        refine List.filter_congr fun k hk => ?_
        rw [(h.still rfl).1 k (List.mem_range.1 hk)]
      omega
theorem Lv.done (hs : w.Shape) (h : Lv w f0 f false w.next.length 0) : ∀ k, k < w.next.length → (f k = true ↔ w.lives k) := by
  have key : ∀ (u : List Int) (k : Nat), k < w.next.length → w.acc (k : Int) u → f k = true := by
    intro u
    induction u with
    | nil =>
      intro k hk ha
      simp only [acc, Int.toNat_natCast] at ha
      exact h.fin k hk ha.2
    | cons c u ih =>
      intro k hk ha
      have hc : 0 ≤ c ∧ c < 8 := by simp only [acc] at ha; exact ⟨ha.2.1, ha.2.2.1⟩
      obtain ⟨c, rfl⟩ : ∃ k : Nat, c = (k : Int) := ⟨c.toNat, by omega⟩
      rw [acc_step k c (by omega)] at ha
      rcases to_state hs hk (c := c) (by omega) with h1 | ⟨t, ht, h1⟩
      · exact absurd ha (acc_neg h1 _)
      · rw [h1] at ha
        exact (h.still rfl).2 k c hk (by omega) (.inl hk) t h1 (ih t ht ha)
  exact fun k hk => ⟨h.sound k hk, fun ⟨u, hu⟩ => key u k hk hu⟩
def cls0 (w : Au) (f : Nat → Bool) (k : Nat) : Int := if f k = true then (if w.final.getD k false = true then 1 else 0) else -1
theorem Moore.start {f : Nat → Bool} (hf : ∀ k, k < w.next.length → (f k = true ↔ w.lives k)) : w.Moore (cls0 w f) 0 := by
  have hv : ∀ k, k < w.next.length → (cls0 w f k < 0 ↔ ¬ w.lives k) := fun k hk => by
    unfold cls0
    rw [← hf k hk]
    by_cases h : f k = true
    · rw [if_pos h]
      split <;> exact ⟨fun h => by omega, fun h' => absurd h h'⟩
    · rw [if_neg h]; exact ⟨fun _ => h, fun _ => by omega⟩
  have hl : ∀ k, k < w.next.length → w.lives k → cls0 w f k = if w.final.getD k false = true then 1 else 0 := fun k hk h => by
    unfold cls0; rw [if_pos ((hf k hk).2 h)]
  refine ⟨hv, fun i j hi hj hli he => ?_, fun i j hi hj h0 he => ?_, fun h => absurd rfl h⟩
  · have hlj : w.lives j := by obtain ⟨u, hu⟩ := hli; exact ⟨u, (he u).1 hu⟩
    rw [hl i hi hli, hl j hj hlj]
    have := he []
    simp only [acc, Int.toNat_natCast] at this
    have h2 : (w.final.getD i false = true) ↔ (w.final.getD j false = true) := ⟨fun h => (this.1 ⟨by omega, h⟩).2, fun h => (this.2 ⟨by omega, h⟩).2⟩
    by_cases h3 : w.final.getD i false = true
    · rw [if_pos h3, if_pos (h2.1 h3)]
    · rw [if_neg h3, if_neg (fun h => h3 (h2.2 h))]
  · have h1 : w.lives i := Classical.byContradiction fun h => by have := (hv i hi).2 h; omega
    have h2 : w.lives j := Classical.byContradiction fun h => by have := (hv j hj).2 h; omega
    rw [hl i hi h1, hl j hj h2] at he
    cases h3 : w.final.getD i false <;> cases h4 : w.final.getD j false <;> simp_all
def lst (w : Au) (out : Nat → Int) (k : Nat) : List Int := [out k, w.cto out k 0, w.cto out k 1, w.cto out k 2, w.cto out k 3, w.cto out k 4, w.cto out k 5, w.cto out k 6, w.cto out k 7]
theorem lst_eq (out : Nat → Int) (i j : Nat) : lst w out i = lst w out j ↔ (out i = out j ∧ ∀ c : Nat, c < 8 → w.cto out i c = w.cto out j c) := by
  unfold lst
  constructor
  · intro h
    simp only [List.cons.injEq, and_true] at h
    refine ⟨h.1, fun c hc => ?_⟩
    rcases (show c = 0 ∨ c = 1 ∨ c = 2 ∨ c = 3 ∨ c = 4 ∨ c = 5 ∨ c = 6 ∨ c = 7 from by omega) with rfl | rfl | rfl | rfl | rfl | rfl | rfl | rfl <;> simp [h]
  · rintro ⟨h1, h2⟩
    rw [h1, h2 0 (by decide), h2 1 (by decide), h2 2 (by decide), h2 3 (by decide), h2 4 (by decide), h2 5 (by decide), h2 6 (by decide), h2 7 (by decide)]
structure Dv (w : Au) (out : Nat → Int) (K : List (List Int)) (next : Nat → Int) (i : Nat) : Prop where
  nodup : K.Nodup
  neg : ∀ k, k < i → out k < 0 → next k = -1
  pos : ∀ k, k < i → 0 ≤ out k → ∃ j : Nat, K[j]? = some (lst w out k) ∧ next k = (j : Int)
  hit : ∀ j, j < K.length → ∃ k, k < i ∧ 0 ≤ out k ∧ K[j]? = some (lst w out k)
variable {out next : Nat → Int} {K : List (List Int)}
theorem Dv.start (next : Nat → Int) : Dv w out [] next 0 := ⟨List.nodup_nil, fun k h => absurd h (Nat.not_lt_zero _), fun k h => absurd h (Nat.not_lt_zero _), fun j h => absurd h (Nat.not_lt_zero _)⟩
theorem Dv.none (h : Dv w out K next i) (ho : out i < 0) : Dv w out K (fun k => if k = i then -1 else next k) (i + 1) := by
  refine ⟨h.nodup, fun k hk hn => ?_, fun k hk hp => ?_, fun j hj => ?_⟩
  · by_cases e : k = i
    · exact if_pos e
    · rw [if_neg e]; exact h.neg k (by omega) hn
  · have e : k ≠ i := fun e => by rw [e] at hp; omega
    rw [if_neg e]; exact h.pos k (by omega) hp
  · obtain ⟨k, h1, h2, h3⟩ := h.hit j hj
    exact ⟨k, by omega, h2, h3⟩
theorem Dv.old (h : Dv w out K next i) (ho : 0 ≤ out i) {j : Nat} (hj : K[j]? = some (lst w out i)) : Dv w out K (fun k => if k = i then (j : Int) else next k) (i + 1) := by
  refine ⟨h.nodup, fun k hk hn => ?_, fun k hk hp => ?_, fun j hj => ?_⟩
  · have e : k ≠ i := fun e => by rw [e] at hn; omega
    rw [if_neg e]; exact h.neg k (by omega) hn
  · by_cases e : k = i
    · rw [e]; exact ⟨j, hj, if_pos rfl⟩
    · rw [if_neg e]; exact h.pos k (by omega) hp
  · obtain ⟨k, h1, h2, h3⟩ := h.hit j hj
    exact ⟨k, by omega, h2, h3⟩
theorem Dv.new (h : Dv w out K next i) (ho : 0 ≤ out i) (hn : lst w out i ∉ K) : Dv w out (K ++ [lst w out i]) (fun k => if k = i then (K.length : Int) else next k) (i + 1) := by
  have up : ∀ (j : Nat) (x : List Int), K[j]? = some x → (K ++ [lst w out i])[j]? = some x := fun j x hj => by
    rw [List.getElem?_append_left (by rcases Nat.lt_or_ge j K.length with h1 | h1; exact h1; rw [List.getElem?_eq_none h1] at hj; cases hj)]; exact hj
  have last : (K ++ [lst w out i])[K.length]? = some (lst w out i) := by rw [List.getElem?_append_right (Nat.le_refl _), Nat.sub_self]; rfl
  refine ⟨List.nodup_append.2 ⟨h.nodup, by simp, fun a ha b hb e => hn (by rw [← List.mem_singleton.1 hb, ← e]; exact ha)⟩, fun k hk hn => ?_, fun k hk hp => ?_, fun j hj => ?_⟩
  · have e : k ≠ i := fun e => by rw [e] at hn; omega
    rw [if_neg e]; exact h.neg k (by omega) hn
  · by_cases e : k = i
    · rw [e]; exact ⟨K.length, last, if_pos rfl⟩
    · rw [if_neg e]
      obtain ⟨j, h1, h2⟩ := h.pos k (by omega) hp
      exact ⟨j, up j _ h1, h2⟩
  · rw [List.length_append, List.length_singleton] at hj
    rcases Nat.lt_or_ge j K.length with h1 | h1
    · obtain ⟨k, h2, h3, h4⟩ := h.hit j h1
      exact ⟨k, by omega, h3, up j _ h4⟩
    · obtain rfl : j = K.length := by omega
      exact ⟨i, by omega, ho, last⟩
theorem Dv.div (h : Dv w out K next w.next.length) : w.Div out next K.length := by
  have hlt : ∀ (j : Nat) (x : List Int), K[j]? = some x → j < K.length := fun j x hj => by
    rcases Nat.lt_or_ge j K.length with h1 | h1
    · exact h1
    · rw [List.getElem?_eq_none h1] at hj; cases hj
  refine ⟨fun i hi => ⟨fun hn => ?_, fun hn => ?_⟩, fun i j hi hj h0 h1 => ?_, fun i hi => ?_, fun v hv => ?_⟩
  · rcases Int.lt_or_le (out i) 0 with h1 | h1
    · exact h1
    · obtain ⟨j, _, h2⟩ := h.pos i hi h1; omega
  · rw [h.neg i hi hn]; decide
  · obtain ⟨a, ha, ea⟩ := h.pos i hi h0
    obtain ⟨b, hb, eb⟩ := h.pos j hj h1
    rw [ea, eb, ← lst_eq]
    constructor
    · intro e
      have e : a = b := by omega
      subst e
      rw [ha] at hb; exact Option.some.inj hb
    · intro e
      rw [← e] at hb
      have la := hlt a _ ha
      have lb := hlt b _ hb
      rw [List.getElem?_eq_getElem la] at ha
      rw [List.getElem?_eq_getElem lb] at hb
      have : K[a] = K[b] := by rw [Option.some.inj ha, Option.some.inj hb]
      have := (List.getElem_inj h.nodup).1 this
      omega
  · rcases Int.lt_or_le (out i) 0 with h1 | h1
    · rw [h.neg i hi h1]; omega
    · obtain ⟨j, h2, h3⟩ := h.pos i hi h1
      have := hlt j _ h2; omega
  · obtain ⟨k, h1, h2, h3⟩ := h.hit v hv
    obtain ⟨j, h4, h5⟩ := h.pos k h1 h2
    refine ⟨k, h1, ?_⟩
    have la := hlt v _ h3
    have lb := hlt j _ h4
    rw [List.getElem?_eq_getElem la] at h3
    rw [List.getElem?_eq_getElem lb] at h4
    have : K[v] = K[j] := by rw [Option.some.inj h3, Option.some.inj h4]
    have := (List.getElem_inj h.nodup).1 this
    omega
theorem Dv.len (h : Dv w out K next i) : K.length ≤ i := by
  classical
  refine pigeon i K.length (fun j => if hj : j < K.length then Classical.choose (h.hit j hj) else 0) (fun j hj => ?_) (fun a b ha hb e => ?_)
  · simp only [dif_pos hj]; exact (Classical.choose_spec (h.hit j hj)).1
  · simp only [dif_pos ha, dif_pos hb] at e
    have h1 := (Classical.choose_spec (h.hit a ha)).2.2
    have h2 := (Classical.choose_spec (h.hit b hb)).2.2
    rw [e, ← h2, List.getElem?_eq_getElem ha, List.getElem?_eq_getElem hb] at h1
    exact (List.getElem_inj h.nodup).1 (Option.some.inj h1)
theorem lst_sml (hb : ∀ k, k < w.next.length → -1 ≤ out k ∧ out k < 100) (hs : w.Shape) {k : Nat} (hk : k < w.next.length) : sml (lst w out k) := by
  have hc : ∀ c : Nat, c < 8 → -1 ≤ w.cto out k c ∧ w.cto out k c < 100 := fun c hc => by
    rcases to_state hs hk hc with h1 | ⟨t, ht, h1⟩
    · rw [cto_neg h1]; decide
    · rw [cto_nat h1]; exact hb t ht
  intro n hn
  simp only [lst, List.mem_cons, List.not_mem_nil, or_false] at hn
  rcases hn with rfl | rfl | rfl | rfl | rfl | rfl | rfl | rfl | rfl
  · exact hb k hk
  · exact hc 0 (by decide)
  · exact hc 1 (by decide)
  · exact hc 2 (by decide)
  · exact hc 3 (by decide)
  · exact hc 4 (by decide)
  · exact hc 5 (by decide)
  · exact hc 6 (by decide)
  · exact hc 7 (by decide)
end Au
theorem Au.Dv.mem {w : Au} {out next : Nat → Int} {K : List (List Int)} {i : Nat} (h : Au.Dv w out K next i) {q : List Int} (hq : q ∈ K) : ∃ k, k < i ∧ q = Au.lst w out k := by
  obtain ⟨j, hj, rfl⟩ := List.mem_iff_getElem.1 hq
  obtain ⟨k, h1, _, h3⟩ := h.hit j hj
  rw [List.getElem?_eq_getElem hj] at h3
  exact ⟨k, h1, Option.some.inj h3⟩
theorem Au.Dv.plc {w : Au} {out next : Nat → Int} {K : List (List Int)} {i : Nat} (h : Au.Dv w out K next i) (hb : ∀ k, k < w.next.length → -1 ≤ out k ∧ out k < 100) (hs : w.Shape) (hi : i < w.next.length) : place (keyL (Au.lst w out i)) (K.map keyL) = place (Au.lst w out i) K :=
  place_map fun q hq e => by
    obtain ⟨k, hk, rfl⟩ := h.mem hq
    exact keyL_inj' (Au.lst_sml hb hs hi) (Au.lst_sml hb hs (by omega)) e
theorem Au.Dv.rng {w : Au} {out next : Nat → Int} {K : List (List Int)} {i : Nat} (h : Au.Dv w out K next i) (hi : i ≤ 100) : ∀ k, k < i → -1 ≤ next k ∧ next k < 100 := fun k hk => by
  have hl := h.len
  rcases Int.lt_or_le (out k) 0 with h1 | h1
  · rw [h.neg k hk h1]; decide
  · obtain ⟨j, h2, h3⟩ := h.pos k hk h1
    have : j < K.length := by
      rcases Nat.lt_or_ge j K.length with h4 | h4
      · exact h4
      · rw [List.getElem?_eq_none h4] at h2; cases h2
    omega
theorem Au.lst_snoc (w : Au) (out : Nat → Int) (k d : Nat) (hd : d < 8) : (Au.lst w out k).take (d + 1 + 1) = (Au.lst w out k).take (d + 1) ++ [w.cto out k d] := by
  rcases (show d = 0 ∨ d = 1 ∨ d = 2 ∨ d = 3 ∨ d = 4 ∨ d = 5 ∨ d = 6 ∨ d = 7 from by omega) with rfl | rfl | rfl | rfl | rfl | rfl | rfl | rfl <;> rfl
theorem Au.cls0_rng (w : Au) (f : Nat → Bool) (k : Nat) : -1 ≤ Au.cls0 w f k ∧ Au.cls0 w f k < 100 := by
  unfold Au.cls0
  split
  · split <;> omega
  · omega
def rowI (n : Nat) (f : Nat → Int) : List AV := (List.range n).map fun k => AV.int (f k)
theorem rowI_len (n : Nat) (f : Nat → Int) : (rowI n f).length = n := by simp [rowI]
theorem rowI_get {n : Nat} {f : Nat → Int} {k : Nat} (h : k < n) : (rowI n f)[k]? = some (AV.int (f k)) := by
  rw [rowI, List.getElem?_map, List.getElem?_range h]; rfl
theorem rowI_rep (n : Nat) : List.replicate n (AV.int 0) = rowI n (fun _ => 0) := by
  refine List.ext_getElem? fun k => ?_
  rcases Nat.lt_or_ge k n with h | h
  · rw [rowI_get h, List.getElem?_replicate, if_pos h]
  · rw [List.getElem?_eq_none (by simpa using h), List.getElem?_eq_none (by rw [rowI_len]; exact h)]
theorem rowI_set (n : Nat) (f : Nat → Int) (i : Nat) (x : Int) : (rowI n f).set i (AV.int x) = rowI n (fun k => if k = i then x else f k) := by
  refine List.ext_getElem? fun k => ?_
  rcases Nat.lt_or_ge k n with h | h
  · rw [rowI_get h, List.getElem?_set, rowI_len]
    by_cases e : i = k
    · subst e; rw [if_pos rfl, if_pos h, if_pos rfl]
    · rw [if_neg e, if_neg (fun h' => e h'.symm), rowI_get h]
  · rw [List.getElem?_eq_none (by rw [List.length_set, rowI_len]; exact h), List.getElem?_eq_none (by rw [rowI_len]; exact h)]
theorem rowI_congr {n : Nat} {f g : Nat → Int} (h : ∀ k, k < n → f k = g k) : rowI n f = rowI n g := List.map_congr_left fun k hk => congrArg AV.int (h k (List.mem_range.1 hk))
def clsI (w : Au) (f : Nat → Bool) (i k : Nat) : Int := if k < i then Au.cls0 w f k else 0
theorem clsI_set {w : Au} {f : Nat → Bool} (n i : Nat) {x : Int} (hx : Au.cls0 w f i = x) : (rowI n (clsI w f i)).set i (AV.int x) = rowI n (clsI w f (i + 1)) := by
  rw [rowI_set]
  refine rowI_congr fun k _ => ?_
  unfold clsI
  by_cases h : k = i
  · subst h; rw [if_pos rfl, if_pos (by omega), hx]
  · rw [if_neg h]
    by_cases h2 : k < i
    · rw [if_pos h2, if_pos (by omega)]
    · rw [if_neg h2, if_neg (by omega)]
theorem clsI_zero {w : Au} {f : Nat → Bool} (n i : Nat) (hx : Au.cls0 w f i = 0) : rowI n (clsI w f i) = rowI n (clsI w f (i + 1)) := by
  refine rowI_congr fun k _ => ?_
  unfold clsI
  by_cases h : k = i
  · subst h; rw [if_neg (Nat.lt_irrefl _), if_pos (by omega), hx]
  · by_cases h2 : k < i
    · rw [if_pos h2, if_pos (by omega)]
    · rw [if_neg h2, if_neg (by omega)]
theorem clsI_start (w : Au) (f : Nat → Bool) (n : Nat) : List.replicate n (AV.int 0) = rowI n (clsI w f 0) := by
  rw [rowI_rep]
  exact rowI_congr fun k _ => by unfold clsI; rw [if_neg (by omega)]
theorem clsI_done (w : Au) (f : Nat → Bool) (n : Nat) : rowI n (clsI w f n) = rowI n (Au.cls0 w f) :=
  rowI_congr fun k hk => by unfold clsI; rw [if_pos hk]
def wrow (r : List Int) : AV := r8av fun c => r.getD c 0
theorem rowB_list (l : List Bool) : l.map AV.bool = rowB l.length (fun k => l.getD k false) := by
  refine List.ext_getElem? fun k => ?_
  rcases Nat.lt_or_ge k l.length with h | h
  · rw [rowB_at _ _ k h]; exact getD_mapG AV.bool false l k h
  · rw [List.getElem?_eq_none (by rw [List.length_map]; exact h), List.getElem?_eq_none (by rw [rowB_len]; exact h)]
theorem wrow_get {w : Au} (hs : w.Shape) {i : Nat} (hi : i < w.next.length) : (w.next.map wrow)[i]? = some (r8av fun c => w.to (i : Int) (c : Int)) := by
  rw [getD_mapG wrow [] w.next i hi]
  refine congrArg some (congrArg AV.agg (row8_congr fun c hc => ?_))
  have := Au.to_get w (i : Int) (c : Int) (by rw [Int.toNat_natCast, Int.toNat_natCast, hs.row i hi]; exact hc)
  rwa [Int.toNat_natCast, Int.toNat_natCast] at this
end Go.Vl
end

section
set_option linter.unusedVariables false
set_option linter.unusedSimpArgs false
namespace Go.Vl
def r8l (f : Nat → Int) : List Int := [f 0, f 1, f 2, f 3, f 4, f 5, f 6, f 7]
theorem r8l_get (f : Nat → Int) (c : Nat) (hc : c < 8) (z : Int) : (r8l f).getD c z = f c := by
  rcases (show c = 0 ∨ c = 1 ∨ c = 2 ∨ c = 3 ∨ c = 4 ∨ c = 5 ∨ c = 6 ∨ c = 7 from by omega) with rfl | rfl | rfl | rfl | rfl | rfl | rfl | rfl <;> rfl
theorem r8l_congr {f g : Nat → Int} (h : ∀ c, c < 8 → f c = g c) : r8l f = r8l g := by
  unfold r8l
  rw [h 0 (by decide), h 1 (by decide), h 2 (by decide), h 3 (by decide), h 4 (by decide), h 5 (by decide), h 6 (by decide), h 7 (by decide)]
theorem row8_set (f : Nat → Int) (c : Nat) (hc : c < 8) (x : Int) : (row8 f).set c (.int x) = row8 (fun d => if d = c then x else f d) := by
  rcases (show c = 0 ∨ c = 1 ∨ c = 2 ∨ c = 3 ∨ c = 4 ∨ c = 5 ∨ c = 6 ∨ c = 7 from by omega) with rfl | rfl | rfl | rfl | rfl | rfl | rfl | rfl <;> rfl
namespace Au
def setI (T : Nat → Nat → Int) (i c : Nat) (x : Int) : Nat → Nat → Int := fun k d => if k = i ∧ d = c then x else T k d
theorem setI_at (T : Nat → Nat → Int) (i c : Nat) (x : Int) : setI T i c x i c = x := if_pos ⟨rfl, rfl⟩
theorem setI_ne (T : Nat → Nat → Int) (i c : Nat) (x : Int) {k d : Nat} (h : ¬ (k = i ∧ d = c)) : setI T i c x k d = T k d := if_neg h
def rowV (T : Nat → Nat → Int) (i c : Nat) : List AV := row8 fun d => if d < c then T i d else 0
theorem rowV_step (T : Nat → Nat → Int) (i c : Nat) (x : Int) (hc : c < 8) : (rowV T i c).set c (.int x) = rowV (setI T i c x) i (c + 1) := by
  unfold rowV
  rw [row8_set _ c hc]
  refine row8_congr fun d _ => ?_
  by_cases h : d = c
  · subst h
    rw [if_pos rfl, if_pos (by omega), setI_at]
  · rw [if_neg h, setI_ne T i c x (by omega)]
    by_cases h2 : d < c
    · rw [if_pos h2, if_pos (by omega)]
    · rw [if_neg h2, if_neg (by omega)]
theorem rowV_done (T : Nat → Nat → Int) (i : Nat) : rowV T i 8 = row8 (T i) := row8_congr fun d hd => if_pos hd
theorem rowV_len (T : Nat → Nat → Int) (i c : Nat) : (rowV T i c).length = 8 := rfl
def rowsL (n : Nat) (T : Nat → Nat → Int) : List (List Int) := (List.range n).map fun k => r8l (T k)
theorem rowsL_len (n : Nat) (T : Nat → Nat → Int) : (rowsL n T).length = n := by simp [rowsL]
theorem rowsL_snoc (n : Nat) (T : Nat → Nat → Int) : rowsL n T ++ [r8l (T n)] = rowsL (n + 1) T := by
  rw [rowsL, rowsL, List.range_succ, List.map_append]; rfl
theorem rowsL_set (T : Nat → Nat → Int) (i c : Nat) (x : Int) : rowsL i (setI T i c x) = rowsL i T :=
  List.map_congr_left fun k hk => r8l_congr fun d _ => setI_ne T i c x (by have := List.mem_range.1 hk; omega)
theorem rowsL_get (n : Nat) (T : Nat → Nat → Int) (k : Nat) (hk : k < n) : (rowsL n T).getD k [] = r8l (T k) := by
  rw [rowsL, List.getD_eq_getElem?_getD, List.getElem?_map, List.getElem?_range hk]; rfl
def auOf (n : Nat) (T : Nat → Nat → Int) (F : List Bool) : Au := ⟨rowsL n T, F⟩
theorem auOf_len (n : Nat) (T : Nat → Nat → Int) (F : List Bool) : (auOf n T F).next.length = n := rowsL_len n T
theorem auOf_row (n : Nat) (T : Nat → Nat → Int) (F : List Bool) (k : Nat) (hk : k < n) : ((auOf n T F).next.getD k []).length = 8 := by
  show ((rowsL n T).getD k []).length = 8
  rw [rowsL_get n T k hk]; rfl
theorem auOf_to (n : Nat) (T : Nat → Nat → Int) (F : List Bool) (k c : Nat) (hk : k < n) (hc : c < 8) : (auOf n T F).to (k : Int) (c : Int) = T k c := by
  show ((rowsL n T).getD (k : Int).toNat []).getD (c : Int).toNat (-1) = _
  rw [Int.toNat_natCast, Int.toNat_natCast, rowsL_get n T k hk, r8l_get _ c hc]
theorem auOf_wide (n : Nat) (T : Nat → Nat → Int) (F : List Bool) : (auOf n T F).next.map wrow = (List.range n).map fun k => r8av (T k) := by
  show (rowsL n T).map wrow = _
  rw [rowsL, List.map_map]; rfl
theorem Bfs.len {w : Au} {cl : Nat → Int} {S : List Nat} {T : Nat → Nat → Int} {i c : Nat} (h : Bfs w cl S T i c) : S.length ≤ w.next.length :=
  pigeon w.next.length S.length (fun k => S.getD k 0) (fun k hk => (h.lt k hk).1) fun j k hj hk e => h.apart j k hj hk (by rw [show S.getD j 0 = S.getD k 0 from e])
theorem Bfs.made {w : Au} {cl : Nat → Int} {S : List Nat} {T : Nat → Nat → Int} (hs : w.Shape) (hc : w.Cls cl) (h : Bfs w cl S T S.length 0) (F : List Bool) (hF : F = S.map fun k => w.final.getD k false) : (auOf S.length T F).Canon ∧ ∀ u, (auOf S.length T F).acc 0 u ↔ w.acc 0 u :=
  Bfs.canon hs hc h (auOf_len _ _ _) hF (fun k hk => auOf_row _ _ _ k hk) (fun k c hk hc => auOf_to _ _ _ k c hk hc)
theorem Bfs.setI {w : Au} {cl : Nat → Int} {S : List Nat} {T : Nat → Nat → Int} {i c : Nat} (h : Bfs w cl S T i c) (x : Int) : Bfs w cl S (setI T i c x) i c :=
  h.congr fun i' c' hp _ => setI_ne T i c x (by omega)
theorem Bfs.plc {w : Au} {cl : Nat → Int} {S : List Nat} {T : Nat → Nat → Int} {i c : Nat} (h : Bfs w cl S T i c) {v : Int} {j : Nat} (hj : place v (S.map cl) = some j) : j < S.length ∧ cl (S.getD j 0) = v := by
  have h1 := place_lt hj
  rw [List.length_map] at h1
  have h2 := place_some hj
  rw [List.getElem?_map, List.getElem?_eq_getElem h1] at h2
  refine ⟨h1, ?_⟩
  rw [List.getD_eq_getElem?_getD, List.getElem?_eq_getElem h1]
  exact Option.some.inj h2
theorem Bfs.fresh {cl : Nat → Int} {S : List Nat} {v : Int} (hn : v ∉ S.map cl) : ∀ k, k < S.length → cl (S.getD k 0) ≠ v := fun k hk e => hn (by
  rw [← e]; exact List.mem_map_of_mem (getD_memG 0 S k hk))
end Au
end Go.Vl
end

section
set_option linter.unusedVariables false
set_option linter.unusedSimpArgs false
namespace Go.Vl
def sumN : Nat → (Nat → Nat) → Nat
  | 0, _ => 0
  | n + 1, f => sumN n f + f n
theorem sumN_congr {n : Nat} {f g : Nat → Nat} (h : ∀ k, k < n → f k = g k) : sumN n f = sumN n g := by
  induction n with
  | zero => rfl
  | succ n ih => rw [sumN, sumN, ih fun k hk => h k (by omega), h n (by omega)]
theorem sumN_zero (n : Nat) : sumN n (fun _ => 0) = 0 := by
  induction n with
  | zero => rfl
  | succ n ih => rw [sumN, ih]
theorem sumN_le {n t : Nat} (f : Nat → Nat) (h : t < n) : f t ≤ sumN n f := by
  induction n with
  | zero => omega
  | succ n ih =>
    rw [sumN]
    rcases Nat.lt_or_ge t n with h1 | h1
    · have := ih h1; omega
    · obtain rfl : t = n := by omega
      omega
theorem sumN_mono {i n : Nat} (f : Nat → Nat) (h : i ≤ n) : sumN i f ≤ sumN n f := by
  induction n with
  | zero => obtain rfl : i = 0 := by omega
            exact Nat.le_refl _
  | succ n ih =>
    rcases Nat.lt_or_ge i (n + 1) with h1 | h1
    · have := ih (by omega); rw [sumN]; omega
    · obtain rfl : i = n + 1 := by omega
      exact Nat.le_refl _
theorem sumN_upd {n t : Nat} (g h : Nat → Nat) (x : Nat) (ht : t < n) : sumN n (fun k => (if k = t then g k + x else g k) * h k) = sumN n (fun k => g k * h k) + x * h t := by
  induction n with
  | zero => omega
  | succ n ih =>
    rw [sumN, sumN]
    rcases Nat.lt_or_ge t n with h1 | h1
    · rw [ih h1, if_neg (by omega)]; omega
    · obtain rfl : t = n := by omega
      rw [if_pos rfl, sumN_congr (g := fun k => g k * h k) fun k hk => by rw [if_neg (by omega)], Nat.add_mul]; omega
theorem sumN_upd1 {n t : Nat} (g : Nat → Nat) (x : Nat) (ht : t < n) : sumN n (fun k => if k = t then g k + x else g k) = sumN n g + x := by
  have := sumN_upd g (fun _ => 1) x ht
  simpa using this
namespace Au
structure Ct (a : Au) (w g : Nat → Nat) (m i d : Nat) : Prop where
  dot : sumN a.next.length (fun k => g k * cnt a m (k : Int)) = sumN i (fun k => w k * cnt a (m + 1) (k : Int)) + w i * sumN d (fun c => cnt a m (a.to (i : Int) (c : Int)))
  tot : sumN a.next.length g ≤ 8 * sumN i w + d * w i
variable {a : Au} {w g : Nat → Nat} {m i d : Nat}
theorem Ct.start (a : Au) (w : Nat → Nat) (m : Nat) : Ct a w (fun _ => 0) m 0 0 :=
  ⟨by rw [sumN_congr (g := fun _ => 0) (fun k _ => Nat.zero_mul _), sumN_zero]; simp [sumN], by rw [sumN_zero]; omega⟩
theorem Ct.row (h : Ct a w g m i 8) : Ct a w g m (i + 1) 0 := by
  have h1 := h.dot
  have h2 := h.tot
  refine ⟨?_, ?_⟩
  · rw [h1]
    have e : cnt a (m + 1) (i : Int) = sumN 8 (fun c => cnt a m (a.to (i : Int) (c : Int))) := by
      rw [cnt, if_pos (by omega)]
      simp only [sum8, sumN, Nat.zero_add]
    show _ = (sumN i _ + w i * cnt a (m + 1) (i : Int)) + w (i + 1) * 0
    rw [e]; omega
  · rw [sumN]; omega
theorem Ct.skip (h : Ct a w g m i d) (hn : a.to (i : Int) (d : Int) < 0) : Ct a w g m i (d + 1) := by
  have h2 := h.tot
  refine ⟨by show _ = _ + w i * (sumN d _ + cnt a m (a.to (i : Int) (d : Int))); rw [cnt_neg hn, Nat.add_zero]; exact h.dot, ?_⟩
  rw [Nat.add_mul]; omega
theorem Ct.add (h : Ct a w g m i d) {t : Nat} (ht : t < a.next.length) (hto : a.to (i : Int) (d : Int) = (t : Int)) : Ct a w (fun k => if k = t then g k + w i else g k) m i (d + 1) := by
  have h2 := h.tot
  refine ⟨?_, ?_⟩
  · rw [sumN_upd g (fun k => cnt a m (k : Int)) (w i) ht, h.dot, sumN, hto, Nat.mul_add]; omega
  · rw [sumN_upd1 g (w i) ht, Nat.add_mul]; omega
theorem Ct.done (h : Ct a w g m a.next.length 0) : sumN a.next.length (fun k => g k * cnt a m (k : Int)) = sumN a.next.length (fun k => w k * cnt a (m + 1) (k : Int)) ∧ sumN a.next.length g ≤ 8 * sumN a.next.length w :=
  ⟨by rw [h.dot]; simp [sumN], by have := h.tot; omega⟩
structure Wy (a : Au) (long k : Nat) (w : Nat → Nat) : Prop where
  dot : sumN a.next.length (fun i => w i * cnt a (long - k) (i : Int)) = cnt a long 0
  tot : sumN a.next.length w ≤ 8 ^ k
theorem Wy.start (hp : 0 < a.next.length) (long : Nat) : Wy a long 0 (fun i => if i = 0 then 1 else 0) := by
  have e : (fun i => if i = 0 then 1 else 0) = fun i => if i = 0 then (fun _ => 0) i + 1 else (fun _ => 0) i := rfl
  refine ⟨?_, ?_⟩
  · have := sumN_upd (fun _ => 0) (fun i => cnt a (long - 0) (i : Int)) 1 hp
    rw [sumN_congr (g := fun _ => 0) (f := fun k => (fun _ => 0) k * _) (fun k _ => Nat.zero_mul _), sumN_zero] at this
    refine this.trans ?_
    simp
  · rw [e, sumN_upd1 _ 1 hp, sumN_zero]; decide
theorem Wy.step {long k : Nat} (h : Wy a long k w) (hk : k < long) (hc : Ct a w g (long - (k + 1)) a.next.length 0) : Wy a long (k + 1) g := by
  obtain ⟨h1, h2⟩ := hc.done
  refine ⟨?_, ?_⟩
  · rw [h1, show long - (k + 1) + 1 = long - k from by omega]; exact h.dot
  · have := h.tot; rw [Nat.pow_succ]; omega
theorem Wy.le {long k : Nat} (h : Wy a long k w) (hk : k ≤ 12) {i : Nat} (hi : i < a.next.length) : w i ≤ 68719476736 := by
  have h1 := sumN_le w hi
  have h2 := h.tot
  have h3 : 8 ^ k ≤ 8 ^ 12 := Nat.pow_le_pow_right (by decide) hk
  omega
theorem Ct.le {long k : Nat} (hw : Wy a long k w) (hk : k ≤ 12) (h : Ct a w g m i d) (hi : i < a.next.length) (hd : d < 8) {t : Nat} (ht : t < a.next.length) : g t ≤ 1099511627776 := by
  have h1 := sumN_le g ht
  have h2 := h.tot
  have h3 := hw.tot
  have h4 : 8 ^ k ≤ 8 ^ 12 := Nat.pow_le_pow_right (by decide) hk
  have h5 := sumN_mono w (Nat.le_of_lt hi)
  have h6 := sumN_le w hi
  have h7 : d * w i ≤ 8 * w i := Nat.mul_le_mul_right _ (by omega)
  omega
theorem Wy.last {long : Nat} (h : Wy a long long w) : sumN a.next.length (fun i => w i * cnt a 0 (i : Int)) = cnt a long 0 := by
  have := h.dot
  rwa [Nat.sub_self] at this
end Au
end Go.Vl
end

section
set_option linter.unusedVariables false
set_option linter.unusedSimpArgs false
set_option linter.unusedSectionVars false
namespace Go.Vl
open Go Go.Sem
section view
variable {x : Cx} {L : List (Tmp × Bool × AV)} {M : List ME} {ops : Array Oper} {Q : Exit → Act → World → Prop} {rest : List Oper} {ty : TypeId} {pos : String} {aft : Array Edge}
def SrcN (P : Program) (w : World) (N : List Nat) (k : Nat) (v : Value) (sn : Nat) (xs : List AV) : Prop :=
  (Builtin.lenOf v).run P w = .ok sn w ∧ xs.length ≤ sn ∧ ∃ news : Array Value, news.size = xs.length * k ∧ RepE w N k xs news.toList ∧ (∀ u ∈ news.toList, shV u = 0) ∧
    ∀ w' : World, w'.heap = w.heap → (Builtin.firstCells k xs.length v).run P w' = .ok news w'
theorem Src.toN {P : Program} {w : World} {N : List Nat} {k sn cap cap' : Nat} {ad : Option Addr} {xs : List AV} (h : Src P w N k (.slice ad xs.length cap) xs) (hs : xs.length ≤ sn) : SrcN P w N k (.slice ad sn cap') sn xs := by
  obtain ⟨_, news, h2, h3, h4, h5⟩ := h
  refine ⟨by simp [Builtin.lenOf], hs, news, h2, h3, h4, fun w' hw => ?_⟩
  have := h5 w' hw
  cases ad <;> simpa only [Builtin.firstCells] using this
theorem SrcN.to {P : Program} {w : World} {N : List Nat} {k : Nat} {v : Value} {xs : List AV} (h : SrcN P w N k v xs.length xs) : Src P w N k v xs := ⟨h.1, h.2.2⟩
def VwOv (x : Cx) (L : List (Tmp × Bool × AV)) (M : List ME) (o : Operand) (k sn : Nat) (xs : List AV) : Prop := ∀ a w, St x L M a w → SrcN x.P w (bl M ++ x.F) k (a.eval o) sn xs
theorem VwOv.own (i : Nat) {o : Operand} {g off n cap p sn c U k : Nat} {ad : Option Addr} {es xs : List AV} (h : Ov true L o (.lit (.slice ad sn c))) (ha : xs = [] ∨ ad = some ⟨g, off + p * k, none⟩) (hM : M[i]? = some (ME.arr (.slice (some ⟨g, off, none⟩) n cap) U k es)) (hx : xs = (es.drop p).take xs.length) (hp : p ≤ es.length) (hq : xs.length ≤ sn) (ho : ∀ e ∈ xs, e.okc = true) : VwOv x L M o k sn xs := by
  intro a w hs
  rw [h.lit rfl hs]
  refine Src.toN (cap := c) ?_ hq
  refine src_cells rfl ho ?_
  obtain ⟨ad, cp, e, h1, h2, h3⟩ := hs.mem.holds _ (List.mem_of_getElem? hM)
  cases e
  rcases h3 with ⟨h3, _⟩ | ⟨g', off', cur, lo, hi, h4, h5, _, _, h6⟩
  · cases h3
  · cases h4
    rcases ha with ha | ha
    · exact .inl ha
    refine .inr ⟨g, _, cur, U, (lo, hi), ha, h5, ?_⟩
    rw [hx, ← List.drop_drop]
    exact (h6.drop p hp).take _
theorem VwOv.box (i : Nat) {o : Operand} {b c U k : Nat} {cs : List AV} {e : AV} (h : Ov true L o (.lit (.slice (some ⟨b, 0, none⟩) 1 c))) (hM : M[i]? = some (ME.box b U cs)) (hk : cs.length = k) (he : e.cells = cs) (ho : e.okc = true) : VwOv x L M o k 1 [e] := by
  intro a w hs
  rw [h.lit rfl hs]
  refine Src.toN (cap := c) ?_ (by simp)
  refine src_cells rfl (by simpa using ho) (.inr ?_)
  obtain ⟨cur, h1, h2⟩ := hs.mem.holds _ (List.mem_of_getElem? hM)
  refine ⟨b, 0, cur, U, _, rfl, h1, ?_⟩
  have hl := h2.length
  rw [List.drop_zero]
  refine ⟨by omega, RepC.ofL ho ?_, trivial⟩
  rw [List.take_of_length_le (by omega), he]
  exact h2
theorem VwOv.src {o : Operand} {k : Nat} {xs : List AV} (h : SrcOv x L M o k xs) : VwOv x L M o k xs.length xs := fun a w hs => by
  have h1 := h.src hs
  exact ⟨h1.1, Nat.le_refl _, h1.2⟩

theorem run_copy {P : Program} {w : World} {T T' E k bytes : Nat} {z : Value} {g p dn dc lo hi sn : Nat} {cur : Array Value} {U : TypeId} {xv : Value} {N : List Nat} {xs : List AV} (hT : P.underlying T = some (.slice E)) (hE : Ty P E k bytes z)
    (hc : w.heap[g]? = some (.cells cur U (lo, hi))) (hsz : p + xs.length * k ≤ cur.size) (hfr : hi ≤ lo ∨ p + xs.length * k ≤ lo) (hx : SrcN P w N k xv sn xs) (hq : xs.length = Nat.min sn dn) :
    ∃ news : Array Value, news.size = xs.length * k ∧ RepE w N k xs news.toList ∧ (Builtin.copy_ #[T, T'] ty #[.slice (some ⟨g, p, none⟩) dn dc, xv]).run P w =
      .ok (.int .i64 (xs.length : Int)) { w with heap := w.heap.setIfInBounds g (.cells (wr cur p news.toList) U (lo, hi)) } := by
  obtain ⟨hlen, _, news, hn1, hn2, hn3, hn4⟩ := hx
  have hf := hn4 w rfl
  have hst := run_storeCells (P := P) (g := g) (off := p) (T := U) (lo := lo) (hi := hi) news.toList 0 cur w hc (by simp; omega) (by simp; omega) hn3
  refine ⟨news, hn1, hn2, ?_⟩
  rw [Nat.add_zero] at hst
  rw [hq] at hf
  simp only [Builtin.copy_, List.getElem?_toArray, List.getElem?_cons_zero, List.getElem?_cons_succ, Sem.run_bind, run_underlying hT, Result.andThen_ok, hE.size, hlen, hf, hst, Sem.run_pure, goInt, hq]

theorem RepE.over {w : World} {N : List Nat} {k j off : Nat} {es xs : List AV} {cur nl : List Value} (h : RepE w N k es (cur.drop off)) (hx : RepE w N k xs nl) (hn : nl.length = xs.length * k) (hj : j ≤ es.length) (hoff : off ≤ cur.length) :
    RepE w N k (es.take j ++ xs ++ es.drop (j + xs.length)) ((cur.take (off + j * k) ++ nl ++ cur.drop (off + j * k + nl.length)).drop off) := by
  have hlen := h.len
  have hjk : j * k ≤ es.length * k := Nat.mul_le_mul_right _ hj
  rw [List.length_drop] at hlen
  have e1 : (cur.take (off + j * k) ++ nl ++ cur.drop (off + j * k + nl.length)).drop off = (cur.drop off).take (j * k) ++ (nl ++ (cur.drop off).drop (j * k + nl.length)) := by
    rw [List.append_assoc, List.drop_append_of_le_length (by rw [List.length_take]; omega), List.drop_take, Nat.add_sub_cancel_left, List.drop_drop, Nat.add_assoc]
  rw [e1]
  have hS : (cur.drop off).length = cur.length - off := List.length_drop ..
  generalize cur.drop off = S at h hS
  have htl : (S.take (j * k)).length = j * k := by rw [List.length_take]; omega
  have hjl : (es.take j).length = j := by rw [List.length_take]; omega
  rw [List.append_assoc]
  refine RepE.append (RepE.congr (h.take j) ?_) ?_
  · rw [hjl, List.take_append_of_le_length (by omega), List.take_take, Nat.min_self]
  · rw [hjl, List.drop_append_of_le_length (by omega), List.drop_of_length_le (l := S.take (j * k)) (by omega), List.nil_append]
    refine RepE.append (RepE.congr hx (by rw [List.take_append_of_le_length (by omega)])) ?_
    rw [List.drop_append_of_le_length (by omega), List.drop_of_length_le (l := nl) (by omega), List.nil_append, hn, ← Nat.add_mul]
    by_cases hle : j + xs.length ≤ es.length
    · exact h.drop _ hle
    · rw [List.drop_of_length_le (by omega)]; simp [RepE]

theorem W.copy (i : Nat) {d : Tmp} {T T' E k bytes : Nat} {z : Value} {o1 o2 : Operand} {g off n cap j dn dc sn U : Nat} {es xs : List AV} (h1 : Ov true L o1 (.lit (.slice (some ⟨g, off + j * k, none⟩) dn dc))) (hM : M[i]? = some (ME.arr (.slice (some ⟨g, off, none⟩) n cap) U k es)) (h2 : VwOv x L M o2 k sn xs)
    (hT : x.P.underlying T = some (.slice E)) (hE : Ty x.P E k bytes z) (hq : xs.length = Nat.min sn dn) (hj : j ≤ es.length) (hc : j + xs.length ≤ cap) {n' : Nat} {es' : List AV} (he' : es' = es.take j ++ xs ++ es.drop (j + xs.length)) (hn' : n' = es'.length) (hd : Nat.blt d x.n = true)
    (next : W x ((d, true, .lit (.int .i64 (xs.length : Int))) :: L) (M.set i (ME.arr (.slice (some ⟨g, off, none⟩) n' cap) U k es')) (wpList x.P ops Q rest)) :
    W x L M (wpList x.P ops Q (⟨some d, .call ⟨.builtin .copy, #[o1, o2], #[T, T']⟩, ty, pos, aft, none⟩ :: rest)) := by
  subst he'
  refine W.opv (ι := Unit) (fun _ => M.set i (ME.arr (.slice (some ⟨g, off, none⟩) n' cap) U k (es.take j ++ xs ++ es.drop (j + xs.length)))) (fun _ => .lit (.int .i64 (xs.length : Int))) hd ?_ (fun _ => next); intro a w hs
  have hsrc := h2 a w hs
  have e1 := h1.lit rfl hs
  obtain ⟨ad, cp, e, hlc, hcm, hcase⟩ := hs.mem.holds _ (List.mem_of_getElem? hM)
  cases e
  rcases hcase with ⟨h3, _⟩ | ⟨g', off', cur, lo, hi, h4, hcur, hsz, hfr, hrE⟩
  · cases h3
  cases h4
  have hmul : (j + xs.length) * k ≤ cap * k := Nat.mul_le_mul_right _ hc
  rw [Nat.add_mul] at hmul
  obtain ⟨news, hn1, hn2, hrun⟩ := run_copy (ty := ty) (T' := T') (dc := dc) hT hE hcur (p := off + j * k) (by omega) (by omega) hsrc hq
  have hlt : (es.take j ++ xs ++ es.drop (j + xs.length)).length ≤ cap := by simp only [List.length_append, List.length_take, List.length_drop]; omega
  refine ⟨.int .i64 (xs.length : Int), { w with heap := w.heap.setIfInBounds g (.cells (wr cur (off + j * k) news.toList) U (lo, hi)) }, (), ?_, ?_, Rep.lit _⟩
  · simp only [execOp, resolve, invoke, builtin, Sem.run_bind, Sem.run_pure, Result.andThen_ok, List.map_toArray, List.map_cons, List.map_nil, e1, hrun]
  · refine hs.write hM rfl rfl ?_
    intro w' hother hnew hk'
    have hnl : news.toList.length = xs.length * k := by simpa using hn1
    refine ⟨some ⟨g, off, none⟩, cap, by rw [hn'], hlt, hcm, .inr ⟨g, off, _, lo, hi, rfl, hnew, ?_, hfr, ?_⟩⟩
    · rw [wr_size _ _ _ (by omega)]; exact hsz
    · simp only [wr, List.toList_toArray]
      exact RepE.over (RepE.keep hk' _ _ _ hrE) (RepE.keep hk' _ _ _ hn2) hnl hj (by simp; omega)

theorem run_boundsC {g : Bool} {len cap : Nat} {lo hi : Option Operand} {l h : Int} {a : Act} {w : World} (hst : St x L M a w) (hg : g = true) (hlo : BndOv g L 0 lo l) (hhi : BndOv g L len hi h) (h0 : 0 ≤ l) (h1 : l ≤ h) (h2 : h ≤ cap) :
    (Instr.sliceBounds true len cap (lo.map a.eval) (hi.map a.eval) none).run x.P w = .ok (l.toNat, h.toNat, cap) w := by
  have hb : ∀ (n : Int) (y : Nat) c, 0 ≤ n → n ≤ y → (Instr.sliceBound (.int .i64 n) y c).run x.P w = .ok n.toNat w := fun n y c hn hy => by
    simp [Instr.sliceBound, asIntOf, hn, hy]
  unfold Instr.sliceBounds
  cases lo with
  | none =>
    simp only [BndOv] at hlo
    subst hlo
    cases hi with
    | none =>
      simp only [BndOv] at hhi
      subst hhi
      simp
    | some o =>
      have e := hhi.lit hg hst
      simp only [Option.map_none, Option.map_some, e, Sem.run_bind, Sem.run_pure, Result.andThen_ok]
      rw [hb _ _ _ (by omega) (by omega)]
      simp
  | some o' =>
    have e' := hlo.lit hg hst
    cases hi with
    | none =>
      simp only [BndOv] at hhi
      subst hhi
      simp only [Option.map_none, Option.map_some, e', Sem.run_bind, Sem.run_pure, Result.andThen_ok]
      rw [hb _ _ _ (by omega) (by omega)]
      simp
    | some o =>
      have e := hhi.lit hg hst
      simp only [Option.map_some, e, e', Sem.run_bind, Sem.run_pure, Result.andThen_ok]
      rw [hb _ _ _ (by omega) (by omega)]
      simp only [Result.andThen_ok]
      rw [hb _ _ _ (by omega) (by omega)]
      simp
theorem Ev.slit {g : Bool} {T E k bytes : Nat} {z : Value} {o1 : Operand} {lo hi : Option Operand} {i j : Int} {ad : Option Addr} {n cap : Nat} {v : Value} (h1 : Ov g L o1 (.lit (.slice ad n cap))) (hT : x.P.underlying T = some (.slice E)) (hE : Ty x.P E k bytes z) (hlo : BndOv g L 0 lo i) (hhi : BndOv g L (n : Int) hi j)
    (hb : g = true → 0 ≤ i ∧ i ≤ j ∧ j ≤ cap) (hv : v = .slice (if cap = i.toNat then ad else ad.map (·.add (i.toNat * k))) (j.toNat - i.toNat) (cap - i.toNat)) : Ev x g L M (.slice T o1 lo hi none) ty (.lit v) := Ev.pure fun a w hs hg => by
  obtain ⟨b1, b2, b3⟩ := hb hg
  have hr := run_boundsC (len := n) (cap := cap) hs hg hlo hhi b1 b2 b3
  subst hv
  simp only [execOp, h1.lit hg hs, Option.map_none, Instr.sliceAt, Instr.slice, Sem.run_bind, run_underlying hT, Result.andThen_ok, hr, hE.size, Sem.run_pure]
theorem Ev.slitp {g : Bool} {T E k bytes : Nat} {z : Value} {o1 : Operand} {lo hi : Option Operand} {i j : Int} {b off n cap p q : Nat} (h1 : Ov g L o1 (.lit (.slice (some ⟨b, off, none⟩) n cap))) (hT : x.P.underlying T = some (.slice E)) (hE : Ty x.P E k bytes z) (hlo : BndOv g L 0 lo i) (hhi : BndOv g L (n : Int) hi j)
    (hi' : i = (p : Int)) (hj : j = (q : Int)) (hb : p < cap ∧ p ≤ q ∧ q ≤ cap) : Ev x g L M (.slice T o1 lo hi none) ty (.lit (.slice (some ⟨b, off + p * k, none⟩) (q - p) (cap - p))) := by
  subst hi'; subst hj
  refine Ev.slit h1 hT hE hlo hhi (fun _ => by omega) ?_
  rw [if_neg (by simp; omega)]
  simp [Addr.add_lit]
theorem Ev.slit0 {g : Bool} {T E k bytes : Nat} {z : Value} {o1 : Operand} {hi : Option Operand} {j : Int} {b off n cap q : Nat} (h1 : Ov g L o1 (.lit (.slice (some ⟨b, off, none⟩) n cap))) (hT : x.P.underlying T = some (.slice E)) (hE : Ty x.P E k bytes z) (hhi : BndOv g L (n : Int) hi j)
    (hj : j = (q : Int)) (hb : q ≤ cap) : Ev x g L M (.slice T o1 none hi none) ty (.lit (.slice (some ⟨b, off, none⟩) q cap)) := by
  subst hj
  refine Ev.slit (i := 0) h1 hT hE rfl hhi (fun _ => by omega) ?_
  simp [Addr.add_lit]
theorem W.arr_lit {R : Act → World → Prop} (i : Nat) {v : Value} {U k : Nat} {es : List AV} (hM : M[i]? = some (.arr v U k es)) (hes : 0 < es.length) (h : ∀ g off c, v = .slice (some ⟨g, off, none⟩) es.length c → es.length ≤ c → c ≤ maxLen → W x L M R) : W x L M R := fun a w hs => by
  obtain ⟨ad, cap, e, h1, h2, h3⟩ := hs.mem.holds _ (List.mem_of_getElem? hM)
  rcases h3 with ⟨_, h3⟩ | ⟨g, off, cur, lo, hi, rfl, _⟩
  · omega
  · exact h _ _ _ e h1 h2 a w hs
theorem W.opn {ι : Type} {op : Op} (Mf : ι → List ME)
    (step : ∀ a w, St x L M a w → ∃ w' v z, (execOp a.eval ⟨none, op, ty, "", #[], none⟩).run x.P w = .ok (.value v) w' ∧ St x L (Mf z) a w')
    (next : ∀ z, W x L (Mf z) (wpList x.P ops Q rest)) : W x L M (wpList x.P ops Q (⟨none, op, ty, pos, aft, none⟩ :: rest)) := by
  intro a w hs
  obtain ⟨w', v, z, hr, hs'⟩ := step a w hs
  refine wpList_cons_want (by simp [Region.wanted]) ?_
  unfold Oper.wp
  rw [execOp_bare, hr]
  exact next z _ _ hs'
theorem W.clear (i : Nat) {T E k bytes : Nat} {z : Value} {o1 : Operand} {g off n cap j m c U : Nat} {es : List AV} (h1 : Ov true L o1 (.lit (.slice (some ⟨g, off + j * k, none⟩) m c))) (hM : M[i]? = some (ME.arr (.slice (some ⟨g, off, none⟩) n cap) U k es))
    (hT : x.P.underlying T = some (.slice E)) (hE : Ty x.P E k bytes z) (hzk : z.cells.size = k) (hz : z.cells.toList.all (fun v => shV v == 0) = true) (hj : es.length ≤ j) (hc : j + m ≤ cap)
    (next : W x L M (wpList x.P ops Q rest)) :
    W x L M (wpList x.P ops Q (⟨none, .call ⟨.builtin .clear, #[o1], #[T]⟩, ty, pos, aft, none⟩ :: rest)) := by
  have hset := set_self hM
  rw [← hset] at next
  refine W.opn (ι := Unit) (fun _ => M.set i (ME.arr (.slice (some ⟨g, off, none⟩) n cap) U k es)) ?_ (fun _ => next); intro a w hs
  have e1 := h1.lit rfl hs
  obtain ⟨ad, cp, e, hlc, hcm, hcase⟩ := hs.mem.holds _ (List.mem_of_getElem? hM)
  cases e
  rcases hcase with ⟨h3, _⟩ | ⟨g', off', cur, lo, hi, h4, hcur, hsz, hfr, hrE⟩
  · cases h3
  cases h4
  by_cases hm : m = 0
  · subst hm
    refine ⟨w, .tuple #[], (), ?_, by rw [hset]; exact hs⟩
    simp [execOp, resolve, invoke, builtin, e1, Builtin.clear_, run_underlying hT]
  · have hzs : (Builtin.zeroCells z.cells m).size = m * k := by simp [Builtin.zeroCells, hzk]
    have hmul : (j + m) * k ≤ cap * k := Nat.mul_le_mul_right _ hc
    rw [Nat.add_mul] at hmul
    have hzl : (Builtin.zeroCells z.cells m).toList.length = m * k := by rw [Array.length_toList]; exact hzs
    have hz0 : ∀ u ∈ (Builtin.zeroCells z.cells m).toList, shV u = 0 := by
      intro u hu
      simp only [Builtin.zeroCells, Array.toList_map, List.mem_map] at hu
      obtain ⟨q, hq, rfl⟩ := hu
      have hq' : q < m * z.cells.size := by simpa using hq
      have hpos : 0 < z.cells.size := by rcases Nat.eq_zero_or_pos z.cells.size with h | h; rw [h] at hq'; omega; exact h
      have hlt : q % z.cells.size < z.cells.size := Nat.mod_lt _ hpos
      rw [List.all_eq_true] at hz
      have := hz (z.cells[q % z.cells.size]!) (by rw [Array.mem_toList_iff, getElem!_pos z.cells _ hlt]; exact Array.getElem_mem hlt)
      simpa using this
    have hst := run_storeCells (P := x.P) (g := g) (off := off + j * k) (T := U) (lo := lo) (hi := hi) (Builtin.zeroCells z.cells m).toList 0 cur w hcur (by omega) (by omega) hz0
    rw [Nat.add_zero] at hst
    refine ⟨{ w with heap := w.heap.setIfInBounds g (.cells (wr cur (off + j * k) (Builtin.zeroCells z.cells m).toList) U (lo, hi)) }, .tuple #[], (), ?_, ?_⟩
    · simp only [execOp, resolve, invoke, builtin, Sem.run_bind, Sem.run_pure, Result.andThen_ok, List.map_toArray, List.map_cons, List.map_nil, e1, Builtin.clear_, List.getElem?_toArray, List.getElem?_cons_zero, run_underlying hT]
      cases m with
      | zero => exact absurd rfl hm
      | succ m => simp only [Sem.run_bind, hE.zero, Result.andThen_ok, hst, Sem.run_pure]
    · refine hs.write hM rfl rfl ?_
      intro w' hother hnew hk'
      have hlen := hrE.len
      have hjm : es.length * k ≤ j * k := Nat.mul_le_mul_right _ hj
      refine ⟨some ⟨g, off, none⟩, cap, rfl, hlc, hcm, .inr ⟨g, off, _, lo, hi, rfl, hnew, ?_, hfr, ?_⟩⟩
      · rw [wr_size _ _ _ (by omega)]; exact hsz
      · refine RepE.congr (RepE.keep hk' _ _ _ hrE) ?_
        have hcl : cur.toList.length = cur.size := Array.length_toList
        simp only [wr, List.toList_toArray]
        rw [List.append_assoc, List.drop_append_of_le_length (by simp; omega), List.drop_take, Nat.add_sub_cancel_left, List.take_append_of_le_length (by simp; omega), List.take_take, Nat.min_eq_left hjm]
theorem RepC.zero {w : World} {N : List Nat} {z : Value} {e : AV} (hz : z.cells.toList.all (fun v => shV v == 0) = true) (he : e = match z.cells.toList with | [v] => if shV z == 1 then .agg [.lit v] else .lit v | l => .agg (l.map .lit)) : RepC w N e z.cells.toList := by
  have hL : ∀ l : List Value, l.all (fun v => shV v == 0) = true → RepL w N (l.map .lit) l := by
    intro l
    induction l with
    | nil => intro _; simp [RepL]
    | cons v l ih =>
      intro hz
      simp only [List.all_cons, Bool.and_eq_true, beq_iff_eq] at hz
      simp only [List.map_cons, RepL]
      exact ⟨v, l, rfl, ⟨hz.1, hz.1, by simp only [RepC, cells_of_sh hz.1]⟩, ih hz.2⟩
  subst he
  have := hL _ hz
  revert this hz
  generalize z.cells.toList = l
  intro hz this
  match l with
  | [] => simpa [RepC] using this
  | [v] =>
    simp only [List.all_cons, List.all_nil, Bool.and_true, beq_iff_eq] at hz
    dsimp only
    split
    · simpa only [RepC, List.map_cons, List.map_nil] using this
    · simp only [RepC, cells_of_sh hz]
  | u :: v :: l => simpa only [RepC] using this
end view
end Go.Vl
end

section
set_option linter.unusedVariables false
set_option linter.unusedSimpArgs false
set_option linter.unusedSectionVars false
namespace Go.Vl
def tailV (g off k n cap : Nat) : Value := .slice (if cap = 1 then some ⟨g, off, none⟩ else some ⟨g, off + 1 * k, none⟩) (n - 1) (cap - 1)
def qav (q : Nat × List Int) : AV := .agg [.int (q.1 : Int), .sl 1 (q.2.map AV.int)]
end Go.Vl
end

section
set_option linter.unusedVariables false
set_option linter.unusedSimpArgs false
namespace Go.Vl
abbrev natv (n : Nat) : AV := .int (n : Int)
theorem okc_natv (l : List Nat) : ∀ e ∈ l.map natv, e.okc = true := by
  intro e he
  obtain ⟨k, _, rfl⟩ := List.mem_map.1 he
  rfl
theorem getD_set {α : Type} (l : List α) (r : Nat) (x z : α) (p : Nat) : (l.set r x).getD p z = if p = r ∧ r < l.length then x else l.getD p z := by
  rw [List.getD_eq_getElem?_getD, List.getElem?_set, List.getD_eq_getElem?_getD]
  by_cases h : r = p
  · subst h
    by_cases h2 : r < l.length
    · rw [if_pos rfl, if_pos h2, if_pos ⟨rfl, h2⟩]; rfl
    · rw [if_pos rfl, if_neg h2, if_neg (fun h => h2 h.2), List.getElem?_eq_none (by omega)]
  · rw [if_neg h, if_neg (fun h' => h h'.1.symm)]
theorem getD_over {α : Type} (l : List α) (z : α) {p : Nat} (h : l.length ≤ p) : l.getD p z = z := by
  rw [List.getD_eq_getElem?_getD, List.getElem?_eq_none h]; rfl
theorem getD_app {α : Type} (l m : List α) (z : α) {p : Nat} (h : p < l.length) : (l ++ m).getD p z = l.getD p z := by
  rw [List.getD_eq_getElem?_getD, List.getElem?_append_left h, List.getD_eq_getElem?_getD]
abbrev Fol := List (List Nat)
structure LnkP (F F' : Fol) (fr to : List Nat) (i j : Nat) : Prop where
  len : F'.length = F.length
  mem : ∀ p q, p < F.length → (q ∈ F'.getD p [] ↔ q ∈ F.getD p [] ∨ (p ∈ fr.take i ∧ q ∈ to) ∨ (i < fr.length ∧ p = fr.getD i 0 ∧ q ∈ to.take j))
  keep : ∀ p, p ∉ fr → F'.getD p [] = F.getD p []
  nodup : ∀ p, (F.getD p []).Nodup → (F'.getD p []).Nodup
structure Lnk (F F' : Fol) (fr to : List Nat) : Prop where
  len : F'.length = F.length
  mem : ∀ p q, p < F.length → (q ∈ F'.getD p [] ↔ q ∈ F.getD p [] ∨ (p ∈ fr ∧ q ∈ to))
  keep : ∀ p, p ∉ fr → F'.getD p [] = F.getD p []
  nodup : ∀ p, (F.getD p []).Nodup → (F'.getD p []).Nodup
section lnk
variable {F F' : Fol} {fr to : List Nat} {i j : Nat}
theorem LnkP.start (F : Fol) (fr to : List Nat) : LnkP F F fr to 0 0 := ⟨rfl, fun p q _ => by simp, fun _ _ => rfl, fun _ h => h⟩
theorem LnkP.row (h : LnkP F F' fr to i to.length) (hi : i < fr.length) : LnkP F F' fr to (i + 1) 0 := by
  refine ⟨h.len, fun p q hp => ?_, h.keep, h.nodup⟩
  rw [h.mem p q hp, take_getDG 0 fr i hi, List.mem_append, List.mem_singleton, List.take_length, List.take_zero]
  constructor
  · rintro (h1 | ⟨h1, h2⟩ | ⟨_, h1, h2⟩)
    · exact .inl h1
    · exact .inr (.inl ⟨.inl h1, h2⟩)
    · exact .inr (.inl ⟨.inr h1, h2⟩)
  · rintro (h1 | ⟨h1 | h1, h2⟩ | ⟨_, _, h2⟩)
    · exact .inl h1
    · exact .inr (.inl ⟨h1, h2⟩)
    · exact .inr (.inr ⟨hi, h1, h2⟩)
    · cases h2
theorem LnkP.skip (h : LnkP F F' fr to i j) (hi : i < fr.length) (hj : j < to.length) (hr : fr.getD i 0 < F.length) (hk : to.getD j 0 ∈ F'.getD (fr.getD i 0) []) : LnkP F F' fr to i (j + 1) := by
  refine ⟨h.len, fun p q hp => ?_, h.keep, h.nodup⟩
  rw [take_getDG 0 to j hj, List.mem_append, List.mem_singleton]
  constructor
  · intro hq
    rcases (h.mem p q hp).1 hq with h1 | h1 | ⟨h1, h2, h3⟩
    · exact .inl h1
    · exact .inr (.inl h1)
    · exact .inr (.inr ⟨h1, h2, .inl h3⟩)
  · rintro (h1 | h1 | ⟨h1, h2, h3 | h3⟩)
    · exact (h.mem p q hp).2 (.inl h1)
    · exact (h.mem p q hp).2 (.inr (.inl h1))
    · exact (h.mem p q hp).2 (.inr (.inr ⟨h1, h2, h3⟩))
    · rw [h3, h2]; exact hk
theorem LnkP.add (h : LnkP F F' fr to i j) (hi : i < fr.length) (hj : j < to.length) (hr : fr.getD i 0 < F.length) (hk : to.getD j 0 ∉ F'.getD (fr.getD i 0) []) :
    LnkP F (F'.set (fr.getD i 0) (F'.getD (fr.getD i 0) [] ++ [to.getD j 0])) fr to i (j + 1) := by
  have hg : ∀ p, (F'.set (fr.getD i 0) (F'.getD (fr.getD i 0) [] ++ [to.getD j 0])).getD p [] = if p = fr.getD i 0 then F'.getD (fr.getD i 0) [] ++ [to.getD j 0] else F'.getD p [] := fun p => by
    rw [getD_set]
    by_cases e : p = fr.getD i 0
    · rw [if_pos e, if_pos ⟨e, by rw [h.len]; exact hr⟩]
    · rw [if_neg e, if_neg (fun h => e h.1)]
  refine ⟨by rw [List.length_set]; exact h.len, fun p q hp => ?_, fun p hp => ?_, fun p hp => ?_⟩
  · rw [hg, take_getDG 0 to j hj, List.mem_append, List.mem_singleton]
    by_cases e : p = fr.getD i 0
    · rw [if_pos e, List.mem_append, List.mem_singleton, ← e, h.mem p q hp]
      constructor
      · rintro ((h1 | h1 | ⟨h1, h2, h3⟩) | h1)
        · exact .inl h1
        · exact .inr (.inl h1)
        · exact .inr (.inr ⟨h1, rfl, .inl h3⟩)
        · exact .inr (.inr ⟨hi, rfl, .inr h1⟩)
      · rintro (h1 | h1 | ⟨h1, h2, h3 | h3⟩)
        · exact .inl (.inl h1)
        · exact .inl (.inr (.inl h1))
        · exact .inl (.inr (.inr ⟨h1, e, h3⟩))
        · exact .inr h3
    · rw [if_neg e, h.mem p q hp]
      constructor
      · rintro (h1 | h1 | ⟨h1, h2, h3⟩)
        · exact .inl h1
        · exact .inr (.inl h1)
        · exact absurd h2 e
      · rintro (h1 | h1 | ⟨h1, h2, h3⟩)
        · exact .inl h1
        · exact .inr (.inl h1)
        · exact absurd h2 e
  · have e : p ≠ fr.getD i 0 := fun e => hp (e ▸ getD_memG 0 fr i hi)
    rw [hg, if_neg e]; exact h.keep p hp
  · rw [hg]
    split
    · rename_i e
      have := h.nodup p hp
      rw [e] at this
      exact List.nodup_append.2 ⟨this, by simp, fun a ha b hb e => hk (by rw [← List.mem_singleton.1 hb, ← e]; exact ha)⟩
    · exact h.nodup p hp
theorem LnkP.done (h : LnkP F F' fr to fr.length 0) : Lnk F F' fr to := by
  refine ⟨h.len, fun p q hp => ?_, h.keep, h.nodup⟩
  rw [h.mem p q hp, List.take_length]
  constructor
  · rintro (h1 | h1 | ⟨h1, _⟩)
    · exact .inl h1
    · exact .inr h1
    · omega
  · rintro (h1 | h1)
    · exact .inl h1
    · exact .inr (.inl h1)
end lnk
def tyOf (tys : List Int) (p : Nat) : Int := tys.getD p 0
def glOf (b : Nat) (F : Fol) (fi la : List Nat) (no : Bool) : Gl := ⟨fun p => p ∈ fi, fun p => p ∈ la, no = true, fun p q => b ≤ p ∧ q ∈ F.getD p []⟩
structure Pl (t0 : List Int) (F0 : Fol) (t : List Int) (F : Fol) (fi la : List Nat) (no : Bool) (A : Lg) : Prop where
  ext : ∃ u, t = t0 ++ u
  len : F.length = t.length
  old : ∀ p, p < t0.length → F.getD p [] = F0.getD p []
  inn : (glOf t0.length F fi la no).In t0.length t.length
  lang : (glOf t0.length F fi la no).lg (tyOf t) = A
  nodup : ∀ p, t0.length ≤ p → (F.getD p []).Nodup
  lf : fi.length + t0.length ≤ t.length
  ll : la.length + t0.length ≤ t.length
section pl
variable {t0 t1 t2 : List Int} {F0 F1 F2 F3 : Fol} {f1 l1 f2 l2 : List Nat} {n1 n2 : Bool} {A B : Lg}
theorem Pl.le (h : Pl t0 F0 t1 F1 f1 l1 n1 A) : t0.length ≤ t1.length := by
  obtain ⟨u, rfl⟩ := h.ext; rw [List.length_append]; omega
theorem Pl.nothing (h0 : F0.length = t0.length) (no : Bool) : Pl t0 F0 t0 F0 [] [] no (if no = true then Lg.eps else Lg.none) := by
  have e : glOf t0.length F0 [] [] no = Gl.nothing (no = true) := Gl.ext' (fun p => by simp [glOf, Gl.nothing]) (fun p => by simp [glOf, Gl.nothing]) Iff.rfl (fun p q => by
    simp only [glOf, Gl.nothing, iff_false]
    rintro ⟨h1, h2⟩
    rw [getD_over F0 [] (by omega)] at h2; cases h2)
  refine ⟨⟨[], by simp⟩, h0, fun _ _ => rfl, by rw [e]; exact Gl.nothing_in _ _, ?_, fun p hp => by rw [getD_over F0 [] (by omega)]; exact List.nodup_nil, by simp, by simp⟩
  rw [e]
  cases no with
  | true => rw [if_pos rfl, show (true = true) = True from eq_self _]; exact Gl.eps_lg _
  | false => rw [if_neg (by decide), show (false = true) = False from by simp]; exact Gl.none_lg _
theorem Pl.one (h0 : F0.length = t0.length) (c : Int) : Pl t0 F0 (t0 ++ [c]) (F0 ++ [[]]) [t0.length] [t0.length] false (Lg.one c) := by
  have hF : ∀ p, t0.length ≤ p → (F0 ++ [[]]).getD p [] = [] := fun p hp => by
    rcases Nat.lt_or_ge p (F0.length + 1) with h | h
    · obtain rfl : p = F0.length := by omega
      rw [List.getD_eq_getElem?_getD, List.getElem?_append_right (Nat.le_refl _), Nat.sub_self]; rfl
    · exact getD_over _ _ (by rw [List.length_append, List.length_singleton]; exact h)
  have e : glOf t0.length (F0 ++ [[]]) [t0.length] [t0.length] false = Gl.one t0.length := Gl.ext' (fun p => by simp [glOf, Gl.one]) (fun p => by simp [glOf, Gl.one]) (by simp [glOf, Gl.one]) (fun p q => by
    simp only [glOf, Gl.one, iff_false]
    rintro ⟨h1, h2⟩
    rw [hF p h1] at h2; cases h2)
  refine ⟨⟨[c], rfl⟩, by rw [List.length_append, List.length_append, h0]; rfl, fun p hp => getD_app _ _ _ (by omega), ?_, ?_, fun p hp => by rw [hF p hp]; exact List.nodup_nil, ?_, ?_⟩
  · rw [e, List.length_append, List.length_singleton]
    refine ⟨fun p hp => ?_, fun p hp => ?_, fun p q h => h.elim⟩
    · have hp : p = t0.length := hp
      omega
    · have hp : p = t0.length := hp
      omega
  · rw [e, Gl.one_lg]
    congr 1
    unfold tyOf
    rw [List.getD_eq_getElem?_getD, List.getElem?_append_right (Nat.le_refl _), Nat.sub_self]; rfl
  · rw [List.length_append]; simp; omega
  · rw [List.length_append]; simp; omega
theorem Pl.ty (h : Pl t0 F0 t1 F1 f1 l1 n1 A) {t : List Int} (hx : ∃ u, t = t1 ++ u) : (glOf t0.length F1 f1 l1 n1).lg (tyOf t) = A := by
  rw [← h.lang]
  obtain ⟨u, rfl⟩ := hx
  exact Gl.lg_ty h.inn fun p _ hp => getD_app _ _ _ hp
theorem Pl.exts (h1 : Pl t0 F0 t1 F1 f1 l1 n1 A) (h2 : Pl t1 F1 t2 F2 f2 l2 n2 B) : ∃ u, t2 = t0 ++ u := by
  obtain ⟨u, rfl⟩ := h1.ext
  obtain ⟨v, e⟩ := h2.ext
  exact ⟨u ++ v, by rw [e, List.append_assoc]⟩
theorem Pl.fols (h1 : Pl t0 F0 t1 F1 f1 l1 n1 A) (h2 : Pl t1 F1 t2 F2 f2 l2 n2 B) (p q : Nat) : (t0.length ≤ p ∧ q ∈ F2.getD p []) ↔ (t0.length ≤ p ∧ q ∈ F1.getD p []) ∨ (t1.length ≤ p ∧ q ∈ F2.getD p []) := by
  have hle := h1.le
  constructor
  · rintro ⟨a, b⟩
    rcases Nat.lt_or_ge p t1.length with h | h
    · exact .inl ⟨a, by rw [← h2.old p h]; exact b⟩
    · exact .inr ⟨h, b⟩
  · rintro (⟨a, b⟩ | ⟨a, b⟩)
    · rcases Nat.lt_or_ge p t1.length with h | h
      · exact ⟨a, by rw [h2.old p h]; exact b⟩
      · rw [getD_over F1 [] (by rw [h1.len]; exact h)] at b; cases b
    · exact ⟨by omega, b⟩
theorem Pl.or (h1 : Pl t0 F0 t1 F1 f1 l1 n1 A) (h2 : Pl t1 F1 t2 F2 f2 l2 n2 B) : Pl t0 F0 t2 F2 (f1 ++ f2) (l1 ++ l2) (n1 || n2) (Lg.alt A B) := by
  have hl1 := h1.le
  have hl2 := h2.le
  have e : glOf t0.length F2 (f1 ++ f2) (l1 ++ l2) (n1 || n2) = Gl.or (glOf t0.length F1 f1 l1 n1) (glOf t1.length F2 f2 l2 n2) :=
    Gl.ext' (fun p => by simp [glOf, Gl.or]) (fun p => by simp [glOf, Gl.or]) (by simp [glOf, Gl.or]) (fun p q => h1.fols h2 p q)
  refine ⟨h1.exts h2, h2.len, fun p hp => by rw [h2.old p (by omega), h1.old p hp], by rw [e]; exact Gl.or_in h1.inn h2.inn hl1 hl2, ?_, fun p hp => ?_, ?_, ?_⟩
  · rw [e, Gl.or_lg h1.inn h2.inn, h1.ty h2.ext, h2.lang]
  · rcases Nat.lt_or_ge p t1.length with h | h
    · rw [h2.old p h]; exact h1.nodup p hp
    · exact h2.nodup p h
  · rw [List.length_append]; have := h1.lf; have := h2.lf; omega
  · rw [List.length_append]; have := h1.ll; have := h2.ll; omega
theorem Pl.seq (h1 : Pl t0 F0 t1 F1 f1 l1 n1 A) (h2 : Pl t1 F1 t2 F2 f2 l2 n2 B) (hk : Lnk F2 F3 l1 f2) : Pl t0 F0 t2 F3 (if n1 = true then f1 ++ f2 else f1) ((if n2 = true then l1 else []) ++ l2) (n1 && n2) (Lg.cat A B) := by
  have hl1 := h1.le
  have hl2 := h2.le
  have hin1 : ∀ p, p ∈ l1 → t0.length ≤ p ∧ p < t1.length := fun p hp => h1.inn.L p hp
  have hmem : ∀ p q, q ∈ F3.getD p [] ↔ q ∈ F2.getD p [] ∨ (p ∈ l1 ∧ q ∈ f2) := fun p q => by
    rcases Nat.lt_or_ge p F2.length with h | h
    · exact hk.mem p q h
    · rw [getD_over F3 [] (by rw [hk.len]; exact h), getD_over F2 [] h]
      constructor
      · intro h; cases h
      · rintro (h' | ⟨h', _⟩)
        · cases h'
        · have := hin1 p h'; rw [h2.len] at h; omega
  have e : glOf t0.length F3 (if n1 = true then f1 ++ f2 else f1) ((if n2 = true then l1 else []) ++ l2) (n1 && n2) = Gl.seq (glOf t0.length F1 f1 l1 n1) (glOf t1.length F2 f2 l2 n2) := by
    refine Gl.ext' (fun p => ?_) (fun p => ?_) (by simp [glOf, Gl.seq]) (fun p q => ?_)
    · simp only [glOf, Gl.seq]
      cases n1 <;> simp
    · simp only [glOf, Gl.seq]
      cases n2 <;> simp
    · show (t0.length ≤ p ∧ q ∈ F3.getD p []) ↔ ((t0.length ≤ p ∧ q ∈ F1.getD p []) ∨ (t1.length ≤ p ∧ q ∈ F2.getD p [])) ∨ (p ∈ l1 ∧ q ∈ f2)
      rw [hmem, ← h1.fols h2 p q]
      constructor
      · rintro ⟨a, b | b⟩
        · exact .inl ⟨a, b⟩
        · exact .inr b
      · rintro (⟨a, b⟩ | b)
        · exact ⟨a, .inl b⟩
        · exact ⟨(hin1 p b.1).1, .inr b⟩
  refine ⟨h1.exts h2, by rw [hk.len]; exact h2.len, fun p hp => ?_, by rw [e]; exact Gl.seq_in h1.inn h2.inn hl1 hl2, ?_, fun p hp => ?_, ?_, ?_⟩
  · rw [hk.keep p fun h => by have := hin1 p h; omega, h2.old p (by omega), h1.old p hp]
  · rw [e, Gl.seq_lg h1.inn h2.inn, h1.ty h2.ext, h2.lang]
  · refine hk.nodup p ?_
    rcases Nat.lt_or_ge p t1.length with h | h
    · rw [h2.old p h]; exact h1.nodup p hp
    · exact h2.nodup p h
  · have := h1.lf; have := h2.lf
    split
    · rw [List.length_append]; omega
    · omega
  · have := h1.ll; have := h2.ll
    rw [List.length_append]
    split
    · omega
    · simp only [List.length_nil]; omega
theorem Pl.loop (h1 : Pl t0 F0 t1 F1 f1 l1 n1 A) (hk : Lnk F1 F2 l1 f1) (no : Bool) : (Pl t0 F0 t1 F2 f1 l1 true (Lg.star A)) ∧ Pl t0 F0 t1 F2 f1 l1 n1 (Lg.cat A (Lg.star A)) := by
  have hl1 := h1.le
  have hin1 : ∀ p, p ∈ l1 → t0.length ≤ p ∧ p < t1.length := fun p hp => h1.inn.L p hp
  have hmem : ∀ p q, q ∈ F2.getD p [] ↔ q ∈ F1.getD p [] ∨ (p ∈ l1 ∧ q ∈ f1) := fun p q => by
    rcases Nat.lt_or_ge p F1.length with h | h
    · exact hk.mem p q h
    · rw [getD_over F2 [] (by rw [hk.len]; exact h), getD_over F1 [] h]
      constructor
      · intro h; cases h
      · rintro (h' | ⟨h', _⟩)
        · cases h'
        · have := hin1 p h'; rw [h1.len] at h; omega
  have e : ∀ (m : Bool) (N : Prop), ((m = true) ↔ N) → glOf t0.length F2 f1 l1 m = Gl.loop (glOf t0.length F1 f1 l1 n1) N := fun m N hN =>
    Gl.ext' (fun p => Iff.rfl) (fun p => Iff.rfl) hN (fun p q => by
      show (t0.length ≤ p ∧ q ∈ F2.getD p []) ↔ (t0.length ≤ p ∧ q ∈ F1.getD p []) ∨ (p ∈ l1 ∧ q ∈ f1)
      rw [hmem]
      constructor
      · rintro ⟨a, b | b⟩
        · exact .inl ⟨a, b⟩
        · exact .inr b
      · rintro (⟨a, b⟩ | b)
        · exact ⟨a, .inl b⟩
        · exact ⟨(hin1 p b.1).1, .inr b⟩)
  have old : ∀ p, p < t0.length → F2.getD p [] = F0.getD p [] := fun p hp => by
    rw [hk.keep p fun h => by have := hin1 p h; omega, h1.old p hp]
  have nd : ∀ p, t0.length ≤ p → (F2.getD p []).Nodup := fun p hp => hk.nodup p (h1.nodup p hp)
  refine ⟨⟨h1.ext, by rw [hk.len]; exact h1.len, old, ?_, ?_, nd, h1.lf, h1.ll⟩, ⟨h1.ext, by rw [hk.len]; exact h1.len, old, ?_, ?_, nd, h1.lf, h1.ll⟩⟩
  · rw [e true True (by simp)]; exact Gl.loop_in h1.inn
  · rw [e true True (by simp), Gl.star_lg, h1.lang]
  · rw [e n1 (n1 = true) Iff.rfl]; exact Gl.loop_in h1.inn
  · rw [e n1 (glOf t0.length F1 f1 l1 n1).N Iff.rfl, Gl.plus_lg, h1.lang]
theorem Pl.opt (h1 : Pl t0 F0 t1 F1 f1 l1 n1 A) : Pl t0 F0 t1 F1 f1 l1 true (Lg.alt Lg.eps A) := by
  have e : glOf t0.length F1 f1 l1 true = Gl.opt (glOf t0.length F1 f1 l1 n1) := Gl.ext' (fun p => Iff.rfl) (fun p => Iff.rfl) (by simp [glOf, Gl.opt]) (fun p q => Iff.rfl)
  exact ⟨h1.ext, h1.len, h1.old, by rw [e]; exact Gl.opt_in h1.inn, by rw [e, Gl.opt_lg, h1.lang], h1.nodup, h1.lf, h1.ll⟩
end pl
abbrev Rw := Value × List Nat
def rowsM (I : TypeId) (R : List Rw) : List ME := R.map fun z => .arr z.1 I 1 (z.2.map natv)
def rowsV (R : List Rw) : List AV := R.map fun z => .lit z.1
def folOf (R : List Rw) : Fol := R.map fun z => z.2
theorem folOf_get (R : List Rw) (p : Nat) : (folOf R).getD p [] = (R.getD p (.slice none 0 0, [])).2 := by
  unfold folOf
  rw [List.getD_eq_getElem?_getD, List.getElem?_map, List.getD_eq_getElem?_getD]
  cases R[p]? <;> rfl
theorem folOf_set (R : List Rw) (p : Nat) (z : Rw) : folOf (R.set p z) = (folOf R).set p z.2 := by unfold folOf; rw [List.map_set]
theorem rows_mid (R : List Rw) (p : Nat) (h : p < R.length) : R = R.take p ++ R.getD p (.slice none 0 0, []) :: R.drop (p + 1) := by
  rw [List.getD_eq_getElem?_getD, List.getElem?_eq_getElem h]
  exact (List.take_append_drop p R).symm.trans (by rw [List.drop_eq_getElem_cons h]; rfl)
theorem rows_set_mid (R : List Rw) (p : Nat) (z : Rw) (h : p < R.length) : R.set p z = R.take p ++ z :: R.drop (p + 1) := by
  rw [List.set_eq_take_append_cons_drop, if_pos h]
theorem rowsM_app (I : TypeId) (R S : List Rw) : rowsM I (R ++ S) = rowsM I R ++ rowsM I S := by simp [rowsM]
theorem rowsM_out (I : TypeId) (R : List Rw) (p : Nat) (h : p < R.length) (M : List ME) : List.Perm (M ++ rowsM I R) (.arr (R.getD p (.slice none 0 0, [])).1 I 1 ((R.getD p (.slice none 0 0, [])).2.map natv) :: (M ++ (rowsM I (R.take p) ++ rowsM I (R.drop (p + 1))))) := by
  have e : rowsM I R = rowsM I (R.take p) ++ .arr (R.getD p (.slice none 0 0, [])).1 I 1 ((R.getD p (.slice none 0 0, [])).2.map natv) :: rowsM I (R.drop (p + 1)) := by
    conv => lhs; rw [rows_mid R p h]
    rw [rowsM_app]; rfl
  rw [e]
  refine (List.Perm.append_left M List.perm_middle).trans ?_
  exact List.perm_middle
theorem rowsM_in (I : TypeId) (R : List Rw) (p : Nat) (z : Rw) (h : p < R.length) (M : List ME) : List.Perm (.arr z.1 I 1 (z.2.map natv) :: (M ++ (rowsM I (R.take p) ++ rowsM I (R.drop (p + 1))))) (M ++ rowsM I (R.set p z)) := by
  have e : rowsM I (R.set p z) = rowsM I (R.take p) ++ .arr z.1 I 1 (z.2.map natv) :: rowsM I (R.drop (p + 1)) := by
    rw [rows_set_mid R p z h, rowsM_app]; rfl
  rw [e]
  refine List.Perm.trans ?_ (List.Perm.append_left M List.perm_middle.symm)
  exact List.perm_middle.symm
theorem rowsV_get (R : List Rw) (p : Nat) (h : p < R.length) : (rowsV R)[p]? = some (.lit (R.getD p (.slice none 0 0, [])).1) := by
  unfold rowsV
  rw [List.getElem?_map, List.getD_eq_getElem?_getD, List.getElem?_eq_getElem h]; rfl
theorem rowsV_set (R : List Rw) (p : Nat) (z : Rw) : (rowsV R).set p (.lit z.1) = rowsV (R.set p z) := by unfold rowsV; rw [List.map_set]
theorem rowsV_len (R : List Rw) : (rowsV R).length = R.length := by simp [rowsV]
theorem folOf_len (R : List Rw) : (folOf R).length = R.length := by simp [folOf]
theorem nodup_len {n : Nat} {l : List Nat} (h : l.Nodup) (hb : ∀ x ∈ l, x < n) : l.length ≤ n :=
  pigeon n l.length (fun i => l.getD i 0) (fun i hi => hb _ (getD_memG 0 l i hi)) fun i j hi hj e => by
    have e : l.getD i 0 = l.getD j 0 := e
    rw [List.getD_eq_getElem?_getD, List.getD_eq_getElem?_getD, List.getElem?_eq_getElem hi, List.getElem?_eq_getElem hj] at e
    exact (List.getElem_inj h).1 e
end Go.Vl
end

section
set_option linter.unusedVariables false
set_option linter.unusedSimpArgs false
namespace Go.Vl
namespace Ex
mutual
def lv : Ex → Nat
  | mk k _ p => if k = 1 then 1 else lvs p
def lvs : List Ex → Nat
  | [] => 0
  | d :: l => lv d + lvs l
end
theorem lv_eq (x : Ex) : lv x = if x.kind = 1 then 1 else lvs x.parts := by cases x with | mk k t p => rw [lv]; rfl
theorem lvs_append (l m : List Ex) : lvs (l ++ m) = lvs l + lvs m := by
  induction l with
  | nil => simp [lvs]
  | cons d l ih => rw [List.cons_append, lvs, lvs, ih]; omega
theorem lvs_one (d : Ex) : lvs [d] = lv d := by rw [lvs, lvs, Nat.add_zero]
theorem lvs_snoc (l : List Ex) (i : Nat) (h : i < l.length) : lvs (l.take (i + 1)) = lvs (l.take i) + lv (l.getD i dflt) := by
  rw [take_getDG dflt l i h, lvs_append, lvs_one]
theorem lvs_take (l : List Ex) (i : Nat) : lvs (l.take i) ≤ lvs l := by
  have h := lvs_append (l.take i) (l.drop i)
  rw [List.take_append_drop] at h; omega
theorem lv_sz : ∀ x : Ex, lv x ≤ sz x := by
  refine rec' fun x ih => ?_
  have h : ∀ l : List Ex, (∀ d ∈ l, lv d ≤ sz d) → lvs l ≤ szs l := fun l => by
    induction l with
    | nil => intro _; exact Nat.le_refl _
    | cons d l ih2 => intro h; rw [lvs, szs]; have := h d List.mem_cons_self; have := ih2 fun e he => h e (List.mem_cons_of_mem _ he); omega
  have := h x.parts ih
  rw [lv_eq, sz_eq]
  split <;> omega
theorem lvs_flat (k : Int) (hk : k ≠ 1) (l : List Ex) : lvs (flat k l) = lvs l := by
  induction l with
  | nil => rfl
  | cons d l ih =>
    rw [show flat k (d :: l) = (if d.kind = k then d.parts else [d]) ++ flat k l from rfl, lvs_append, lvs, ih]
    congr 1
    split
    · rename_i e; rw [lv_eq, if_neg (by rw [e]; exact hk)]
    · exact lvs_one d
theorem lv_tog (k : Int) (hk : k ≠ 1) (l : List Ex) : lv (tog k l) = lvs l := by
  rcases tog_cases k l with ⟨x, rfl, e⟩ | ⟨h1, y, h2, e⟩ | ⟨h1, h2, e⟩
  · rw [e, lvs_one]
  · rw [e, ← lvs_flat k hk l, h2, lvs_one]
  · rw [e, lv_eq]
    show (if k = 1 then 1 else lvs (flat k l)) = _
    rw [if_neg hk, lvs_flat k hk]
theorem lv_sfe : ∀ (sf : List Nat) (x : Ex), lv (sfe x sf) = lv x
  | [], x => rfl
  | k :: sf, x => by
    show lv (sfe (.mk (4 + (k : Int)) 0 [x]) sf) = lv x
    rw [lv_sfe sf, lv_eq]
    show (if (4 + (k : Int)) = 1 then 1 else lvs [x]) = _
    rw [if_neg (by omega), lvs_one]
end Ex
namespace It
theorem lvs_sev (s : List It) (h : ∀ i ∈ s, Ex.lv i.ev = nl i) : Ex.lvs (sev s) = snl s := by
  induction s with
  | nil => rfl
  | cons i s ih => rw [sev, Ex.lvs, snl, h i List.mem_cons_self, ih fun j hj => h j (List.mem_cons_of_mem _ hj)]
theorem lv_sq' (s : List It) (h : ∀ i ∈ s, Ex.lv i.ev = nl i) : Ex.lv (sq s) = snl s := by
  rw [sq, Ex.lv_tog 2 (by decide), lvs_sev s h]
theorem lvs_aev (a : List (List It)) (h : ∀ t ∈ a, Ex.lv (sq t) = snl t) : Ex.lvs (aev a) = anl a := by
  induction a with
  | nil => rfl
  | cons t a ih => rw [aev, Ex.lvs, anl, h t List.mem_cons_self, ih fun j hj => h j (List.mem_cons_of_mem _ hj)]
theorem lv_ev : ∀ i : It, Ex.lv i.ev = nl i := by
  refine rec' ?_ ?_
  · intro n sf
    rw [ev, Ex.lv_sfe, nl, Ex.lv_eq]; rfl
  · intro s a sf h1 h2
    rw [ev, Ex.lv_sfe, nl, Ex.lv_tog 3 (by decide), Ex.lvs, lv_sq' s h1, lvs_aev a fun t ht => lv_sq' t (h2 t ht)]
theorem lv_al (s : List It) (a : List (List It)) : Ex.lv (al s a) = snl s + anl a := by
  rw [al, Ex.lv_tog 3 (by decide), Ex.lvs, lv_sq' s fun i _ => lv_ev i, lvs_aev a fun t _ => lv_sq' t fun i _ => lv_ev i]
end It
structure AddZ where
  i : Nat
  fi : List Nat
  la : List Nat
  no : Bool
  vf : Value
  vl : Value
  vT : Value
  vF : Value
  tys : List Int
  R : List Rw
def Tys (t0 t : List Int) : Prop := ∀ c ∈ t, c ∈ t0 ∨ (0 ≤ c ∧ c < 8)
theorem Tys.refl (t : List Int) : Tys t t := fun c h => .inl h
theorem Tys.trans {a b c : List Int} (h1 : Tys a b) (h2 : Tys b c) : Tys a c := fun x hx => (h2 x hx).elim (fun h => h1 x h) .inr
section pre
variable {t0 t1 t2 : List Int} {F0 F1 F2 : Fol} {f1 l1 f2 l2 : List Nat} {n1 n2 : Bool} {A B : Lg}
theorem Pl.pre1 (h : Pl t0 F0 t1 F1 f1 l1 n1 A) : (∀ p ∈ l1, p < t1.length) ∧ (∀ p ∈ l1, (F1.getD p []).Nodup) ∧ (∀ p ∈ l1, ∀ q ∈ F1.getD p [], q < t1.length) ∧ (∀ q ∈ f1, q < t1.length) :=
  ⟨fun p hp => (h.inn.L p hp).2, fun p hp => h.nodup p (h.inn.L p hp).1, fun p hp q hq => (h.inn.E p q ⟨(h.inn.L p hp).1, hq⟩).2.2, fun q hq => (h.inn.F q hq).2⟩
theorem Pl.pre2 (h1 : Pl t0 F0 t1 F1 f1 l1 n1 A) (h2 : Pl t1 F1 t2 F2 f2 l2 n2 B) : (∀ p ∈ l1, p < t2.length) ∧ (∀ p ∈ l1, (F2.getD p []).Nodup) ∧ (∀ p ∈ l1, ∀ q ∈ F2.getD p [], q < t2.length) ∧ (∀ q ∈ f2, q < t2.length) := by
  obtain ⟨a, b, c, d⟩ := h1.pre1
  have hle := h2.le
  refine ⟨fun p hp => by have := a p hp; omega, fun p hp => by rw [h2.old p (a p hp)]; exact b p hp, fun p hp q hq => ?_, fun q hq => (h2.inn.F q hq).2⟩
  rw [h2.old p (a p hp)] at hq
  have := c p hp q hq; omega
end pre
section fin
variable {t0 t1 : List Int} {F0 F1 F2 : Fol} {f1 l1 : List Nat} {n1 : Bool} {x : Ex}
theorem Pl.fin3 (h : Pl t0 F0 t1 F1 f1 l1 n1 (Ex.alts x.parts)) (hk : x.kind = 3 ∨ x.kind = 6) : Pl t0 F0 t1 F1 f1 l1 ((n1 || (x.kind == 4)) || (x.kind == 6)) x.lg := by
  rcases hk with hk | hk
  · rw [Ex.lg_eq, hk, show ((n1 || ((3 : Int) == 4)) || ((3 : Int) == 6)) = n1 from by cases n1 <;> rfl, if_neg (by decide), if_neg (by decide), if_pos rfl]; exact h
  · rw [Ex.lg_eq, hk, show ((n1 || ((6 : Int) == 4)) || ((6 : Int) == 6)) = true from by cases n1 <;> rfl, if_neg (by decide), if_neg (by decide), if_neg (by decide), if_neg (by decide), if_neg (by decide)]
    exact h.opt
theorem Pl.fin4 (h : Pl t0 F0 t1 F1 f1 l1 n1 (Ex.alts x.parts)) (hl : Lnk F1 F2 l1 f1) (hk : x.kind = 4 ∨ x.kind = 5) : Pl t0 F0 t1 F2 f1 l1 ((n1 || (x.kind == 4)) || (x.kind == 6)) x.lg := by
  obtain ⟨h1, h2⟩ := h.loop hl true
  rcases hk with hk | hk
  · rw [Ex.lg_eq, hk, show ((n1 || ((4 : Int) == 4)) || ((4 : Int) == 6)) = true from by cases n1 <;> rfl, if_neg (by decide), if_neg (by decide), if_neg (by decide), if_pos rfl]; exact h1
  · rw [Ex.lg_eq, hk, show ((n1 || ((5 : Int) == 4)) || ((5 : Int) == 6)) = n1 from by cases n1 <;> rfl, if_neg (by decide), if_neg (by decide), if_neg (by decide), if_neg (by decide), if_pos rfl]; exact h2
theorem Pl.fin2 (h : Pl t0 F0 t1 F1 f1 l1 n1 (Ex.seqs x.parts)) (hk : x.kind = 2) : Pl t0 F0 t1 F1 f1 l1 ((n1 || (x.kind == 4)) || (x.kind == 6)) x.lg := by
  rw [Ex.lg_eq, hk, show ((n1 || ((2 : Int) == 4)) || ((2 : Int) == 6)) = n1 from by cases n1 <;> rfl, if_neg (by decide), if_pos rfl]; exact h
end fin
theorem alts_snoc (l : List Ex) (i : Nat) (h : i < l.length) : Ex.alts (l.take (i + 1)) = Lg.alt (Ex.alts (l.take i)) (Ex.lg (l.getD i Ex.dflt)) := by
  rw [take_getDG Ex.dflt l i h, Ex.alts_append, Ex.alts_one]
theorem seqs_snoc (l : List Ex) (i : Nat) (h : i < l.length) : Ex.seqs (l.take (i + 1)) = Lg.cat (Ex.seqs (l.take i)) (Ex.lg (l.getD i Ex.dflt)) := by
  rw [take_getDG Ex.dflt l i h, Ex.seqs_append, Ex.seqs_one]
end Go.Vl
end

section
set_option linter.unusedVariables false
set_option linter.unusedSimpArgs false
namespace Go.Vl
structure Tp where
  name : List UInt8
  content : List UInt8
  attrs : List (List UInt8)
def tpv (t : Tp) : AV := .agg [.str t.name, .str t.content, .sl 1 (t.attrs.map AV.str)]
def Au.avx (a : Au) : AV := .agg [.sl 1 (a.next.map pav), .sl 1 (a.final.map AV.bool)]
namespace Sch
def pk (l : List Int) (i n : Nat) : Nat := if l.length ≤ i then 0 else (l.getD i 0 % (n : Int)).toNat
def bDoc : List UInt8 := [100, 111, 99]
def bP : List UInt8 := [112]
def bH1 : List UInt8 := [104, 49]
def bUl : List UInt8 := [117, 108]
def bLi : List UInt8 := [108, 105]
def bEm : List UInt8 := [101, 109]
def bClass : List UInt8 := [99, 108, 97, 115, 115]
def its : List (List It) := [
  [.gr [.ch 1 []] [[.ch 2 []], [.ch 3 []]] [1]], [.ch 2 [2], .ch 1 [0]], [.gr [.ch 1 []] [[.ch 3 []]] [0]], [.ch 2 [], .ch 1 [1], .ch 3 [2]],
  [.ch 6 [2], .gr [.ch 5 [1], .ch 6 [2]] [] [0]], [.gr [.ch 5 []] [[.ch 6 [], .ch 5 []]] [0], .ch 6 [2]], [.ch 6 [2]], [.ch 6 []],
  [.ch 4 [1]], [.ch 4 [], .ch 4 [0]], [.ch 4 [0]], [.ch 1 [1]], [], [.ch 1 []]]
def aus : List Au := [
  ⟨[[-1, 1, 1, 1, -1, -1, -1, -1], [-1, 1, 1, 1, -1, -1, -1, -1]], [false, true]⟩,
  ⟨[[-1, 1, 1, -1, -1, -1, -1, -1], [-1, 1, -1, -1, -1, -1, -1, -1]], [true, true]⟩,
  ⟨[[-1, 0, -1, 0, -1, -1, -1, -1]], [true]⟩,
  ⟨[[-1, -1, 1, -1, -1, -1, -1, -1], [-1, 2, -1, -1, -1, -1, -1, -1], [-1, 2, -1, 3, -1, -1, -1, -1], [-1, -1, -1, -1, -1, -1, -1, -1]], [false, false, true, true]⟩,
  ⟨[[-1, -1, -1, -1, -1, 0, 1, -1], [-1, -1, -1, -1, -1, 0, -1, -1]], [true, true]⟩,
  ⟨[[-1, -1, -1, -1, -1, 0, 1, -1], [-1, -1, -1, -1, -1, 0, -1, -1]], [true, true]⟩,
  ⟨[[-1, -1, -1, -1, -1, -1, 1, -1], [-1, -1, -1, -1, -1, -1, -1, -1]], [true, true]⟩,
  ⟨[[-1, -1, -1, -1, -1, -1, 1, -1], [-1, -1, -1, -1, -1, -1, -1, -1]], [false, true]⟩,
  ⟨[[-1, -1, -1, -1, 1, -1, -1, -1], [-1, -1, -1, -1, 1, -1, -1, -1]], [false, true]⟩,
  ⟨[[-1, -1, -1, -1, 1, -1, -1, -1], [-1, -1, -1, -1, 1, -1, -1, -1]], [false, true]⟩,
  ⟨[[-1, -1, -1, -1, 0, -1, -1, -1]], [true]⟩,
  ⟨[[-1, 1, -1, -1, -1, -1, -1, -1], [-1, 1, -1, -1, -1, -1, -1, -1]], [false, true]⟩,
  ⟨[[-1, -1, -1, -1, -1, -1, -1, -1]], [true]⟩,
  ⟨[[-1, 1, -1, -1, -1, -1, -1, -1], [-1, -1, -1, -1, -1, -1, -1, -1]], [false, true]⟩]
def itk (k : Nat) : List It := its.getD k []
def auk (k : Nat) : Au := aus.getD k ⟨[], []⟩
theorem mach_allB : ((List.range 14).all fun k => It.machB (itk k) [] (auk k)) = true := by kernel_rfl
theorem mach_all (k : Nat) (hk : k < 14) : It.machB (itk k) [] (auk k) = true := List.all_eq_true.1 mach_allB k (List.mem_range.2 hk)
def txt (k : Nat) : List UInt8 := It.stx (itk k)
def tys (k0 k1 k2 k3 k4 k5 : Nat) : List Tp := [⟨bDoc, txt ([0, 1, 2, 3].getD k0 0), []⟩, ⟨bP, txt ([4, 5, 6].getD k1 0), [bClass]⟩, ⟨bH1, txt ([7, 6].getD k2 0), []⟩, ⟨bUl, txt ([8, 9, 10].getD k3 0), []⟩, ⟨bLi, txt ([11, 6, 2].getD k4 0), []⟩, ⟨bEm, txt ([7, 6].getD k5 0), []⟩, ⟨[], [], []⟩]
def fine (A : Au) (n : Nat) (c : Int) : Bool := (A.next.all fun r => (r.drop n).all fun x => decide (x < 0)) && (decide (c < 0) || A.next.all fun r => decide (r.getD c.toNat (-1) < 0) || decide ((A.next.getD (r.getD c.toNat (-1)).toNat []).getD c.toNat (-1) < 0))
theorem fine1 {A : Au} {n : Nat} {c : Int} (h : fine A n c = true) {r : List Int} (hr : r ∈ A.next) : ((r.drop n).any fun x => decide (0 ≤ x)) = false := by
  simp only [fine, Bool.and_eq_true] at h
  have h1 := List.all_eq_true.1 (List.all_eq_true.1 h.1 r hr)
  rw [List.any_eq_false]
  intro x hx
  have := of_decide_eq_true (h1 x hx)
  simp; omega
theorem fine2 {A : Au} {n : Nat} {c : Int} (h : fine A n c = true) (hc : 0 ≤ c) {r : List Int} (hr : r ∈ A.next) : r.getD c.toNat (-1) < 0 ∨ (A.next.getD (r.getD c.toNat (-1)).toNat []).getD c.toNat (-1) < 0 := by
  simp only [fine, Bool.and_eq_true, Bool.or_eq_true] at h
  rcases h.2 with h2 | h2
  · have := of_decide_eq_true h2; omega
  · have := List.all_eq_true.1 h2 r hr
    simpa using this
def formB (t : Tp) : Bool :=
  if t.name = [] then t.content == [] && t.attrs.isEmpty
  else if t.name = [115, 99, 114, 105, 112, 116] ∨ t.name = [115, 116, 121, 108, 101] ∨ t.name = [116, 101, 120, 116, 97, 114, 101, 97] ∨ t.name = [116, 105, 116, 108, 101] then false
  else if t.name = [98, 114] ∨ t.name = [104, 114] ∨ t.name = [105, 109, 103] ∨ t.name = [105, 110, 112, 117, 116] then t.content == [] else true
def attrsB (l : List (List UInt8)) : Bool := l.all (fun s => nameOk s && decide (s.length ≤ 1000)) && decide (l.length ≤ 4) && (List.range l.length).all fun i => !((l.take i).any fun s => l.getD i [] == s)
def lastG (ts : List Tp) (n : Nat) : Int := (List.range n).foldl (fun (z : Int) i => if (ts.getD i ⟨[], [], []⟩).name = [] then (i : Int) else z) (-1)
def lastT (ts : List Tp) : Int := lastG ts ts.length
theorem lastG_succ (ts : List Tp) (n : Nat) : lastG ts (n + 1) = if (ts.getD n ⟨[], [], []⟩).name = [] then (n : Int) else lastG ts n := by
  unfold lastG; rw [List.range_succ, List.foldl_append]; rfl
/-! ### sizes, as_ the code reckons them -/
def wr (z : Int) : Int := IntKind.i64.wrap z
def stepc (sz : List Int) (i : Nat) (s : List Int × Bool) (n : Nat) (to : Int) : List Int × Bool :=
  if to < 0 ∨ s.1.getD to.toNat 0 < 0 ∨ sz.getD n 0 = 0 then s
  else if s.1.getD i 0 < 0 ∨ wr (sz.getD n 0 + s.1.getD to.toNat 0) < s.1.getD i 0 then (s.1.set i (wr (sz.getD n 0 + s.1.getD to.toNat 0)), true) else s
def rowc (sz : List Int) (i : Nat) (row : List Int) (s : List Int × Bool) (k : Nat) : List Int × Bool := (List.range k).foldl (fun s n => stepc sz i s n (row.getD n (-1))) s
def rndc (sz : List Int) (A : Au) (s : List Int × Bool) (k : Nat) : List Int × Bool := (List.range k).foldl (fun s i => rowc sz i (A.next.getD i []) s 8) s
theorem rowc_succ (sz : List Int) (i : Nat) (row : List Int) (s : List Int × Bool) (k : Nat) : rowc sz i row s (k + 1) = stepc sz i (rowc sz i row s k) k (row.getD k (-1)) := by
  unfold rowc; rw [List.range_succ, List.foldl_append]; rfl
theorem rndc_succ (sz : List Int) (A : Au) (s : List Int × Bool) (k : Nat) : rndc sz A s (k + 1) = rowc sz k (A.next.getD k []) (rndc sz A s k) 8 := by
  unfold rndc; rw [List.range_succ, List.foldl_append]; rfl
theorem stepc_len (sz : List Int) (i : Nat) (s : List Int × Bool) (n : Nat) (to : Int) : (stepc sz i s n to).1.length = s.1.length := by
  unfold stepc; split; rfl; split; simp; rfl
theorem rowc_len (sz : List Int) (i : Nat) (row : List Int) (s : List Int × Bool) (k : Nat) : (rowc sz i row s k).1.length = s.1.length := by
  induction k with
  | zero => rfl
  | succ k ih => rw [rowc_succ, stepc_len, ih]
theorem rndc_len (sz : List Int) (A : Au) (s : List Int × Bool) (k : Nat) : (rndc sz A s k).1.length = s.1.length := by
  induction k with
  | zero => rfl
  | succ k ih => rw [rndc_succ, rowc_len, ih]
def tgI (A : Au) (i : Nat) : List Int := (A.final.take i).map (fun b => if b = true then (0 : Int) else -1) ++ List.replicate (A.final.length - i) 0
theorem tgI_zero (A : Au) : tgI A 0 = List.replicate A.final.length 0 := by simp [tgI]
theorem tgI_all (A : Au) : tgI A A.final.length = A.final.map fun b => if b = true then (0 : Int) else -1 := by simp [tgI]
theorem tgI_len (A : Au) (i : Nat) (h : i ≤ A.final.length) : (tgI A i).length = A.final.length := by
  simp [tgI]; omega
theorem tgI_succ (A : Au) (i : Nat) (h : i < A.final.length) : tgI A (i + 1) = if A.final.getD i false = true then tgI A i else (tgI A i).set i (-1) := by
  have hr : List.replicate (A.final.length - i) (0 : Int) = 0 :: List.replicate (A.final.length - (i + 1)) 0 := by
    rw [← List.replicate_succ]; congr 1; omega
  have hl : ((A.final.take i).map fun b => if b = true then (0 : Int) else -1).length = i := by simp; omega
  unfold tgI
  rw [take_getDG false A.final i h, List.map_append, hr, List.append_assoc]
  split
  · rename_i h1; rw [List.map_cons, if_pos h1]; rfl
  · rename_i h1
    rw [List.map_cons, if_neg h1, List.set_append_right _ _ (by omega), hl, Nat.sub_self]; rfl
def tgo (sz : List Int) (A : Au) : Nat → List Int → Option (List Int)
  | 0, _ => none
  | n + 1, o => if (rndc sz A (o, false) A.next.length).2 = true then tgo sz A n (rndc sz A (o, false) A.next.length).1 else some (rndc sz A (o, false) A.next.length).1
def toGo (sz : List Int) (A : Au) : Option (List Int) := tgo sz A 12 (A.final.map fun b => if b = true then (0 : Int) else -1)
theorem tgo_len (sz : List Int) (A : Au) : ∀ (n : Nat) (o r : List Int), tgo sz A n o = some r → r.length = o.length
  | 0, _, _, h => by cases h
  | n + 1, o, r, h => by
    simp only [tgo] at h
    split at h
    · rw [tgo_len sz A n _ r h, rndc_len]
    · rw [← Option.some.inj h, rndc_len]
theorem toGo_len {sz : List Int} {A : Au} {r : List Int} (h : toGo sz A = some r) : r.length = A.final.length := by
  rw [tgo_len sz A _ _ r h, List.length_map]
abbrev dT : Tp := ⟨[], [], []⟩
abbrev dA : Au := ⟨[], []⟩
def upd (s : List Int × Bool) (i : Nat) (n : Int) : List Int × Bool := if s.1.getD i 0 = 0 ∨ n < s.1.getD i 0 then (s.1.set i n, true) else s
def stepm (ts : List Tp) (as_ : List Au) (s : List Int × Bool) (i : Nat) : Option (List Int × Bool) :=
  if (ts.getD i dT).name = [] then some (upd s i 1)
  else match toGo s.1 (as_.getD i dA) with
    | none => none
    | some o => if o.getD 0 0 < 0 then some s else some (upd s i (wr (1 + o.getD 0 0)))
def rndm (ts : List Tp) (as_ : List Au) (s : List Int × Bool) : Nat → Option (List Int × Bool)
  | 0 => some s
  | k + 1 => match rndm ts as_ s k with
    | none => none
    | some r => stepm ts as_ r k
def mso (ts : List Tp) (as_ : List Au) : Nat → List Int → Option (List Int)
  | 0, _ => none
  | n + 1, z => match rndm ts as_ (z, false) ts.length with
    | none => none
    | some r => if r.2 = true then mso ts as_ n r.1 else some r.1
def sizesOf (ts : List Tp) (as_ : List Au) : Option (List Int) := mso ts as_ 10 (List.replicate ts.length 0)
theorem upd_len (s : List Int × Bool) (i : Nat) (n : Int) : (upd s i n).1.length = s.1.length := by
  unfold upd; split <;> simp
theorem stepm_len {ts : List Tp} {as_ : List Au} {s r : List Int × Bool} {i : Nat} (h : stepm ts as_ s i = some r) : r.1.length = s.1.length := by
  unfold stepm at h
  split at h
  · rw [← Option.some.inj h, upd_len]
  · split at h
    · cases h
    · split at h
      · rw [← Option.some.inj h]
      · rw [← Option.some.inj h, upd_len]
theorem rndm_len {ts : List Tp} {as_ : List Au} {s : List Int × Bool} : ∀ {k : Nat} {r : List Int × Bool}, rndm ts as_ s k = some r → r.1.length = s.1.length
  | 0, r, h => by rw [← Option.some.inj h]
  | k + 1, r, h => by
    simp only [rndm] at h
    split at h
    · cases h
    · rename_i q hq; rw [stepm_len h, rndm_len hq]
theorem rndm_some {ts : List Tp} {as_ : List Au} {s : List Int × Bool} : ∀ {n : Nat} {r : List Int × Bool}, rndm ts as_ s n = some r → ∀ k, k ≤ n → ∃ q, rndm ts as_ s k = some q
  | 0, r, h, k, hk => by rw [show k = 0 by omega]; exact ⟨_, rfl⟩
  | n + 1, r, h, k, hk => by
    rcases Nat.lt_or_ge n k with h1 | h1
    · rw [show k = n + 1 by omega]; exact ⟨_, h⟩
    · simp only [rndm] at h
      split at h
      · cases h
      · rename_i q hq; exact rndm_some hq k h1
theorem rndm_succ {ts : List Tp} {as_ : List Au} {s r : List Int × Bool} {k : Nat} (h : rndm ts as_ s k = some r) : rndm ts as_ s (k + 1) = stepm ts as_ r k := by
  simp only [rndm, h]
theorem mso_len {ts : List Tp} {as_ : List Au} : ∀ (n : Nat) (z r : List Int), mso ts as_ n z = some r → r.length = z.length
  | 0, _, _, h => by cases h
  | n + 1, z, r, h => by
    simp only [mso] at h
    split at h
    · cases h
    · rename_i q hq
      split at h
      · rw [mso_len n _ r h, rndm_len hq]
      · rw [← Option.some.inj h, rndm_len hq]
def pick1 (sz : List Int) (rest : List Int) (at_ : Nat) (row : List Int) (n : Nat) : Bool :=
  decide (0 ≤ row.getD n (-1)) && decide (0 ≤ rest.getD (row.getD n (-1)).toNat 0) && (wr (sz.getD n 0 + rest.getD (row.getD n (-1)).toNat 0) == rest.getD at_ 0)
def firstN (p : Nat → Bool) : Nat → Nat → Option Nat
  | 0, _ => none
  | f + 1, n => if p n = true then some n else firstN p f (n + 1)
def cho (sz : List Int) (A : Au) (rest : List Int) : Nat → Nat → List Int → Option (List Int)
  | 0, _, _ => none
  | f + 1, a, w => if 0 < rest.getD a 0 then
      match firstN (pick1 sz rest a (A.next.getD a [])) 8 0 with
      | none => none
      | some n => cho sz A rest f ((A.next.getD a []).getD n (-1)).toNat (w ++ [(n : Int)])
    else some w
def cheap (sz : List Int) (A : Au) : Option (List Int) := match toGo sz A with
  | none => none
  | some rest => cho sz A rest 12 0 []
theorem lastG_rng (ts : List Tp) : ∀ n, -1 ≤ lastG ts n ∧ lastG ts n < n
  | 0 => by simp [lastG]
  | n + 1 => by
    have := lastG_rng ts n
    rw [lastG_succ]; split <;> omega
theorem known_all : ((List.range 14).all fun k => decide ((It.stx (itk k)).length ≤ 40) && decide (It.snl (itk k) ≤ 6) && decide ((auk k).next.length ≤ 32)) = true := by kernel_rfl
theorem itk_oks : ∀ k, k < 14 → It.oks (itk k) := by
  intro k hk
  rcases (show k = 0 ∨ k = 1 ∨ k = 2 ∨ k = 3 ∨ k = 4 ∨ k = 5 ∨ k = 6 ∨ k = 7 ∨ k = 8 ∨ k = 9 ∨ k = 10 ∨ k = 11 ∨ k = 12 ∨ k = 13 by omega) with rfl | rfl | rfl | rfl | rfl | rfl | rfl | rfl | rfl | rfl | rfl | rfl | rfl | rfl <;> simp [itk, its, It.oks, It.ok, It.oka]
structure Known (k : Nat) : Prop where
  oks : It.oks (itk k)
  len : (It.stx (itk k)).length ≤ 40
  lv : It.snl (itk k) ≤ 6
  ord : (auk k).Ord
  acc : ∀ u, (auk k).acc 0 u ↔ (Lg.alt (It.slg (itk k)) (It.alg [])) u
  n32 : (auk k).next.length ≤ 32
theorem known (k : Nat) (hk : k < 14) : Known k := by
  have h1 := List.all_eq_true.1 known_all k (List.mem_range.2 hk)
  simp only [Bool.and_eq_true, decide_eq_true_eq] at h1
  have h2 := It.mach_of (mach_all k hk)
  exact ⟨itk_oks k hk, h1.1.1, h1.1.2, h2.1, h2.2, h1.2⟩
structure Good (ts : List Tp) (as_ : List Au) : Prop where
  pos : 1 ≤ ts.length
  len : ts.length ≤ 8
  has : as_.length = ts.length
  name : ∀ i, i < ts.length → (ts.getD i dT).name.length ≤ 1000 ∧ ((ts.getD i dT).name = [] ∨ nameOk (ts.getD i dT).name = true)
  one : ∀ i, i < ts.length → ((ts.take i).any fun u => u.name == (ts.getD i dT).name) = false
  form : ∀ i, i < ts.length → formB (ts.getD i dT) = true
  attrs : ∀ i, i < ts.length → attrsB (ts.getD i dT).attrs = true
  mach : ∀ i, i < ts.length → ∃ k, k < 14 ∧ (ts.getD i dT).content = txt k ∧ as_.getD i dA = auk k ∧ fine (auk k) ts.length (lastT ts) = true
theorem fine_col {A : Au} {n : Nat} {c : Int} (h : fine A n c = true) : ∀ r ∈ A.next, ∀ k, k < 8 → 0 ≤ r.getD k (-1) → k < n := by
  intro r hr k hk h0
  rcases Nat.lt_or_ge k n with h1 | h1
  · exact h1
  · exfalso
    simp only [fine, Bool.and_eq_true] at h
    have h2 := List.all_eq_true.1 (List.all_eq_true.1 h.1 r hr)
    rcases Nat.lt_or_ge k r.length with h3 | h3
    · have hm : r.getD k (-1) ∈ r.drop n := by
        rw [List.getD_eq_getElem?_getD, List.getElem?_eq_getElem h3]
        refine List.mem_iff_getElem.2 ⟨k - n, by rw [List.length_drop]; omega, ?_⟩
        rw [List.getElem_drop]; simp only [Option.getD_some]; congr 1; omega
      have := of_decide_eq_true (h2 _ hm)
      omega
    · rw [List.getD_eq_getElem?_getD, List.getElem?_eq_none h3] at h0
      simp at h0
theorem Good.sh {ts : List Tp} {as_ : List Au} (h : Good ts as_) : ∀ A ∈ as_, A.Shape ∧ A.next.length ≤ 100 ∧ ∀ r ∈ A.next, ∀ k, k < 8 → 0 ≤ r.getD k (-1) → k < ts.length := by
  intro A hA
  obtain ⟨i, hi, rfl⟩ := List.mem_iff_getElem.1 hA
  obtain ⟨k, hk, _, h2, h3⟩ := h.mach i (by rw [← h.has]; exact hi)
  have e : as_.getD i dA = as_[i] := by rw [List.getD_eq_getElem?_getD, List.getElem?_eq_getElem hi]; rfl
  rw [← e, h2]
  have hk' := known k hk
  exact ⟨hk'.ord.shape, Nat.le_trans hk'.n32 (by decide), fine_col h3⟩
theorem cho_len (sz : List Int) (A : Au) (rest : List Int) : ∀ (f a : Nat) (w r : List Int), cho sz A rest f a w = some r → r.length ≤ w.length + f
  | 0, _, _, _, h => by cases h
  | f + 1, a, w, r, h => by
    simp only [cho] at h
    split at h
    · split at h
      · cases h
      · have := cho_len sz A rest f _ _ r h
        rw [List.length_append, List.length_singleton] at this; omega
    · rw [← Option.some.inj h]; omega
theorem cheap_len {sz : List Int} {A : Au} {w : List Int} (h : cheap sz A = some w) : w.length ≤ 12 := by
  unfold cheap at h
  split at h
  · cases h
  · have := cho_len _ _ _ _ _ _ _ h
    simpa using this
def omap {α β : Type} (g : α → Option β) : List α → Option (List β)
  | [] => some []
  | a :: l => match g a, omap g l with
    | some b, some m => some (b :: m)
    | _, _ => none
theorem omap_len {α β : Type} {g : α → Option β} : ∀ {l : List α} {m : List β}, omap g l = some m → m.length = l.length
  | [], m, h => by rw [← Option.some.inj h]; rfl
  | a :: l, m, h => by
    simp only [omap] at h
    split at h
    · rename_i b q _ hq
      rw [← Option.some.inj h, List.length_cons, List.length_cons, omap_len hq]
    · cases h
theorem omap_at {α β : Type} {g : α → Option β} (za : α) (zb : β) : ∀ {l : List α} {m : List β}, omap g l = some m → ∀ i, i < l.length → g (l.getD i za) = some (m.getD i zb)
  | [], m, h, i, hi => by simp at hi
  | a :: l, m, h, i, hi => by
    simp only [omap] at h
    split at h
    · rename_i b q hb hq
      rw [← Option.some.inj h]
      cases i with
      | zero => exact hb
      | succ i => exact omap_at za zb hq i (by simpa using hi)
    · cases h
def treeN (ts : List Tp) (as_ : List Au) (sz : List Int) : Nat → Nat → Option Nd
  | 0, _ => none
  | f + 1, t => if ts.length ≤ t then none else if (ts.getD t dT).name = [] then some (Nd.mk [] [] [120] []) else
      match cheap sz (as_.getD t dA) with
      | none => none
      | some w => match omap (fun (k : Int) => if k < 0 then none else treeN ts as_ sz f k.toNat) w with
        | none => none
        | some ps => some (Nd.mk (ts.getD t dT).name [] [] ps)
theorem treeN_lt {ts : List Tp} {as_ : List Au} {sz : List Int} : ∀ {f t : Nat} {d : Nd}, treeN ts as_ sz f t = some d → t < ts.length
  | 0, t, d, h => by cases h
  | f + 1, t, d, h => by
    simp only [treeN] at h
    split at h
    · cases h
    · omega
end Sch
end Go.Vl
end

section
set_option linter.unusedVariables false
set_option linter.unusedSimpArgs false
set_option maxRecDepth 100000
namespace Go.Proofs.YtphlkdbglpcikaaGreatDoor
open Go.Vl

namespace Base

theorem tmod_neg (a n : Int) (hn : 0 < n) (h : a.tmod n < 0) : a.tmod n + n = a % n := by
  have h1 := Int.tmod_eq_emod (a := a) (b := n)
  have h2 := Int.emod_nonneg a (by omega : n ≠ 0)
  have h3 := Int.emod_lt_of_pos a hn
  have h4 : (n.natAbs : Int) = n := by omega
  rw [h1] at h ⊢
  split at h <;> split <;> omega
theorem tmod_nonneg (a n : Int) (hn : 0 < n) (h : ¬ a.tmod n < 0) : a.tmod n = a % n := by
  have h1 := Int.tmod_eq_emod (a := a) (b := n)
  have h2 := Int.emod_nonneg a (by omega : n ≠ 0)
  have h3 := Int.emod_lt_of_pos a hn
  have h4 : (n.natAbs : Int) = n := by omega
  rw [h1] at h ⊢
  split at h <;> split <;> omega
theorem tmod_gt (a n : Int) (hn : 0 < n) : -n < a.tmod n ∧ a.tmod n < n := by
  have h1 := Int.tmod_eq_emod (a := a) (b := n)
  have h2 := Int.emod_nonneg a (by omega : n ≠ 0)
  have h3 := Int.emod_lt_of_pos a hn
  have h4 : (n.natAbs : Int) = n := by omega
  rw [h1]
  split <;> omega

theorem c_Picked (a n : Int) (hn : 0 < n) (hb : n ≤ 4611686018427387904) : FnP Tryz.prog 13 [.int a, .int n] (.int (a % n)) :=  by
  refine FnC.mk Tryz.func13 (by kernel_rfl) rfl Tryz.ntmps13 rfl (fun w0 F => ?_)
  have htm := tmod_gt a n hn
  refine W.seq ?_; refine W.region ?_; refine W.q (Ev.assign .k) rfl ?_; refine W.nil ?_; refine W.then ?_; refine W.seq ?_; refine W.region ?_; refine W.q (Ev.move (.t rfl)) rfl ?_; refine W.q (Ev.move (.t rfl)) rfl ?_
  first | refine W.q (Ev.rem (.t rfl) (.t rfl) (fun _ => by decide)) rfl ?_ | refine W.q (Ev.rem (.t rfl) (.t rfl) (fun _ => by omega)) rfl ?_
  refine W.q (Ev.assign (.t rfl)) rfl ?_; refine W.nil ?_; refine W.then ?_; refine W.seq ?_; refine W.seq ?_; refine W.region ?_; refine W.q (Ev.move (.t rfl)) rfl ?_; refine W.q (Ev.lti (.t rfl) .k) rfl ?_; refine W.nil ?_; refine W.then ?_; refine W.cond (.t rfl) (fun hc_t9 => ?_) (fun hc_t9 => ?_)
  · have h9 := of_decide_eq_true hc_t9
    refine W.seq ?_; refine W.region ?_; refine W.q (Ev.move (.t rfl)) rfl ?_; refine W.q (Ev.move (.t rfl)) rfl ?_
    first | refine W.q (Ev.add (.t rfl) (.t rfl) (fun _ => by omega)) rfl ?_ | refine W.q (Ev.addw (.t rfl) (.t rfl)) rfl ?_
    refine W.q (Ev.assign (.t rfl)) rfl ?_; refine W.nil ?_; refine W.then ?_; refine W.ret ?_; refine W.then_ret ?_; refine W.retn (M' := []) (rs := [.tmp 4]) (avs := [_]) Tryz.results13 ⟨rfl, trivial⟩ rfl (.refl _) ?_
    exact ⟨congrArg AV.int (by first | exact (tmod_neg a n hn h9).symm ▸ rfl | exact tmod_nonneg a n hn h9), rfl⟩
  · have h9 := of_decide_eq_false hc_t9
    refine W.skip ?_; refine W.then ?_; refine W.seq ?_; refine W.region ?_; refine W.q (Ev.move (.t rfl)) rfl ?_; refine W.q (Ev.assign (.t rfl)) rfl ?_; refine W.nil ?_; refine W.then ?_; refine W.ret ?_; refine W.retn (M' := []) (rs := [.tmp 4]) (avs := [_]) Tryz.results13 ⟨rfl, trivial⟩ rfl (.refl _) ?_
    exact ⟨congrArg AV.int (by first | exact (tmod_neg a n hn h9).symm ▸ rfl | exact tmod_nonneg a n hn h9), rfl⟩

end Base

end Go.Proofs.YtphlkdbglpcikaaGreatDoor
end

section
set_option linter.unusedVariables false
set_option linter.unusedSimpArgs false
set_option maxRecDepth 100000
namespace Go.Proofs.YtphlkdbglpcikaaGreatDoor
open Go.Vl

namespace WToGo
theorem ty3 : Ty Tryz.prog 3 1 8 (.int .i64 0) := Ty.of (by kernel_rfl)
theorem ty4 : Ty Tryz.prog 4 1 1 (.bool false) := Ty.of (by kernel_rfl)
theorem ty22 : Ty Tryz.prog 22 1 24 (.slice none 0 0) := Ty.of (by kernel_rfl)
theorem ty59 : Ty Tryz.prog 59 1 24 (.slice none 0 0) := Ty.of (by kernel_rfl)
theorem ty60 : Ty Tryz.prog 60 1 24 (.slice none 0 0) := Ty.of (by kernel_rfl)
theorem ag3 : IsAgg Tryz.prog 3 false := ⟨_, Tryz.underlying3, rfl⟩
theorem ag4 : IsAgg Tryz.prog 4 false := ⟨_, Tryz.underlying4, rfl⟩
theorem ag22 : IsAgg Tryz.prog 22 false := ⟨_, Tryz.underlying22, rfl⟩
theorem ag59 : IsAgg Tryz.prog 59 false := ⟨_, Tryz.underlying59, rfl⟩
theorem ag60 : IsAgg Tryz.prog 60 false := ⟨_, Tryz.underlying60, rfl⟩
theorem fa62_0 : FieldAt Tryz.prog 62 0 0 1 false := ⟨_, _, Tryz.underlying62, rfl, rfl, ty59.size, ag59, by decide⟩
theorem fa62_1 : FieldAt Tryz.prog 62 1 1 1 false := ⟨_, _, Tryz.underlying62, rfl, rfl, ty60.size, ag60, by decide⟩
theorem fa76_2 : FieldAt Tryz.prog 76 2 2 1 false := ⟨_, _, Tryz.underlying76, rfl, rfl, ty22.size, ag22, by decide⟩
set_option maxHeartbeats 1600000 in
theorem c_ToGo (b : Nat) (ts : List Tp) (as_ : List Au) (vs : Value) (sz : List Int) (A : Au) (hsh : A.Shape) (hn : A.next.length ≤ 100) (hcol : ∀ r ∈ A.next, ∀ k, k < 8 → 0 ≤ r.getD k (-1) → k < sz.length) (out : List Int) (htg : Sch.toGo sz A = some out) : FnC Tryz.prog 90 [.lit (.pointer (some ⟨b, 0, none⟩)), .agg [.sl 1 (A.next.map pav), .sl 1 (A.final.map AV.bool)]] [.box b 76 [.sl 3 (ts.map tpv), .sl 2 (as_.map Au.avx), .lit vs], .arr vs 3 1 (sz.map AV.int)] (fun r M => r = .sl 1 (out.map AV.int) ∧ M = [.box b 76 [.sl 3 (ts.map tpv), .sl 2 (as_.map Au.avx), .lit vs], .arr vs 3 1 (sz.map AV.int)]) :=  by
  refine FnC.mk Tryz.func90 (by kernel_rfl) rfl Tryz.ntmps90 rfl (fun w0 F => ?_)
  have hnl : (A.next.map pav).length = A.next.length := List.length_map ..
  have hfl : (A.final.map AV.bool).length = A.final.length := List.length_map ..
  have hfn := hsh.fin
  have hszl : (sz.map AV.int).length = sz.length := List.length_map ..
  refine W.seq ?_; refine W.region ?_; refine W.box (.t rfl) rfl rfl ?_; intro b3; refine W.q (Ev.assign .k) rfl ?_; refine W.nil ?_; refine W.then ?_; refine W.seq ?_; refine W.region ?_
  (refine W.q (Ev.fab (.t rfl) fa62_0) rfl ?_)
  (refine W.q (Ev.ldb1 0 (.t rfl) rfl ag59 rfl) rfl ?_)
  (refine W.q (Ev.lensl (.t rfl) Tryz.underlying59) rfl ?_)
  refine W.mk (.t rfl) (.t rfl) Tryz.underlying22 ty3 rfl rfl rfl rfl rfl (by omega) rfl ?_; intro v17
  have h00 : List.replicate (A.next.map pav).length (AV.int 0) = (Sch.tgI A 0).map AV.int := by rw [Sch.tgI_zero, hnl, hfn, List.map_replicate]
  refine W.perm (List.Perm.of_eq (show _ = [.arr v17 3 1 ((Sch.tgI A 0).map AV.int), .box b3 62 [.sl 1 (A.next.map pav), .sl 1 (A.final.map AV.bool)], .box b 76 [.sl 3 (ts.map tpv), .sl 2 (as_.map Au.avx), .lit vs], .arr vs 3 1 (sz.map AV.int)] from by show (ME.arr v17 _ _ (List.replicate (A.next.map pav).length (AV.int 0)) :: _) = _; rw [h00]; rfl)) ?_; refine W.q (Ev.assign (.t rfl)) rfl ?_; refine W.nil ?_; refine W.then ?_; refine W.seq ?_; refine W.seq ?_; refine W.region ?_
  (refine W.q (Ev.fab (.t rfl) fa62_1) rfl ?_)
  (refine W.q (Ev.ldb1 1 (.t rfl) rfl ag60 rfl) rfl ?_)
  (refine W.q (Ev.lensl (.t rfl) Tryz.underlying60) rfl ?_)
  refine W.q (Ev.move .k) rfl ?_; refine W.nil ?_; refine W.then ?_; refine W.block ?_; refine W.loop (D := []) (ι := Nat) (fun i => [(21, true, .int (i : Int)), (20, true, .int ((A.final.map AV.bool).length : Int)), (19, true, .sl 1 (A.final.map AV.bool)), (0, true, .lit (.pointer (some ⟨b, 0, none⟩))), (3, true, .lit (.pointer (some ⟨b3, 0, none⟩))), (5, true, .lit v17)]) (fun i => [.arr v17 3 1 ((Sch.tgI A i).map AV.int), .box b3 62 [.sl 1 (A.next.map pav), .sl 1 (A.final.map AV.bool)], .box b 76 [.sl 3 (ts.map tpv), .sl 2 (as_.map Au.avx), .lit vs], .arr vs 3 1 (sz.map AV.int)]) (fun i => i ≤ A.final.length) (fun i => A.final.length - i) 0 ⟨rfl, rfl, rfl, rfl, rfl, rfl, trivial⟩ (.refl _) (Nat.zero_le _) ?_; intro i hi
  dsimp only at hi ⊢
  rcases (show i < A.final.length ∨ i = A.final.length from by omega) with hlt | hend
  · have hgf := getD_mapG AV.bool false A.final i hlt
    have hg0 := getD_map (Sch.tgI A i) i (by rw [Sch.tgI_len A i hi]; exact hlt)
    refine W.seq ?_; refine W.region ?_; refine W.q (Ev.lti (.t rfl) (.t rfl)) rfl ?_; refine W.nil ?_; refine W.then ?_; refine W.seq ?_; refine W.is (t := 22) (g := true) (av' := .lit (.bool true)) rfl (congrArg (fun b => AV.lit (.bool b)) (by exact decide_eq_true (by omega))) ?_; refine W.condT (.t rfl) ?_; refine W.skip ?_; refine W.then ?_; refine W.seq ?_; refine W.block ?_; refine W.seq ?_; refine W.region ?_; refine W.q (Ev.move (.t rfl)) rfl ?_; refine W.q (Ev.at (E := 4) (.t rfl) (.t rfl) Tryz.underlying60 ty4 (fun _ => ⟨by omega, hgf⟩) rfl rfl) rfl ?_
    (refine W.q (Ev.lde1 (.t rfl) ag4) rfl ?_)
    refine W.q (Ev.assign (.t rfl)) rfl ?_; refine W.q (Ev.assign (.t rfl)) rfl ?_; refine W.nil ?_; refine W.then ?_; refine W.seq ?_; refine W.region ?_; refine W.q (Ev.move (.t rfl)) rfl ?_; refine W.q (Ev.not (.t rfl)) rfl ?_; refine W.nil ?_; refine W.then ?_; refine W.cond (.t rfl) (fun hc_t27 => ?_) (fun hc_t27 => ?_)
    · have hf0 : ¬ A.final.getD i false = true := by intro h; rw [h] at hc_t27; cases hc_t27
      have hsu := Sch.tgI_succ A i hlt
      rw [if_neg hf0] at hsu
      refine W.region ?_; refine W.q (Ev.move (.t rfl)) rfl ?_; refine W.q (Ev.move (.t rfl)) rfl ?_; refine W.q (Ev.ata 0 (.t rfl) rfl (.t rfl) Tryz.underlying22 ty3 (fun hg => by rw [List.length_map, Sch.tgI_len A i hi]; omega)) rfl ?_; refine W.sta 0 i 0 (e := AV.int ((Sch.tgI A i).getD i 0)) (e' := AV.int (-1)) (.t rfl) .k rfl hg0 (by omega) ty3 rfl rfl rfl rfl rfl rfl rfl ?_; refine W.nil ?_; refine W.blk_normal ?_; refine W.then ?_; refine W.region ?_
      (refine W.q (Ev.add (.t rfl) .k (fun _ => by omega)) rfl ?_)
      refine W.q (Ev.move (.t rfl)) rfl ?_; refine W.nil ?_; refine W.then ?_
      rw [← List.map_set, ← hsu]
      refine W.reach (D := []) (i + 1) ⟨rfl, rfl, rfl, rfl, rfl, rfl, trivial⟩ (.refl _) ⟨hlt, by show A.final.length - (i + 1) < A.final.length - i; omega⟩
    · have hf0 : A.final.getD i false = true := by cases h : A.final.getD i false; rw [h] at hc_t27; cases hc_t27; rfl
      have hsu := Sch.tgI_succ A i hlt
      rw [if_pos hf0] at hsu
      refine W.skip ?_; refine W.blk_normal ?_; refine W.then ?_; refine W.region ?_
      (refine W.q (Ev.add (.t rfl) .k (fun _ => by omega)) rfl ?_)
      refine W.q (Ev.move (.t rfl)) rfl ?_; refine W.nil ?_; refine W.then ?_
      rw [← hsu]
      refine W.reach (D := []) (i + 1) ⟨rfl, rfl, rfl, rfl, rfl, rfl, trivial⟩ (.refl _) ⟨hlt, by show A.final.length - (i + 1) < A.final.length - i; omega⟩
  · rw [hend, Sch.tgI_all]
    refine W.seq ?_; refine W.region ?_; refine W.q (Ev.lti (.t rfl) (.t rfl)) rfl ?_; refine W.nil ?_; refine W.then ?_; refine W.seq ?_; refine W.is (t := 22) (g := true) (av' := .lit (.bool false)) rfl (congrArg (fun b => AV.lit (.bool b)) (by exact decide_eq_false (by omega))) ?_; refine W.condF (.t rfl) ?_; refine W.exit ?_; refine W.then_exit ?_; refine W.then_exit ?_; refine W.blk_hit ?_; refine W.then ?_; refine W.seq ?_; refine W.seq ?_; refine W.region ?_; refine W.q (Ev.assign .k) rfl ?_; refine W.nil ?_; refine W.then ?_; refine W.block ?_; refine W.loop (D := []) (ι := Nat × List Int × Bool) (fun z => [(8, true, .bool z.2.2), (0, true, .lit (.pointer (some ⟨b, 0, none⟩))), (3, true, .lit (.pointer (some ⟨b3, 0, none⟩))), (5, true, .lit v17)]) (fun z => [.arr v17 3 1 (z.2.1.map AV.int), .box b3 62 [.sl 1 (A.next.map pav), .sl 1 (A.final.map AV.bool)], .box b 76 [.sl 3 (ts.map tpv), .sl 2 (as_.map Au.avx), .lit vs], .arr vs 3 1 (sz.map AV.int)]) (fun z => z.2.1.length = A.next.length ∧ ((z.2.2 = true ∧ Sch.tgo sz A z.1 z.2.1 = some out) ∨ (z.2.2 = false ∧ z.2.1 = out))) (fun z => if z.2.2 = true then z.1 + 1 else 0) (12, A.final.map (fun b => if b = true then (0 : Int) else -1), true) ⟨rfl, rfl, rfl, rfl, trivial⟩ (.refl _) ⟨by rw [List.length_map, hfn], .inl ⟨rfl, htg⟩⟩ ?_
    rintro ⟨f, o, mo⟩ ⟨hol0, hor⟩
    dsimp only at hol0 hor ⊢
    rcases hor with ⟨rfl, hrun⟩ | ⟨rfl, rfl⟩
    · obtain ⟨m, rfl⟩ : ∃ m, f = m + 1 := by cases f; (cases hrun); exact ⟨_, rfl⟩
      simp only [Sch.tgo] at hrun
      refine W.seq ?_; refine W.seq ?_; refine W.region ?_; refine W.q (Ev.move (.t rfl)) rfl ?_; refine W.nil ?_; refine W.then ?_; refine W.condT (.t rfl) ?_; refine W.skip ?_; refine W.then ?_; refine W.block ?_; refine W.seq ?_; refine W.region ?_; refine W.q (Ev.assign .k) rfl ?_; refine W.nil ?_; refine W.then ?_; refine W.seq ?_; refine W.region ?_
      (refine W.q (Ev.fab (.t rfl) fa62_0) rfl ?_)
      (refine W.q (Ev.ldb1 1 (.t rfl) rfl ag59 rfl) rfl ?_)
      (refine W.q (Ev.lensl (.t rfl) Tryz.underlying59) rfl ?_)
      refine W.q (Ev.move .k) rfl ?_; refine W.nil ?_; refine W.then ?_; refine W.block ?_; refine W.loop (D := []) (ι := Nat) (fun i => [(36, true, .int (i : Int)), (35, true, .int ((A.next.map pav).length : Int)), (34, true, .sl 1 (A.next.map pav)), (8, true, .bool (Sch.rndc sz A (o, false) i).2), (0, true, .lit (.pointer (some ⟨b, 0, none⟩))), (3, true, .lit (.pointer (some ⟨b3, 0, none⟩))), (5, true, .lit v17)]) (fun i => [.arr v17 3 1 ((Sch.rndc sz A (o, false) i).1.map AV.int), .box b3 62 [.sl 1 (A.next.map pav), .sl 1 (A.final.map AV.bool)], .box b 76 [.sl 3 (ts.map tpv), .sl 2 (as_.map Au.avx), .lit vs], .arr vs 3 1 (sz.map AV.int)]) (fun i => i ≤ A.next.length) (fun i => A.next.length - i) 0 ⟨rfl, rfl, rfl, rfl, rfl, rfl, rfl, trivial⟩ (.refl _) (Nat.zero_le _) ?_; intro i hi
      dsimp only at hi ⊢
      rcases (show i < A.next.length ∨ i = A.next.length from by omega) with hlti | hend
      · have hgr := getD_mapG pav [] A.next i hlti
        have hrm := getD_memG [] A.next i hlti
        have hr8 := hsh.mem_row _ hrm
        have hent := hsh.mem_ent _ hrm
        have hcl := hcol _ hrm
        have hsi := Sch.rndc_succ sz A (o, false) i
        generalize A.next.getD i [] = row at hgr hrm hr8 hent hcl hsi
        have hrl : (row.map AV.int).length = 8 := by rw [List.length_map]; exact hr8
        refine W.seq ?_; refine W.region ?_; refine W.q (Ev.lti (.t rfl) (.t rfl)) rfl ?_; refine W.nil ?_; refine W.then ?_; refine W.seq ?_; refine W.is (t := 37) (g := true) (av' := .lit (.bool true)) rfl (congrArg (fun b => AV.lit (.bool b)) (by exact decide_eq_true (by omega))) ?_; refine W.condT (.t rfl) ?_; refine W.skip ?_; refine W.then ?_; refine W.seq ?_; refine W.block ?_; refine W.seq ?_; refine W.region ?_; refine W.q (Ev.move (.t rfl)) rfl ?_; refine W.q (Ev.at (E := 22) (.t rfl) (.t rfl) Tryz.underlying59 ty22 (fun _ => ⟨by omega, hgr⟩) rfl rfl) rfl ?_
        (refine W.q (Ev.lde1 (.t rfl) ag22) rfl ?_)
        refine W.q (Ev.assign (.t rfl)) rfl ?_; refine W.q (Ev.assign (.t rfl)) rfl ?_; refine W.nil ?_; refine W.then ?_; refine W.seq ?_; refine W.region ?_; refine W.q (Ev.move (.t rfl)) rfl ?_
        (refine W.q (Ev.lensl (.t rfl) Tryz.underlying22) rfl ?_)
        refine W.q (Ev.move .k) rfl ?_; refine W.nil ?_; refine W.then ?_; refine W.block ?_; refine W.loop (D := []) (ι := Nat) (fun k => [(43, true, .int (k : Int)), (42, true, .int ((row.map AV.int).length : Int)), (41, true, .sl 1 (row.map AV.int)), (9, true, .int (i : Int)), (36, true, .int (i : Int)), (35, true, .int ((A.next.map pav).length : Int)), (34, true, .sl 1 (A.next.map pav)), (10, true, .sl 1 (row.map AV.int)), (8, true, .bool (Sch.rowc sz i row (Sch.rndc sz A (o, false) i) k).2), (0, true, .lit (.pointer (some ⟨b, 0, none⟩))), (3, true, .lit (.pointer (some ⟨b3, 0, none⟩))), (5, true, .lit v17)]) (fun k => [.arr v17 3 1 ((Sch.rowc sz i row (Sch.rndc sz A (o, false) i) k).1.map AV.int), .box b3 62 [.sl 1 (A.next.map pav), .sl 1 (A.final.map AV.bool)], .box b 76 [.sl 3 (ts.map tpv), .sl 2 (as_.map Au.avx), .lit vs], .arr vs 3 1 (sz.map AV.int)]) (fun k => k ≤ 8) (fun k => 8 - k) 0 ⟨rfl, rfl, rfl, rfl, rfl, rfl, rfl, rfl, rfl, rfl, rfl, rfl, trivial⟩ (.refl _) (Nat.zero_le _) ?_; intro k hk
        dsimp only at hk ⊢
        have hol : ((Sch.rowc sz i row (Sch.rndc sz A (o, false) i) k).1.map AV.int).length = A.next.length := by rw [List.length_map, Sch.rowc_len, Sch.rndc_len]; exact hol0
        have hol1 : (Sch.rowc sz i row (Sch.rndc sz A (o, false) i) k).1.length = A.next.length := by rw [Sch.rowc_len, Sch.rndc_len]; exact hol0
        obtain ⟨to, hto⟩ : ∃ z, row.getD k (-1) = z := ⟨_, rfl⟩
        rcases (show (k < 8 ∧ to < 0) ∨ (k < 8 ∧ 0 ≤ to) ∨ k = 8 from by omega) with ⟨hlt, hneg⟩ | ⟨hlt, hpos⟩ | hend
        · have hgt : (row.map AV.int)[k]? = some (AV.int to) := by rw [List.getElem?_map, ← hto, List.getD_eq_getElem?_getD, List.getElem?_eq_getElem (show k < row.length by omega)]; rfl
          refine W.seq ?_; refine W.region ?_; refine W.q (Ev.lti (.t rfl) (.t rfl)) rfl ?_; refine W.nil ?_; refine W.then ?_; refine W.seq ?_; refine W.is (t := 44) (g := true) (av' := .lit (.bool true)) rfl (congrArg (fun b => AV.lit (.bool b)) (by exact decide_eq_true (by omega))) ?_; refine W.condT (.t rfl) ?_; refine W.skip ?_; refine W.then ?_; refine W.seq ?_; refine W.block ?_; refine W.seq ?_; refine W.region ?_; refine W.q (Ev.move (.t rfl)) rfl ?_; refine W.q (Ev.at (E := 3) (.t rfl) (.t rfl) Tryz.underlying22 ty3 (fun _ => ⟨by omega, hgt⟩) rfl rfl) rfl ?_
          (refine W.q (Ev.lde1 (.t rfl) ag3) rfl ?_)
          refine W.q (Ev.assign (.t rfl)) rfl ?_; refine W.q (Ev.assign (.t rfl)) rfl ?_; refine W.nil ?_; refine W.then ?_; refine W.seq ?_; refine W.seq ?_; refine W.region ?_; refine W.q (Ev.move (.t rfl)) rfl ?_; refine W.q (Ev.lti (.t rfl) .k) rfl ?_; refine W.q (Ev.move (.t rfl)) rfl ?_; refine W.is (t := 50) (g := true) (av' := .bool true) rfl (congrArg AV.bool (decide_eq_true hneg)) ?_; refine W.gnob rfl rfl (by simp) rfl ?_; refine W.gnob rfl rfl (by simp) rfl ?_; refine W.gnob rfl rfl (by simp) rfl ?_; refine W.gnob rfl rfl (by simp) rfl ?_; refine W.gnob rfl rfl (by simp) rfl ?_; refine W.q (Ev.or (.t rfl) ⟨_, _, rfl, rfl, by ((simp; done))⟩) rfl ?_; refine W.q (Ev.move (.t rfl)) rfl ?_; refine W.is (t := 57) (g := true) (av' := .bool true) rfl (congrArg AV.bool (by simp)) ?_; refine W.gnob rfl rfl (by simp) rfl ?_; refine W.gnob rfl rfl (by simp) rfl ?_; refine W.gnob rfl rfl (by simp) rfl ?_; refine W.gnob rfl rfl (by simp) rfl ?_; refine W.gnob rfl rfl (by simp) rfl ?_; refine W.gnob rfl rfl (by simp) rfl ?_; refine W.gnob rfl rfl (by simp) rfl ?_; refine W.gnob rfl rfl (by simp) rfl ?_; refine W.q (Ev.or (.t rfl) ⟨_, _, rfl, rfl, by ((simp; done))⟩) rfl ?_; refine W.nil ?_; refine W.then ?_; refine W.is (t := 66) (g := true) (av' := .lit (.bool true)) rfl (congrArg (fun b => AV.lit (.bool b)) (by ((simp; done)))) ?_; refine W.condT (.t rfl) ?_; refine W.exit ?_; refine W.then_exit ?_; refine W.blk_hit ?_; refine W.then ?_; refine W.region ?_
          (refine W.q (Ev.add (.t rfl) .k (fun _ => by omega)) rfl ?_)
          refine W.q (Ev.move (.t rfl)) rfl ?_; refine W.nil ?_; refine W.then ?_
          have hst2 : Sch.rowc sz i row (Sch.rndc sz A (o, false) i) (k + 1) = Sch.rowc sz i row (Sch.rndc sz A (o, false) i) k := by rw [Sch.rowc_succ, hto]; exact if_pos (.inl hneg)
          refine W.is (t := 8) (g := true) (av' := .bool (Sch.rowc sz i row (Sch.rndc sz A (o, false) i) (k + 1)).2) rfl (congrArg AV.bool (by rw [hst2])) ?_
          rw [← hst2]
          refine W.reach (D := []) (k + 1) ⟨rfl, rfl, rfl, rfl, rfl, rfl, rfl, rfl, rfl, rfl, rfl, rfl, trivial⟩ (.refl _) ⟨hlt, by show 8 - (k + 1) < 8 - k; omega⟩
        · have hgt : (row.map AV.int)[k]? = some (AV.int to) := by rw [List.getElem?_map, ← hto, List.getD_eq_getElem?_getD, List.getElem?_eq_getElem (show k < row.length by omega)]; rfl
          have htn : to < A.next.length := (hent to (by rw [← hto]; exact getD_memG (-1) row k (by omega))).2
          have hks := hcl k hlt (by omega)
          have hgs := getD_map sz k hks
          have hgo := getD_map (Sch.rowc sz i row (Sch.rndc sz A (o, false) i) k).1 to.toNat (by omega)
          have hgi := getD_map (Sch.rowc sz i row (Sch.rndc sz A (o, false) i) k).1 i (by omega)
          refine W.seq ?_; refine W.region ?_; refine W.q (Ev.lti (.t rfl) (.t rfl)) rfl ?_; refine W.nil ?_; refine W.then ?_; refine W.seq ?_; refine W.is (t := 44) (g := true) (av' := .lit (.bool true)) rfl (congrArg (fun b => AV.lit (.bool b)) (by exact decide_eq_true (by omega))) ?_; refine W.condT (.t rfl) ?_; refine W.skip ?_; refine W.then ?_; refine W.seq ?_; refine W.block ?_; refine W.seq ?_; refine W.region ?_; refine W.q (Ev.move (.t rfl)) rfl ?_; refine W.q (Ev.at (E := 3) (.t rfl) (.t rfl) Tryz.underlying22 ty3 (fun _ => ⟨by omega, hgt⟩) rfl rfl) rfl ?_
          (refine W.q (Ev.lde1 (.t rfl) ag3) rfl ?_)
          refine W.q (Ev.assign (.t rfl)) rfl ?_; refine W.q (Ev.assign (.t rfl)) rfl ?_; refine W.nil ?_; refine W.then ?_; refine W.seq ?_; refine W.seq ?_; refine W.region ?_; refine W.q (Ev.move (.t rfl)) rfl ?_; refine W.q (Ev.lti (.t rfl) .k) rfl ?_; refine W.q (Ev.move (.t rfl)) rfl ?_; refine W.is (t := 50) (g := true) (av' := .bool false) rfl (congrArg AV.bool (decide_eq_false (by omega))) ?_; refine W.gyes rfl rfl ?_; refine W.q (Ev.move (.t rfl)) rfl ?_; refine W.gyes rfl rfl ?_; refine W.q (Ev.move (.t rfl)) rfl ?_; refine W.gyes rfl rfl ?_; refine W.q (Ev.ata 0 (.t rfl) rfl (.t rfl) Tryz.underlying22 ty3 (fun hg => by rw [hol]; omega)) rfl ?_; refine W.gyes rfl rfl ?_; refine W.q (Ev.lda1 0 to.toNat 0 (.t rfl) rfl hgo (by omega) rfl rfl rfl ag3) rfl ?_; refine W.gyes rfl rfl ?_; refine W.q (Ev.lti (.t rfl) .k) rfl ?_; refine W.q (Ev.or (.t rfl) ⟨_, _, rfl, rfl, by ((simp; done))⟩) rfl ?_; refine W.q (Ev.move (.t rfl)) rfl ?_; refine W.qgF rfl rfl (Ev.move (.t rfl)) rfl ?_; refine W.qgF rfl rfl (Ev.nilc (.c rfl)) rfl ?_
          (refine W.qgF rfl rfl (Ev.fab (.c rfl) fa76_2) rfl ?_)
          (refine W.qgF rfl rfl (Ev.ldb1 2 (.c rfl) rfl ag22 rfl) rfl ?_)
          refine W.qgF rfl rfl (Ev.move (.t rfl)) rfl ?_; refine W.qgF rfl rfl (Ev.ata 3 (.c rfl) rfl (.c rfl) Tryz.underlying22 ty3 (fun hg => by omega)) rfl ?_; refine W.qgF rfl rfl (Ev.lda1 3 k 0 (.c rfl) rfl hgs (by omega) rfl rfl rfl ag3) rfl ?_; refine W.qgF rfl rfl (Ev.eqi (.c rfl) .k) rfl ?_; refine W.q (Ev.or (.t rfl) ⟨_, _, rfl, rfl, by ((simp; done))⟩) rfl ?_; refine W.nil ?_; refine W.then ?_; refine W.cond (.t rfl) (fun hc_t66 => ?_) (fun hc_t66 => ?_)
          · have hst2 : Sch.rowc sz i row (Sch.rndc sz A (o, false) i) (k + 1) = Sch.rowc sz i row (Sch.rndc sz A (o, false) i) k := by rw [Sch.rowc_succ, hto]; unfold Sch.stepc; refine if_pos (.inr ?_); simpa using hc_t66
            refine W.exit ?_; refine W.then_exit ?_; refine W.blk_hit ?_; refine W.then ?_; refine W.region ?_
            (refine W.q (Ev.add (.t rfl) .k (fun _ => by omega)) rfl ?_)
            refine W.q (Ev.move (.t rfl)) rfl ?_; refine W.nil ?_; refine W.then ?_; refine W.is (t := 8) (g := true) (av' := .bool (Sch.rowc sz i row (Sch.rndc sz A (o, false) i) (k + 1)).2) rfl (congrArg AV.bool (by rw [hst2])) ?_
            rw [← hst2]
            refine W.reach (D := []) (k + 1) ⟨rfl, rfl, rfl, rfl, rfl, rfl, rfl, rfl, rfl, rfl, rfl, rfl, trivial⟩ (.refl _) ⟨hlt, by show 8 - (k + 1) < 8 - k; omega⟩
          · have h66 : ¬ (to < 0 ∨ (Sch.rowc sz i row (Sch.rndc sz A (o, false) i) k).1.getD to.toNat 0 < 0 ∨ sz.getD k 0 = 0) := by have hn0 : ¬ to < 0 := (by omega); simp only [hn0, false_or]; simpa using hc_t66
            refine W.skip ?_; refine W.then ?_; refine W.seq ?_; refine W.drawn (by kernel_rfl) (by kernel_rfl) ?_; refine DP.q (Ev.move (.t rfl)) rfl ?_; refine DP.q (Ev.nilc (.t rfl)) rfl ?_
            (refine DP.q (Ev.fab (.t rfl) fa76_2) rfl ?_)
            (refine DP.q (Ev.ldb1 2 (.t rfl) rfl ag22 rfl) rfl ?_)
            refine DP.q (Ev.move (.t rfl)) rfl ?_; refine DP.q (Ev.ata 3 (.t rfl) rfl (.t rfl) Tryz.underlying22 ty3 (fun hg => by omega)) rfl ?_; refine DP.q (Ev.lda1 3 k 0 (.t rfl) rfl hgs (by omega) rfl rfl rfl ag3) rfl ?_; refine DP.q (Ev.move (.t rfl)) rfl ?_; refine DP.q (Ev.move (.t rfl)) rfl ?_; refine DP.q (Ev.ata 0 (.t rfl) rfl (.t rfl) Tryz.underlying22 ty3 (fun hg => by rw [hol]; omega)) rfl ?_; refine DP.q (Ev.lda1 0 to.toNat 0 (.t rfl) rfl hgo (by omega) rfl rfl rfl ag3) rfl ?_
            (refine DP.q (Ev.addw (.t rfl) (.t rfl)) rfl ?_)
            refine DP.q (Ev.assign (.t rfl)) rfl ?_; refine DP.nil ?_; refine W.then ?_; refine W.seq ?_; refine W.region ?_; refine W.q (Ev.move (.t rfl)) rfl ?_; refine W.q (Ev.move (.t rfl)) rfl ?_; refine W.q (Ev.ata 0 (.t rfl) rfl (.t rfl) Tryz.underlying22 ty3 (fun hg => by rw [hol]; omega)) rfl ?_; refine W.q (Ev.lda1 0 i 0 (.t rfl) rfl hgi (by omega) rfl rfl rfl ag3) rfl ?_; refine W.q (Ev.lti (.t rfl) .k) rfl ?_; refine W.q (Ev.move (.t rfl)) rfl ?_; refine W.qgF rfl rfl (Ev.move (.t rfl)) rfl ?_; refine W.qgF rfl rfl (Ev.move (.t rfl)) rfl ?_; refine W.qgF rfl rfl (Ev.move (.t rfl)) rfl ?_; refine W.qgF rfl rfl (Ev.ata 0 (.c rfl) rfl (.c rfl) Tryz.underlying22 ty3 (fun hg => by rw [hol]; omega)) rfl ?_; refine W.qgF rfl rfl (Ev.lda1 0 i 0 (.c rfl) rfl hgi (by omega) rfl rfl rfl ag3) rfl ?_; refine W.qgF rfl rfl (Ev.lti (.c rfl) (.c rfl)) rfl ?_; refine W.q (Ev.or (.t rfl) ⟨_, _, rfl, rfl, by ((simp; done))⟩) rfl ?_; refine W.nil ?_; refine W.then ?_; refine W.cond (.t rfl) (fun hc_t91 => ?_) (fun hc_t91 => ?_)
            · have hst2 : Sch.rowc sz i row (Sch.rndc sz A (o, false) i) (k + 1) = ((Sch.rowc sz i row (Sch.rndc sz A (o, false) i) k).1.set i (Sch.wr (sz.getD k 0 + (Sch.rowc sz i row (Sch.rndc sz A (o, false) i) k).1.getD to.toNat 0)), true) := by rw [Sch.rowc_succ, hto]; unfold Sch.stepc; rw [if_neg h66]; refine if_pos ?_; simpa [Sch.wr] using hc_t91
              refine W.region ?_; refine W.q (Ev.move (.t rfl)) rfl ?_; refine W.q (Ev.move (.t rfl)) rfl ?_; refine W.q (Ev.move (.t rfl)) rfl ?_; refine W.q (Ev.ata 0 (.t rfl) rfl (.t rfl) Tryz.underlying22 ty3 (fun hg => by rw [hol]; omega)) rfl ?_; refine W.sta 0 i 0 (e := AV.int ((Sch.rowc sz i row (Sch.rndc sz A (o, false) i) k).1.getD i 0)) (e' := AV.int (Sch.wr (sz.getD k 0 + (Sch.rowc sz i row (Sch.rndc sz A (o, false) i) k).1.getD to.toNat 0))) (.t rfl) (.t rfl) rfl hgi (by omega) ty3 rfl rfl rfl rfl rfl rfl rfl ?_; refine W.q (Ev.assign .k) rfl ?_; refine W.nil ?_; refine W.blk_normal ?_; refine W.then ?_; refine W.region ?_
              (refine W.q (Ev.add (.t rfl) .k (fun _ => by omega)) rfl ?_)
              refine W.q (Ev.move (.t rfl)) rfl ?_; refine W.nil ?_; refine W.then ?_; refine W.is (t := 8) (g := true) (av' := .bool (Sch.rowc sz i row (Sch.rndc sz A (o, false) i) (k + 1)).2) rfl (congrArg AV.bool (by rw [hst2])) ?_
              rw [← List.map_set, show (Sch.rowc sz i row (Sch.rndc sz A (o, false) i) k).1.set i (Sch.wr (sz.getD k 0 + (Sch.rowc sz i row (Sch.rndc sz A (o, false) i) k).1.getD to.toNat 0)) = (Sch.rowc sz i row (Sch.rndc sz A (o, false) i) (k + 1)).1 from by rw [hst2]]
              refine W.reach (D := []) (k + 1) ⟨rfl, rfl, rfl, rfl, rfl, rfl, rfl, rfl, rfl, rfl, rfl, rfl, trivial⟩ (.refl _) ⟨hlt, by show 8 - (k + 1) < 8 - k; omega⟩
            · have hst2 : Sch.rowc sz i row (Sch.rndc sz A (o, false) i) (k + 1) = Sch.rowc sz i row (Sch.rndc sz A (o, false) i) k := by rw [Sch.rowc_succ, hto]; unfold Sch.stepc; rw [if_neg h66]; refine if_neg ?_; simpa [Sch.wr] using hc_t91
              refine W.skip ?_; refine W.blk_normal ?_; refine W.then ?_; refine W.region ?_
              (refine W.q (Ev.add (.t rfl) .k (fun _ => by omega)) rfl ?_)
              refine W.q (Ev.move (.t rfl)) rfl ?_; refine W.nil ?_; refine W.then ?_; refine W.is (t := 8) (g := true) (av' := .bool (Sch.rowc sz i row (Sch.rndc sz A (o, false) i) (k + 1)).2) rfl (congrArg AV.bool (by rw [hst2])) ?_
              rw [← hst2]
              refine W.reach (D := []) (k + 1) ⟨rfl, rfl, rfl, rfl, rfl, rfl, rfl, rfl, rfl, rfl, rfl, rfl, trivial⟩ (.refl _) ⟨hlt, by show 8 - (k + 1) < 8 - k; omega⟩
        · subst hend
          refine W.seq ?_; refine W.region ?_; refine W.q (Ev.lti (.t rfl) (.t rfl)) rfl ?_; refine W.nil ?_; refine W.then ?_; refine W.seq ?_; refine W.is (t := 44) (g := true) (av' := .lit (.bool false)) rfl (congrArg (fun b => AV.lit (.bool b)) (by exact decide_eq_false (by omega))) ?_; refine W.condF (.t rfl) ?_; refine W.exit ?_; refine W.then_exit ?_; refine W.then_exit ?_; refine W.blk_hit ?_; refine W.blk_normal ?_; refine W.then ?_; refine W.region ?_
          (refine W.q (Ev.add (.t rfl) .k (fun _ => by omega)) rfl ?_)
          refine W.q (Ev.move (.t rfl)) rfl ?_; refine W.nil ?_; refine W.then ?_
          rw [← hsi]
          refine W.reach (D := []) (i + 1) ⟨rfl, rfl, rfl, rfl, rfl, rfl, rfl, trivial⟩ (.refl _) ⟨hlti, by show A.next.length - (i + 1) < A.next.length - i; omega⟩
      · rw [hend]
        have hrl2 := Sch.rndc_len sz A (o, false) A.next.length
        have hor2 : ((Sch.rndc sz A (o, false) A.next.length).2 = true ∧ Sch.tgo sz A m (Sch.rndc sz A (o, false) A.next.length).1 = some out) ∨ ((Sch.rndc sz A (o, false) A.next.length).2 = false ∧ (Sch.rndc sz A (o, false) A.next.length).1 = out) := by
          split at hrun
          · rename_i h; exact .inl ⟨h, hrun⟩
          · rename_i h; exact .inr ⟨Bool.eq_false_iff.2 h, Option.some.inj hrun⟩
        refine W.seq ?_; refine W.region ?_; refine W.q (Ev.lti (.t rfl) (.t rfl)) rfl ?_; refine W.nil ?_; refine W.then ?_; refine W.seq ?_; refine W.is (t := 37) (g := true) (av' := .lit (.bool false)) rfl (congrArg (fun b => AV.lit (.bool b)) (by exact decide_eq_false (by omega))) ?_; refine W.condF (.t rfl) ?_; refine W.exit ?_; refine W.then_exit ?_; refine W.then_exit ?_; refine W.blk_hit ?_; refine W.blk_normal ?_; refine W.then ?_; refine W.reach (D := []) (m, (Sch.rndc sz A (o, false) A.next.length).1, (Sch.rndc sz A (o, false) A.next.length).2) ⟨rfl, rfl, rfl, rfl, trivial⟩ (.refl _) ⟨⟨by rw [hrl2]; exact hol0, hor2⟩, by have h1 : (if true = true then m + 1 + 1 else 0) = m + 2 := if_pos rfl; show (if (Sch.rndc sz A (o, false) A.next.length).2 = true then m + 1 else 0) < (if true = true then m + 1 + 1 else 0); rw [h1]; split <;> omega⟩
    · skip
      refine W.seq ?_; refine W.seq ?_; refine W.region ?_; refine W.q (Ev.move (.t rfl)) rfl ?_; refine W.nil ?_; refine W.then ?_; refine W.condF (.t rfl) ?_; refine W.exit ?_; refine W.then_exit ?_; refine W.then_exit ?_; refine W.blk_hit ?_; refine W.then ?_; refine W.seq ?_; refine W.region ?_; refine W.q (Ev.move (.t rfl)) rfl ?_; refine W.q (Ev.assign (.t rfl)) rfl ?_; refine W.nil ?_; refine W.then ?_; refine W.ret ?_; refine W.freeze (M1 := [.box b 76 [.sl 3 (ts.map tpv), .sl 2 (as_.map Au.avx), .lit vs], .arr vs 3 1 (sz.map AV.int)]) (M2 := [.box b 76 [.sl 3 (ts.map tpv), .sl 2 (as_.map Au.avx), .lit vs], .arr vs 3 1 (sz.map AV.int)]) (D := [_]) (v := v17) (L' := [(4, true, .sl 1 (o.map AV.int))]) (List.Perm.cons _ <| (List.perm_middle (l₁ := [_])).trans <| List.Perm.cons _ <| (List.perm_middle (l₁ := [_])).trans <| List.Perm.cons _ <| List.Perm.cons _ <| .refl _) ⟨⟨_, rfl, .one .hit⟩, trivial⟩ (FrzMs.refl _) ?_; refine W.retn (M' := [.box b 76 [.sl 3 (ts.map tpv), .sl 2 (as_.map Au.avx), .lit vs], .arr vs 3 1 (sz.map AV.int)]) (D := []) (rs := [.tmp 4]) (avs := [_]) Tryz.results90 ⟨rfl, trivial⟩ rfl (.refl _) ?_
      exact ⟨rfl, rfl⟩

end WToGo

end Go.Proofs.YtphlkdbglpcikaaGreatDoor
end
