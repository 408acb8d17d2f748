/-
  Expressions, without a program: letters that words have; that some word is meant; letters that are changed.
-/
import Derived.Test.YthhkionhimbekaaExprL
set_option linter.unusedVariables false
set_option linter.unusedSimpArgs false
namespace Go.Vl
namespace Lg
def over (N : Int) (A : Lg) : Prop := ∀ w, A w → ∀ c ∈ w, 0 ≤ c ∧ c < N
def live (A : Lg) : Prop := ∃ w, A w
section closed
variable {N : Int} {A B : Lg}
theorem over_none : over N none := fun w h => h.elim
theorem over_eps : over N eps := fun w h c hc => by rw [show w = [] from h] at hc; cases hc
theorem over_one {n : Int} (h0 : 0 ≤ n) (h : n < N) : over N (one n) := fun w hw c hc => by
  rw [show w = [n] from hw] at hc; rw [List.mem_singleton.1 hc]; exact ⟨h0, h⟩
theorem over.cat (ha : over N A) (hb : over N B) : over N (cat A B) := by
  rintro _ ⟨u, v, rfl, hu, hv⟩ c hc
  rcases List.mem_append.1 hc with hc | hc
  · exact ha u hu c hc
  · exact hb v hv c hc
theorem over.alt (ha : over N A) (hb : over N B) : over N (alt A B) := by
  rintro w (h | h)
  · exact ha w h
  · exact hb w h
theorem over.star (ha : over N A) : over N (star A) := by
  intro w hw
  induction hw with
  | nil => intro c hc; cases hc
  | cons u v hu _ ih =>
    intro c hc
    rcases List.mem_append.1 hc with hc | hc
    · exact ha u hu c hc
    · exact ih c hc
theorem over.sfl (ha : over N A) (k : Nat) : over N (sfl A k) := by
  unfold Lg.sfl
  split
  · exact ha.star
  · split
    · exact ha.cat ha.star
    · exact over_eps.alt ha
theorem over.foldl : ∀ (sf : List Nat) {A : Lg}, over N A → over N (sf.foldl Lg.sfl A)
  | [], _, h => h
  | k :: sf, _, h => over.foldl sf (h.sfl k)
theorem live.cat (ha : live A) (hb : live B) : live (cat A B) := by
  obtain ⟨u, hu⟩ := ha; obtain ⟨v, hv⟩ := hb; exact ⟨u ++ v, u, v, rfl, hu, hv⟩
theorem live.sfl (ha : live A) (k : Nat) : live (sfl A k) := by
  unfold Lg.sfl
  split
  · exact ⟨[], .nil⟩
  · split
    · exact ha.cat ⟨[], .nil⟩
    · exact ⟨[], .inl rfl⟩
theorem live.foldl : ∀ (sf : List Nat) {A : Lg}, live A → live (sf.foldl Lg.sfl A)
  | [], _, h => h
  | k :: sf, _, h => live.foldl sf (h.sfl k)
end closed
/-- all letters changed by so much -/
def shift (k : Int) (A : Lg) : Lg := fun w => ∃ v, w = v.map (· + k) ∧ A v
theorem shift_map (k : Int) (A : Lg) (w : List Int) : shift k A (w.map (· + k)) ↔ A w := by
  constructor
  · rintro ⟨v, e, hv⟩
    have : w = v := (List.map_inj_right (f := (· + k)) (fun x y h => by have h : x + k = y + k := h; omega)).1 e
    rw [this]; exact hv
  · intro h; exact ⟨w, rfl, h⟩
theorem shift_one (k n : Int) : shift k (one n) = one (n + k) := ext fun w => by
  constructor
  · rintro ⟨v, rfl, hv⟩; rw [show v = [n] from hv]; rfl
  · intro h; exact ⟨[n], h, rfl⟩
theorem shift_eps (k : Int) : shift k eps = eps := ext fun w => by
  constructor
  · rintro ⟨v, rfl, hv⟩; rw [show v = [] from hv]; rfl
  · intro h; exact ⟨[], h, rfl⟩
theorem shift_none (k : Int) : shift k none = none := ext fun w => ⟨fun ⟨_, _, h⟩ => h.elim, fun h => h.elim⟩
theorem shift_cat (k : Int) (A B : Lg) : shift k (cat A B) = cat (shift k A) (shift k B) := ext fun w => by
  constructor
  · rintro ⟨_, rfl, u, v, rfl, hu, hv⟩; exact ⟨u.map (· + k), v.map (· + k), by simp, ⟨u, rfl, hu⟩, v, rfl, hv⟩
  · rintro ⟨_, _, rfl, ⟨u, rfl, hu⟩, v, rfl, hv⟩; exact ⟨u ++ v, by simp, u, v, rfl, hu, hv⟩
theorem shift_alt (k : Int) (A B : Lg) : shift k (alt A B) = alt (shift k A) (shift k B) := ext fun w => by
  constructor
  · rintro ⟨v, e, h | h⟩
    · exact .inl ⟨v, e, h⟩
    · exact .inr ⟨v, e, h⟩
  · rintro (⟨v, e, h⟩ | ⟨v, e, h⟩)
    · exact ⟨v, e, .inl h⟩
    · exact ⟨v, e, .inr h⟩
theorem shift_star (k : Int) (A : Lg) : shift k (star A) = star (shift k A) := ext fun w => by
  constructor
  · rintro ⟨v, rfl, hv⟩
    induction hv with
    | nil => exact .nil
    | cons a b ha _ ih => rw [List.map_append]; exact .cons _ _ ⟨a, rfl, ha⟩ ih
  · intro h
    induction h with
    | nil => exact ⟨[], rfl, .nil⟩
    | cons a b ha _ ih =>
      obtain ⟨u, rfl, hu⟩ := ha
      obtain ⟨v, rfl, hv⟩ := ih
      exact ⟨u ++ v, by simp, .cons u v hu hv⟩
theorem shift_sfl (k : Int) (A : Lg) (j : Nat) : shift k (sfl A j) = sfl (shift k A) j := by
  unfold Lg.sfl
  split
  · exact shift_star k A
  · split
    · rw [shift_cat, shift_star]
    · rw [shift_alt, shift_eps]
theorem shift_foldl (k : Int) : ∀ (sf : List Nat) (A : Lg), shift k (sf.foldl Lg.sfl A) = sf.foldl Lg.sfl (shift k A)
  | [], _ => rfl
  | j :: sf, A => by rw [List.foldl_cons, List.foldl_cons, shift_foldl k sf, shift_sfl]
end Lg
namespace It
mutual
/-- letters blw N -/
def blw (N : Nat) : It → Prop
  | ch n _ => n < N
  | gr s a _ => blws N s ∧ blwa N a
def blws (N : Nat) : List It → Prop
  | [] => True
  | i :: s => blw N i ∧ blws N s
def blwa (N : Nat) : List (List It) → Prop
  | [] => True
  | s :: a => blws N s ∧ blwa N a
end
theorem blws_iff (N : Nat) (s : List It) : blws N s ↔ ∀ i ∈ s, blw N i := by
  induction s with
  | nil => simp [blws]
  | cons d l ih => simp [blws, ih]
theorem blwa_iff (N : Nat) (a : List (List It)) : blwa N a ↔ ∀ s ∈ a, blws N s := by
  induction a with
  | nil => simp [blwa]
  | cons d l ih => simp [blwa, ih]
theorem blws_append {N : Nat} {s t : List It} (hs : blws N s) (ht : blws N t) : blws N (s ++ t) :=
  (blws_iff N _).2 fun i hi => (List.mem_append.1 hi).elim ((blws_iff N s).1 hs i) ((blws_iff N t).1 ht i)
theorem oks_append {s t : List It} (hs : oks s) (ht : oks t) : oks (s ++ t) :=
  (oks_iff _).2 fun i hi => (List.mem_append.1 hi).elim ((oks_iff s).1 hs i) ((oks_iff t).1 ht i)
theorem slg_over' {N : Nat} (s : List It) (h : ∀ i ∈ s, Lg.over N (lg i)) : Lg.over N (slg s) := by
  induction s with
  | nil => exact Lg.over_eps
  | cons i s ih => rw [slg]; exact (h i List.mem_cons_self).cat (ih fun j hj => h j (List.mem_cons_of_mem _ hj))
theorem alg_over' {N : Nat} (a : List (List It)) (h : ∀ t ∈ a, Lg.over N (slg t)) : Lg.over N (alg a) := by
  induction a with
  | nil => exact Lg.over_none
  | cons t a ih => rw [alg]; exact (h t List.mem_cons_self).alt (ih fun j hj => h j (List.mem_cons_of_mem _ hj))
theorem lg_over {N : Nat} : ∀ i : It, blw N i → Lg.over N (lg i) := by
  refine rec' ?_ ?_
  · intro n sf h
    simp only [blw] at h
    rw [lg]; exact (Lg.over_one (by omega) (by omega)).foldl sf
  · intro s a sf h1 h2 h
    simp only [blw, blws_iff, blwa_iff] at h
    rw [lg]
    exact ((slg_over' s fun i hi => h1 i hi (h.1 i hi)).alt (alg_over' a fun t ht => slg_over' t fun i hi => h2 t ht i hi (h.2 t ht i hi))).foldl sf
theorem slg_over {N : Nat} (s : List It) (h : blws N s) : Lg.over N (slg s) := slg_over' s fun i hi => lg_over i ((blws_iff N s).1 h i hi)
theorem slg_live' (s : List It) (h : ∀ i ∈ s, Lg.live (lg i)) : Lg.live (slg s) := by
  induction s with
  | nil => exact ⟨[], rfl⟩
  | cons i s ih => rw [slg]; exact (h i List.mem_cons_self).cat (ih fun j hj => h j (List.mem_cons_of_mem _ hj))
theorem lg_live : ∀ i : It, Lg.live (lg i) := by
  refine rec' ?_ ?_
  · intro n sf
    rw [lg]; exact Lg.live.foldl sf ⟨[(n : Int)], rfl⟩
  · intro s a sf h1 _
    rw [lg]
    obtain ⟨w, hw⟩ := slg_live' s h1
    exact Lg.live.foldl sf ⟨w, .inl hw⟩
theorem slg_live (s : List It) : Lg.live (slg s) := slg_live' s fun i _ => lg_live i
mutual
/-- letters that are changed -/
def ren (k : Nat) : It → It
  | ch n sf => ch (n + k) sf
  | gr s a sf => gr (rens k s) (rena k a) sf
def rens (k : Nat) : List It → List It
  | [] => []
  | i :: s => ren k i :: rens k s
def rena (k : Nat) : List (List It) → List (List It)
  | [] => []
  | s :: a => rens k s :: rena k a
end
theorem rens_map (k : Nat) (s : List It) : rens k s = s.map (ren k) := by
  induction s with
  | nil => rfl
  | cons i s ih => rw [rens, ih]; rfl
theorem rena_map (k : Nat) (a : List (List It)) : rena k a = a.map (rens k) := by
  induction a with
  | nil => rfl
  | cons i s ih => rw [rena, ih]; rfl
theorem slg_ren' (k : Nat) (s : List It) (h : ∀ i ∈ s, lg (ren k i) = Lg.shift k (lg i)) : slg (rens k s) = Lg.shift k (slg s) := by
  induction s with
  | nil => rw [rens, slg, Lg.shift_eps]
  | cons i s ih => rw [rens, slg, slg, Lg.shift_cat, h i List.mem_cons_self, ih fun j hj => h j (List.mem_cons_of_mem _ hj)]
theorem alg_ren' (k : Nat) (a : List (List It)) (h : ∀ t ∈ a, slg (rens k t) = Lg.shift k (slg t)) : alg (rena k a) = Lg.shift k (alg a) := by
  induction a with
  | nil => rw [rena, alg, Lg.shift_none]
  | cons t a ih => rw [rena, alg, alg, Lg.shift_alt, h t List.mem_cons_self, ih fun j hj => h j (List.mem_cons_of_mem _ hj)]
theorem lg_ren (k : Nat) : ∀ i : It, lg (ren k i) = Lg.shift k (lg i) := by
  refine rec' ?_ ?_
  · intro n sf
    rw [ren, lg, lg, Lg.shift_foldl, Lg.shift_one]; rfl
  · intro s a sf h1 h2
    rw [ren, lg, lg, Lg.shift_foldl, Lg.shift_alt, slg_ren' k s h1, alg_ren' k a fun t ht => slg_ren' k t (h2 t ht)]
theorem slg_ren (k : Nat) (s : List It) : slg (rens k s) = Lg.shift k (slg s) := slg_ren' k s fun i _ => lg_ren k i
/-- .. and their texts -/
def rc (k : Nat) (c : UInt8) : UInt8 := if 97 ≤ c.toNat ∧ c.toNat ≤ 99 then c + UInt8.ofNat k else c
theorem sg_rc (k j : Nat) : rc k (sg j) = sg j := by
  unfold sg; split
  · rfl
  · split <;> rfl
theorem ch_rc (k n : Nat) (hn : n < 3) : rc k (97 + UInt8.ofNat n) = 97 + UInt8.ofNat (n + k) := by
  have : (97 + UInt8.ofNat n).toNat = 97 + n := by
    rcases (show n = 0 ∨ n = 1 ∨ n = 2 from by omega) with rfl | rfl | rfl <;> rfl
  unfold rc
  rw [if_pos (by omega), UInt8.ofNat_add, UInt8.add_assoc]
theorem map_rc_sg (k : Nat) (sf : List Nat) : (sf.map sg).map (rc k) = sf.map sg := by
  rw [List.map_map]; exact List.map_congr_left fun j _ => sg_rc k j
theorem stx_ren' (k : Nat) (s : List It) (h : ∀ i ∈ s, tx (ren k i) = (tx i).map (rc k)) : stx (rens k s) = (stx s).map (rc k) := by
  induction s with
  | nil => rfl
  | cons i s ih => rw [rens, stx, stx, List.map_append, h i List.mem_cons_self, ih fun j hj => h j (List.mem_cons_of_mem _ hj)]
theorem atl_ren' (k : Nat) (a : List (List It)) (h : ∀ t ∈ a, stx (rens k t) = (stx t).map (rc k)) : atl (rena k a) = (atl a).map (rc k) := by
  induction a with
  | nil => rfl
  | cons t a ih =>
    rw [rena, atl, atl, List.map_cons, List.map_append, h t List.mem_cons_self, ih fun j hj => h j (List.mem_cons_of_mem _ hj)]
    rfl
theorem tx_ren (k : Nat) : ∀ i : It, blw 3 i → tx (ren k i) = (tx i).map (rc k) := by
  refine rec' ?_ ?_
  · intro n sf h
    simp only [blw] at h
    rw [ren, tx, tx, List.map_cons, ch_rc k n h, map_rc_sg]
  · intro s a sf h1 h2 h
    simp only [blw, blws_iff, blwa_iff] at h
    rw [ren, tx, tx, stx_ren' k s fun i hi => h1 i hi (h.1 i hi), atl_ren' k a fun t ht => stx_ren' k t fun i hi => h2 t ht i hi (h.2 t ht i hi)]
    simp only [List.map_cons, List.map_append, map_rc_sg]
    rfl
theorem stx_ren (k : Nat) (s : List It) (h : blws 3 s) : stx (rens k s) = (stx s).map (rc k) := stx_ren' k s fun i hi => tx_ren k i ((blws_iff 3 s).1 h i hi)
theorem ren_ok (k : Nat) (hk : k ≤ 5) : ∀ i : It, ok i → blw 3 i → ok (ren k i) := by
  refine rec' ?_ ?_
  · intro n sf h hb
    simp only [blw] at hb
    simp only [ok, ren] at h ⊢
    exact ⟨by omega, h.2⟩
  · intro s a sf h1 h2 h hb
    simp only [blw, blws_iff, blwa_iff] at hb
    simp only [ok, ren, oks_iff, oka_iff, rens_map, rena_map] at h ⊢
    refine ⟨⟨fun i hi => ?_, fun t ht i hi => ?_⟩, h.2⟩
    · obtain ⟨j, hj, rfl⟩ := List.mem_map.1 hi
      exact h1 j hj (h.1.1 j hj) (hb.1 j hj)
    · obtain ⟨t', ht', rfl⟩ := List.mem_map.1 ht
      rw [rens_map] at hi
      obtain ⟨j, hj, rfl⟩ := List.mem_map.1 hi
      exact h2 t' ht' j hj (h.1.2 t' ht' j hj) (hb.2 t' ht' j hj)
theorem rens_ok (k : Nat) (hk : k ≤ 5) (s : List It) (h : oks s) (hb : blws 3 s) : oks (rens k s) := by
  rw [rens_map, oks_iff]
  intro i hi
  obtain ⟨j, hj, rfl⟩ := List.mem_map.1 hi
  exact ren_ok k hk j ((oks_iff s).1 h j hj) ((blws_iff 3 s).1 hb j hj)
end It
end Go.Vl
