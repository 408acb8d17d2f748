/-
  How many states a machine in order has at most: by the letters of an expression.
-/
import Derived.Test.YthhkionhimbekaaAuto
set_option linter.unusedVariables false
set_option linter.unusedSimpArgs false
namespace Go.Vl
namespace Lg
/-- behind whatever letters words are those of some of m sets -/
def Wid (A : Lg) (m : Nat) : Prop := ∃ l : List Lg, l.length ≤ m ∧ ∀ u : List Int, u ≠ [] → ∃ S : Lg → Prop, ∀ w, A (u ++ w) ↔ ∃ B, B ∈ l ∧ S B ∧ B w
theorem Wid.mono {A : Lg} {m n : Nat} (h : Wid A m) (hn : m ≤ n) : Wid A n := by
  obtain ⟨l, h1, h2⟩ := h; exact ⟨l, by omega, h2⟩
theorem wid_none : Wid none 0 := ⟨[], Nat.le_refl _, fun u hu => ⟨fun _ => False, fun w => by simp [none]⟩⟩
theorem wid_eps : Wid eps 0 := ⟨[], Nat.le_refl _, fun u hu => ⟨fun _ => False, fun w => by simp [eps, hu]⟩⟩
theorem wid_one (n : Int) : Wid (one n) 1 := by
  refine ⟨[eps], Nat.le_refl _, fun u hu => ⟨fun _ => u = [n], fun w => ?_⟩⟩
  simp only [List.mem_singleton, one, eps]
  constructor
  · intro h
    cases u with
    | nil => exact absurd rfl hu
    | cons c u =>
      simp only [List.cons_append, List.cons.injEq, List.append_eq_nil_iff] at h
      obtain ⟨rfl, rfl, rfl⟩ := h
      exact ⟨_, rfl, rfl, rfl⟩
  · rintro ⟨B, rfl, rfl, h⟩
    have h : w = [] := h
    subst h; rfl
theorem Wid.alt {A B : Lg} {m n : Nat} (ha : Wid A m) (hb : Wid B n) : Wid (alt A B) (m + n) := by
  obtain ⟨la, a1, a2⟩ := ha
  obtain ⟨lb, b1, b2⟩ := hb
  refine ⟨la ++ lb, by rw [List.length_append]; omega, fun u hu => ?_⟩
  obtain ⟨SA, hA⟩ := a2 u hu
  obtain ⟨SB, hB⟩ := b2 u hu
  refine ⟨fun E => (E ∈ la ∧ SA E) ∨ (E ∈ lb ∧ SB E), fun w => ?_⟩
  constructor
  · rintro (h | h)
    · obtain ⟨E, h1, h2, h3⟩ := (hA w).1 h
      exact ⟨E, List.mem_append_left _ h1, .inl ⟨h1, h2⟩, h3⟩
    · obtain ⟨E, h1, h2, h3⟩ := (hB w).1 h
      exact ⟨E, List.mem_append_right _ h1, .inr ⟨h1, h2⟩, h3⟩
  · rintro ⟨E, _, ⟨h1, h2⟩ | ⟨h1, h2⟩, h3⟩
    · exact .inl ((hA w).2 ⟨E, h1, h2, h3⟩)
    · exact .inr ((hB w).2 ⟨E, h1, h2, h3⟩)
theorem cat_split {A B : Lg} {u w : List Int} (h : cat A B (u ++ w)) : (∃ p q, w = p ++ q ∧ A (u ++ p) ∧ B q) ∨ (∃ p v, u = p ++ v ∧ v ≠ [] ∧ A p ∧ B (v ++ w)) := by
  obtain ⟨p, q, e, hp, hq⟩ := h
  rcases List.append_eq_append_iff.1 e with ⟨t, h1, h2⟩ | ⟨t, h1, h2⟩
  · subst h1; exact .inl ⟨t, q, h2, hp, hq⟩
  · subst h1 h2
    rcases t with _ | ⟨x, t⟩
    · exact .inl ⟨[], w, rfl, by simpa using hp, by simpa using hq⟩
    · exact .inr ⟨p, x :: t, rfl, by simp, hp, hq⟩
theorem Wid.cat {A B : Lg} {m n : Nat} (ha : Wid A m) (hb : Wid B n) : Wid (cat A B) (m + n) := by
  obtain ⟨la, a1, a2⟩ := ha
  obtain ⟨lb, b1, b2⟩ := hb
  refine ⟨la.map (fun C => Lg.cat C B) ++ lb, by rw [List.length_append, List.length_map]; omega, fun u hu => ?_⟩
  obtain ⟨SA, hA⟩ := a2 u hu
  refine ⟨fun E => (∃ C, C ∈ la ∧ SA C ∧ E = Lg.cat C B) ∨ (∃ p v, u = p ++ v ∧ v ≠ [] ∧ A p ∧ E ∈ lb ∧ ∀ w, E w → B (v ++ w)), fun w => ?_⟩
  constructor
  · intro h
    rcases cat_split h with ⟨p, q, rfl, hp, hq⟩ | ⟨p, v, rfl, hv, hp, hq⟩
    · obtain ⟨C, h1, h2, h3⟩ := (hA p).1 hp
      exact ⟨Lg.cat C B, List.mem_append_left _ (List.mem_map_of_mem h1), .inl ⟨C, h1, h2, rfl⟩, p, q, rfl, h3, hq⟩
    · obtain ⟨SB, hB⟩ := b2 v hv
      obtain ⟨E, h1, h2, h3⟩ := (hB w).1 hq
      exact ⟨E, List.mem_append_right _ h1, .inr ⟨p, v, rfl, hv, hp, h1, fun w' hw' => (hB w').2 ⟨E, h1, h2, hw'⟩⟩, h3⟩
  · rintro ⟨E, _, ⟨C, h1, h2, rfl⟩ | ⟨p, v, rfl, hv, hp, h1, h2⟩, h3⟩
    · obtain ⟨p, q, rfl, hp, hq⟩ := h3
      exact ⟨u ++ p, q, by simp, (hA p).2 ⟨C, h1, h2, hp⟩, hq⟩
    · exact ⟨p, v ++ w, by simp, hp, h2 w h3⟩
theorem star_split {A : Lg} {z : List Int} (h : star A z) : ∀ u w : List Int, u ≠ [] → z = u ++ w → ∃ p v w1 w2, u = p ++ v ∧ v ≠ [] ∧ star A p ∧ w = w1 ++ w2 ∧ A (v ++ w1) ∧ star A w2 := by
  induction h with
  | nil => intro u w hu e; exact absurd (List.append_eq_nil_iff.1 e.symm).1 hu
  | cons a b ha hb ih =>
    intro u w hu e
    rcases List.append_eq_append_iff.1 e with ⟨t, h1, h2⟩ | ⟨t, h1, h2⟩
    · subst h1 h2
      rcases t with _ | ⟨x, t⟩
      · exact ⟨[], a ++ [], [], w, by simp, hu, .nil, rfl, by simpa using ha, by simpa using hb⟩
      · obtain ⟨p, v, w1, w2, h3, h4, h5, h6, h7, h8⟩ := ih (x :: t) w (by simp) rfl
        exact ⟨a ++ p, v, w1, w2, by rw [h3, List.append_assoc], h4, .cons a p ha h5, h6, h7, h8⟩
    · subst h1 h2
      exact ⟨[], u, t, b, rfl, hu, .nil, rfl, ha, hb⟩
theorem Wid.star {A : Lg} {m : Nat} (ha : Wid A m) : Wid (star A) m := by
  obtain ⟨la, a1, a2⟩ := ha
  refine ⟨la.map (fun C => Lg.cat C (Lg.star A)), by rw [List.length_map]; exact a1, fun u hu => ?_⟩
  refine ⟨fun E => ∃ p v C, u = p ++ v ∧ v ≠ [] ∧ Lg.star A p ∧ C ∈ la ∧ (∀ w, C w → A (v ++ w)) ∧ E = Lg.cat C (Lg.star A), fun w => ?_⟩
  constructor
  · intro h
    obtain ⟨p, v, w1, w2, rfl, hv, hp, rfl, h1, h2⟩ := star_split h u w hu rfl
    obtain ⟨S, hS⟩ := a2 v hv
    obtain ⟨C, c1, c2, c3⟩ := (hS w1).1 h1
    exact ⟨_, List.mem_map_of_mem c1, ⟨p, v, C, rfl, hv, hp, c1, fun w hw => (hS w).2 ⟨C, c1, c2, hw⟩, rfl⟩, w1, w2, rfl, c3, h2⟩
  · rintro ⟨E, _, ⟨p, v, C, rfl, hv, hp, c1, c2, rfl⟩, w1, w2, rfl, h1, h2⟩
    rw [List.append_assoc]
    refine star_append hp ?_
    rw [← List.append_assoc]
    exact .cons _ _ (c2 w1 h1) h2
theorem Wid.same {A B : Lg} {m : Nat} (ha : Wid A m) (h : ∀ w, w ≠ [] → (B w ↔ A w)) : Wid B m := by
  obtain ⟨la, a1, a2⟩ := ha
  refine ⟨la, a1, fun u hu => ?_⟩
  obtain ⟨S, hS⟩ := a2 u hu
  exact ⟨S, fun w => (h (u ++ w) (fun e => hu (List.append_eq_nil_iff.1 e).1)).trans (hS w)⟩
theorem Wid.sfl {A : Lg} {m : Nat} (ha : Wid A m) (k : Nat) : Wid (sfl A k) m := by
  unfold Lg.sfl
  split
  · exact ha.star
  · split
    · refine ha.star.same fun w hw => ?_
      have e : Lg.star A w ↔ Lg.alt eps (Lg.cat A (Lg.star A)) w := by rw [← star_unfold A]
      rw [e]
      exact ⟨.inr, fun h => h.resolve_left hw⟩
    · exact ha.same fun w hw => ⟨fun h => h.resolve_left hw, .inr⟩
theorem Wid.foldl : ∀ (sf : List Nat) {A : Lg} {m : Nat}, Wid A m → Wid (sf.foldl Lg.sfl A) m
  | [], _, _, h => h
  | k :: sf, _, _, h => Wid.foldl sf (h.sfl k)
end Lg
namespace It
mutual
/-- how many letters -/
def nl : It → Nat
  | ch _ _ => 1
  | gr s a _ => snl s + anl a
def snl : List It → Nat
  | [] => 0
  | i :: s => nl i + snl s
def anl : List (List It) → Nat
  | [] => 0
  | s :: a => snl s + anl a
end
theorem snl_append (s t : List It) : snl (s ++ t) = snl s + snl t := by
  induction s with
  | nil => simp [snl]
  | cons d l ih => rw [List.cons_append, snl, snl, ih]; omega
theorem slg_wid' (s : List It) (h : ∀ i ∈ s, Lg.Wid (lg i) (nl i)) : Lg.Wid (slg s) (snl s) := by
  induction s with
  | nil => exact Lg.wid_eps
  | cons i s ih => rw [slg, snl]; exact (h i List.mem_cons_self).cat (ih fun j hj => h j (List.mem_cons_of_mem _ hj))
theorem alg_wid' (a : List (List It)) (h : ∀ t ∈ a, Lg.Wid (slg t) (snl t)) : Lg.Wid (alg a) (anl a) := by
  induction a with
  | nil => exact Lg.wid_none
  | cons t a ih => rw [alg, anl]; exact (h t List.mem_cons_self).alt (ih fun j hj => h j (List.mem_cons_of_mem _ hj))
theorem lg_wid : ∀ i : It, Lg.Wid (lg i) (nl i) := by
  refine rec' ?_ ?_
  · intro n sf
    rw [lg, nl]; exact (Lg.wid_one _).foldl sf
  · intro s a sf h1 h2
    rw [lg, nl]
    exact ((slg_wid' s h1).alt (alg_wid' a fun t ht => slg_wid' t (h2 t ht))).foldl sf
theorem slg_wid (s : List It) : Lg.Wid (slg s) (snl s) := slg_wid' s fun i _ => lg_wid i
theorem alg_wid (a : List (List It)) : Lg.Wid (alg a) (anl a) := alg_wid' a fun t _ => slg_wid t
theorem al_wid (s : List It) (a : List (List It)) : Lg.Wid (Lg.alt (slg s) (alg a)) (snl s + anl a) := (slg_wid s).alt (alg_wid a)
end It
/-- what is parted into fewer places has two in one place -/
theorem pigeon : ∀ (N n : Nat) (f : Nat → Nat), (∀ i, i < n → f i < N) → (∀ i j, i < n → j < n → f i = f j → i = j) → n ≤ N
  | 0, n, f, h1, _ => by
    rcases Nat.eq_zero_or_pos n with h | h
    · omega
    · exact absurd (h1 0 h) (Nat.not_lt_zero _)
  | N + 1, n, f, h1, h2 => by
    by_cases h : ∃ i, i < n ∧ f i = N
    · obtain ⟨i0, h3, h4⟩ := h
      have := pigeon N (n - 1) (fun i => f (if i < i0 then i else i + 1)) (fun i hi => by
        have h5 := h1 (if i < i0 then i else i + 1) (by split <;> omega)
        have h6 : f (if i < i0 then i else i + 1) ≠ N := fun e => by
          have := h2 _ i0 (by split <;> omega) h3 (e.trans h4.symm)
          split at this <;> omega
        show f (if i < i0 then i else i + 1) < N
        omega) (fun i j hi hj e => by
          have := h2 _ _ (by split <;> omega) (by split <;> omega) e
          split at this <;> split at this <;> omega)
      omega
    · have := pigeon N n f (fun i hi => by have := h1 i hi; have : f i ≠ N := fun e => h ⟨i, hi, e⟩; omega) h2
      omega
/-- a row of bools as a number -/
def bval : List Bool → Nat
  | [] => 0
  | b :: l => (if b then 1 else 0) + 2 * bval l
theorem bval_lt : ∀ l : List Bool, bval l < 2 ^ l.length
  | [] => by simp [bval]
  | b :: l => by
    have := bval_lt l
    rw [bval, List.length_cons, Nat.pow_succ]; split <;> omega
theorem bval_inj : ∀ l m : List Bool, l.length = m.length → bval l = bval m → l = m
  | [], [], _, _ => rfl
  | a :: l, b :: m, h, e => by
    simp only [List.length_cons, bval] at h e
    have hab : a = b := by cases a <;> cases b <;> simp at e ⊢ <;> omega
    subst hab
    rw [bval_inj l m (by omega) (by omega)]
  | [], b :: m, h, _ => by simp at h
  | a :: l, [], h, _ => by simp at h
theorem bval_zero : ∀ l : List Bool, (∀ b ∈ l, b = false) → bval l = 0
  | [], _ => rfl
  | b :: l, h => by rw [bval, h b List.mem_cons_self, bval_zero l fun c hc => h c (List.mem_cons_of_mem _ hc)]; rfl
namespace Au
/-- each state is behind a word -/
theorem Canon.word {a : Au} (h : a.Canon) : ∀ k : Nat, k < a.next.length → ∃ u, (0 < k → u ≠ []) ∧ ∀ w, a.acc 0 (u ++ w) ↔ a.acc (k : Int) w := by
  intro k
  induction k using Nat.strongRecOn with
  | _ k ih =>
    intro hk
    rcases Nat.eq_zero_or_pos k with rfl | h0
    · exact ⟨[], fun h => absurd h (Nat.lt_irrefl _), fun w => Iff.rfl⟩
    · obtain ⟨i, c, hi, hc, he, _⟩ := h.first k h0 hk
      obtain ⟨u, _, hu⟩ := ih i hi (by omega)
      refine ⟨u ++ [(c : Int)], fun _ => by simp, fun w => ?_⟩
      rw [List.append_assoc, hu, List.singleton_append, acc_cons (by omega) (by omega) (by omega), he]
theorem Canon.size {a : Au} (h : a.Canon) {m : Nat} (hw : Lg.Wid (a.acc 0) m) : a.next.length ≤ 2 ^ m := by
  classical
  obtain ⟨l, hl, hS⟩ := hw
  have key : ∀ k : Nat, k < a.next.length → ∃ S : Lg → Prop, (0 < k → ∀ w, a.acc (k : Int) w ↔ ∃ B, B ∈ l ∧ S B ∧ B w) ∧ (k = 0 → ∀ B, ¬ S B) := by
    intro k hk
    obtain ⟨u, hu, hw⟩ := h.word k hk
    rcases Nat.eq_zero_or_pos k with h0 | h0
    · exact ⟨fun _ => False, fun h => by omega, fun _ B h => h⟩
    · obtain ⟨S, hS⟩ := hS u (hu h0)
      exact ⟨S, fun _ w => (hw w).symm.trans (hS w), fun h => by omega⟩
  let F : Nat → Lg → Prop := fun k => if hk : k < a.next.length then Classical.choose (key k hk) else fun _ => False
  have hF : ∀ k, k < a.next.length → (0 < k → ∀ w, a.acc (k : Int) w ↔ ∃ B, B ∈ l ∧ F k B ∧ B w) ∧ (k = 0 → ∀ B, ¬ F k B) := by
    intro k hk
    have := Classical.choose_spec (key k hk)
    simp only [F, dif_pos hk]
    exact this
  let f : Nat → Nat := fun k => bval (l.map fun B => decide (F k B))
  refine Nat.le_trans (pigeon (2 ^ l.length) a.next.length f (fun i hi => ?_) (fun i j hi hj e => ?_)) (Nat.pow_le_pow_right (by decide) hl)
  · have := bval_lt (l.map fun B => decide (F i B))
    rwa [List.length_map] at this
  · have e := bval_inj _ _ (by rw [List.length_map, List.length_map]) e
    have e2 : ∀ B ∈ l, (F i B ↔ F j B) := fun B hB => by
      have := List.map_inj_left.1 e B hB
      simpa using this
    obtain ⟨i1, i2⟩ := hF i hi
    obtain ⟨j1, j2⟩ := hF j hj
    have emp : ∀ i j : Nat, i < a.next.length → i = 0 → 0 < j → j < a.next.length → (∀ B ∈ l, (F i B ↔ F j B)) → False := fun i j hi h0 hj0 hj e2 => by
      obtain ⟨w, hw⟩ := h.live j hj
      obtain ⟨B, hB, hs, _⟩ := ((hF j hj).1 hj0 w).1 hw
      exact (hF i hi).2 h0 B ((e2 B hB).2 hs)
    rcases Nat.eq_zero_or_pos i with hi0 | hi0
    · rcases Nat.eq_zero_or_pos j with hj0 | hj0
      · omega
      · exact (emp i j hi hi0 hj0 hj e2).elim
    · rcases Nat.eq_zero_or_pos j with hj0 | hj0
      · exact (emp j i hj hj0 hi0 hi fun B hB => (e2 B hB).symm).elim
      · refine h.apart i j hi hj fun w => ?_
        rw [i1 hi0 w, j1 hj0 w]
        exact ⟨fun ⟨B, hB, hs, hw⟩ => ⟨B, hB, (e2 B hB).1 hs, hw⟩, fun ⟨B, hB, hs, hw⟩ => ⟨B, hB, (e2 B hB).2 hs, hw⟩⟩
theorem Ord.size {a : Au} (h : a.Ord) {m : Nat} (hw : Lg.Wid (a.acc 0) m) : a.next.length ≤ 2 ^ m := by
  rcases h with h | rfl
  · exact h.size hw
  · exact Nat.one_le_two_pow
end Au
end Go.Vl
