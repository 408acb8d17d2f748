/-
  Places that words lead to. Without a program.
-/
import Derived.Test.YthhkionhimbekaaExprP
import Derived.Test.YthhkionhimbekaaWid
set_option linter.unusedVariables false
set_option linter.unusedSimpArgs false
namespace Go.Vl
theorem row_or (n i : Nat) (f g : Nat → Bool) : (rowB n (fun j => if j < i then (f j || g j) else false)).set i (AV.bool (f i || g i)) = rowB n (fun j => if j < i + 1 then (f j || g j) else false) := by
  rw [rowB_set]
  refine rowB_congr n _ _ fun k _ => ?_
  by_cases h : k = i
  · subst h; simp
  · rw [if_neg h]
    by_cases h2 : k < i
    · rw [if_pos h2, if_pos (by omega)]
    · rw [if_neg h2, if_neg (by omega)]
theorem row_or0 (n : Nat) (f g : Nat → Bool) : List.replicate n (AV.bool false) = rowB n (fun j => if j < 0 then (f j || g j) else false) :=
  (rowB_rep n).trans (rowB_congr n _ _ fun k _ => by simp)
theorem row_orn (n : Nat) (f g : Nat → Bool) : rowB n (fun j => if j < n then (f j || g j) else false) = rowB n (fun j => f j || g j) :=
  rowB_congr n _ _ fun k hk => by rw [if_pos hk]
/-- a word's part -/
def seg (w : List Int) (i j : Nat) : List Int := (w.take j).drop i
theorem seg_self (w : List Int) (i : Nat) : seg w i i = [] := by simp [seg]
theorem seg_len (w : List Int) {i j : Nat} (hj : j ≤ w.length) : (seg w i j).length = j - i := by simp [seg]; omega
theorem seg_app (w : List Int) {i j k : Nat} (h1 : i ≤ j) (h2 : j ≤ k) (h3 : k ≤ w.length) : seg w i j ++ seg w j k = seg w i k := by
  have e : w.take j = (w.take k).take j := by rw [List.take_take]; congr 1; omega
  simp only [seg]
  rw [e]
  have h4 : i ≤ ((w.take k).take j).length := by simp; omega
  rw [← List.drop_append_of_le_length h4, List.take_append_drop]
theorem seg_split (w : List Int) {i k : Nat} (h1 : i ≤ k) (h3 : k ≤ w.length) (u v : List Int) (h : seg w i k = u ++ v) : ∃ j, i ≤ j ∧ j ≤ k ∧ seg w i j = u ∧ seg w j k = v := by
  have hl : (seg w i k).length = u.length + v.length := by rw [h, List.length_append]
  rw [seg_len w h3] at hl
  refine ⟨i + u.length, by omega, by omega, ?_, ?_⟩
  · have := seg_app w (i := i) (j := i + u.length) (k := k) (by omega) (by omega) h3
    rw [h] at this
    exact (List.append_inj this (by rw [seg_len w (by omega)]; omega)).1
  · have := seg_app w (i := i) (j := i + u.length) (k := k) (by omega) (by omega) h3
    rw [h] at this
    exact (List.append_inj this (by rw [seg_len w (by omega)]; omega)).2
theorem seg_one (w : List Int) (i : Nat) (h : i < w.length) : seg w i (i + 1) = [w.getD i 0] := by
  simp only [seg]
  rw [take_getDG 0 w i h, List.drop_append_of_le_length (by rw [List.length_take]; omega), List.drop_of_length_le (by rw [List.length_take]; omega)]; rfl
/-- g: the places that words of A lead to from f's places -/
def Rch (A : Lg) (w : List Int) (f g : Nat → Bool) : Prop := ∀ j, j ≤ w.length → (g j = true ↔ ∃ i, i ≤ j ∧ f i = true ∧ A (seg w i j))
section rch
variable {A B : Lg} {w : List Int} {f g h : Nat → Bool}
theorem Rch.congr (hr : Rch A w f g) (he : ∀ j, j ≤ w.length → h j = g j) : Rch A w f h := fun j hj => by rw [he j hj]; exact hr j hj
theorem Rch.eps : Rch Lg.eps w f f := fun j hj => by
  constructor
  · intro h; exact ⟨j, Nat.le_refl _, h, seg_self w j⟩
  · rintro ⟨i, hi, h, e⟩
    have : (seg w i j).length = 0 := by rw [show seg w i j = [] from e]; rfl
    rw [seg_len w hj] at this
    obtain rfl : i = j := by omega
    exact h
theorem Rch.none : Rch Lg.none w f (fun _ => false) := fun j hj => by simp [Lg.none]
theorem Rch.one (n : Int) : Rch (Lg.one n) w f (fun j => decide (0 < j ∧ j ≤ w.length) && (f (j - 1) && (w.getD (j - 1) 0 == n))) := fun j hj => by
  simp only [Bool.and_eq_true, decide_eq_true_eq, beq_iff_eq]
  constructor
  · rintro ⟨⟨h1, _⟩, h2, h3⟩
    refine ⟨j - 1, by omega, h2, ?_⟩
    have := seg_one w (j - 1) (by omega)
    rw [show j - 1 + 1 = j from by omega] at this
    rw [this, h3]; rfl
  · rintro ⟨i, hi, h2, h3⟩
    have h3 : seg w i j = [n] := h3
    have hl : (seg w i j).length = 1 := by rw [h3]; rfl
    rw [seg_len w hj] at hl
    obtain rfl : j = i + 1 := by omega
    rw [seg_one w i (by omega)] at h3
    exact ⟨⟨by omega, hj⟩, h2, by simpa using h3⟩
theorem Rch.cat (ha : Rch A w f g) (hb : Rch B w g h) : Rch (Lg.cat A B) w f h := fun k hk => by
  rw [hb k hk]
  constructor
  · rintro ⟨j, hj, h1, h2⟩
    obtain ⟨i, hi, h3, h4⟩ := (ha j (by omega)).1 h1
    exact ⟨i, by omega, h3, _, _, (seg_app w hi hj hk).symm, h4, h2⟩
  · rintro ⟨i, hi, h1, u, v, e, h2, h3⟩
    obtain ⟨j, h4, h5, rfl, rfl⟩ := seg_split w hi hk u v e
    exact ⟨j, h5, (ha j (by omega)).2 ⟨i, h4, h1, h2⟩, h3⟩
theorem Rch.alt (ha : Rch A w f g) (hb : Rch B w f h) : Rch (Lg.alt A B) w f (fun j => g j || h j) := fun j hj => by
  simp only [Bool.or_eq_true]
  rw [ha j hj, hb j hj]
  constructor
  · rintro (⟨i, hi, h1, h2⟩ | ⟨i, hi, h1, h2⟩)
    · exact ⟨i, hi, h1, .inl h2⟩
    · exact ⟨i, hi, h1, .inr h2⟩
  · rintro ⟨i, hi, h1, h2 | h2⟩
    · exact .inl ⟨i, hi, h1, h2⟩
    · exact .inr ⟨i, hi, h1, h2⟩
/-- on the way to all that is led to: f's places are there, and what is there is led to -/
structure WayR (A : Lg) (w : List Int) (f o : Nat → Bool) : Prop where
  all : ∀ j, j ≤ w.length → f j = true → o j = true
  some : ∀ j, j ≤ w.length → o j = true → ∃ i, i ≤ j ∧ f i = true ∧ Lg.star A (seg w i j)
theorem WayR.start : WayR A w f f := ⟨fun _ _ h => h, fun j hj h => ⟨j, Nat.le_refl _, h, by rw [seg_self]; exact .nil⟩⟩
theorem WayR.step {o n : Nat → Bool} (hw : WayR A w f o) (hr : Rch A w o n) : WayR A w f (fun j => o j || n j) := by
  refine ⟨fun j hj h => by rw [hw.all j hj h]; rfl, fun k hk h => ?_⟩
  rcases Bool.or_eq_true _ _ |>.mp h with h | h
  · exact hw.some k hk h
  · obtain ⟨j, hj, h1, h2⟩ := (hr k hk).1 h
    obtain ⟨i, hi, h3, h4⟩ := hw.some j (by omega) h1
    refine ⟨i, by omega, h3, ?_⟩
    rw [← seg_app w hi hj hk]
    exact Lg.star_append h4 (Lg.star_one h2)
theorem WayR.done {o n : Nat → Bool} (hw : WayR A w f o) (hr : Rch A w o n) (he : ∀ j, j ≤ w.length → (o j || n j) = o j) : Rch (Lg.star A) w f o := fun k hk => by
  refine ⟨hw.some k hk, ?_⟩
  rintro ⟨i, hi, h1, h2⟩
  have key : ∀ z, Lg.star A z → ∀ i, i ≤ k → o i = true → seg w i k = z → o k = true := by
    intro z hz
    induction hz with
    | nil =>
      intro i hi ho e
      have : (seg w i k).length = 0 := by rw [e]; rfl
      rw [seg_len w hk] at this
      obtain rfl : i = k := by omega
      exact ho
    | cons u v hu _ ih =>
      intro i hi ho e
      obtain ⟨j, h4, h5, rfl, rfl⟩ := seg_split w hi hk u v e
      have hn := (hr j (by omega)).2 ⟨i, h4, ho, hu⟩
      have := he j (by omega)
      rw [hn, Bool.or_true] at this
      exact ih j h5 this.symm rfl
  exact key _ h2 i hi (hw.all i (by omega) h1) rfl
/-- how many places are not there -/
def outs (n : Nat) (o : Nat → Bool) : Nat := ((List.range n).filter fun j => !o j).length
theorem outs_lt (n : Nat) (o p : Nat → Bool) (h : ∀ j, j < n → o j = true → p j = true) (hne : ¬ ∀ j, j < n → p j = o j) : outs n p < outs n o := by
  induction n with
  | zero => exact absurd (fun j hj => absurd hj (Nat.not_lt_zero _)) hne
  | succ n ih =>
    have hle : ∀ m, m ≤ n → outs m p ≤ outs m o := by
      intro m
      induction m with
      | zero => intro _; exact Nat.le_refl _
      | succ m ih2 =>
        intro hm
        have := ih2 (by omega)
        simp only [outs, List.range_succ, List.filter_append, List.length_append] at this ⊢
        have h2 := h m (by omega)
        cases h3 : o m <;> cases h4 : p m <;> simp_all <;> omega
    simp only [outs, List.range_succ, List.filter_append, List.length_append]
    by_cases hn : p n = o n
    · have := ih (fun j hj => h j (by omega)) fun hall => hne fun j hj => by
        rcases Nat.lt_or_ge j n with h1 | h1
        · exact hall j h1
        · obtain rfl : j = n := by omega
          exact hn
      simp only [outs] at this
      simp only [List.filter_cons, List.filter_nil, hn]
      omega
    · have h1 := hle n (Nat.le_refl _)
      have h2 := h n (by omega)
      simp only [outs] at h1
      cases h3 : o n <;> cases h4 : p n <;> simp_all
      omega
end rch
/-- is a word meant? -/
noncomputable def Lg.dec (A : Lg) (w : List Int) : Bool := @decide (A w) (Classical.propDecidable _)
theorem Lg.dec_iff (A : Lg) (w : List Int) : Lg.dec A w = true ↔ A w := @decide_eq_true_iff (A w) (Classical.propDecidable _)
theorem Lg.dec_eq {A B : Lg} {u v : List Int} (h : A u ↔ B v) : Lg.dec A u = Lg.dec B v := Bool.eq_iff_iff.2 (by rw [Lg.dec_iff, Lg.dec_iff]; exact h)
theorem row_first (n : Nat) : (List.replicate n (AV.bool false)).set 0 (AV.bool true) = rowB n (fun j => j == 0) := by
  rw [rowB_rep, rowB_set]
  refine rowB_congr n _ _ fun k _ => ?_
  by_cases h : k = 0
  · subst h; rfl
  · rw [if_neg h]; simp [h]
theorem seg_all (w : List Int) : seg w 0 w.length = w := by simp [seg]
theorem Rch.whole {A : Lg} {w : List Int} {g : Nat → Bool} (h : Rch A w (fun j => j == 0) g) : g w.length = Lg.dec A w := Bool.eq_iff_iff.2 (by
  rw [h w.length (Nat.le_refl _), Lg.dec_iff]
  constructor
  · rintro ⟨i, _, hi, h2⟩
    obtain rfl : i = 0 := by simpa using hi
    rwa [seg_all] at h2
  · intro h2
    exact ⟨0, Nat.zero_le _, rfl, by rwa [seg_all]⟩)
/-- a word of raw numbers -/
def wordOf (l : List Int) (n : Nat) : List Int := (l.take n).map (· % 3)
theorem wordOf_len (l : List Int) (n : Nat) : (wordOf l n).length ≤ n := by unfold wordOf; rw [List.length_map, List.length_take]; omega
theorem wordOf_in (l : List Int) (n : Nat) : ∀ c ∈ wordOf l n, 0 ≤ c ∧ c < 3 := by
  intro c hc
  unfold wordOf at hc
  obtain ⟨x, _, rfl⟩ := List.mem_map.1 hc
  exact ⟨Int.emod_nonneg x (by decide), Int.emod_lt_of_pos x (by decide)⟩
/-- how long a drawn text is at most; how many letters it has -/
def tb : Nat → Nat
  | 0 => 2
  | 1 => 2
  | d + 2 => 2 * tb (d + 1) + 4
def nb : Nat → Nat
  | 0 => 1
  | 1 => 1
  | d + 2 => 2 * nb (d + 1)
/-- a text of an expression that is drawn -/
structure Dx (d : Nat) (s : List It) : Prop where
  ok : It.oks s
  abc : It.blws 3 s
  len : (It.stx s).length ≤ tb d
  nl : It.snl s ≤ nb d
theorem tb_ge : ∀ d, 2 ≤ tb d
  | 0 => Nat.le_refl _
  | 1 => Nat.le_refl _
  | d + 2 => by have := tb_ge (d + 1); simp only [tb]; omega
theorem nb_ge : ∀ d, 1 ≤ nb d
  | 0 => Nat.le_refl _
  | 1 => Nat.le_refl _
  | d + 2 => by have := nb_ge (d + 1); simp only [nb]; omega
theorem tb_step (d : Nat) (h : 2 ≤ d) : tb d = 2 * tb (d - 1) + 4 ∧ nb d = 2 * nb (d - 1) := by
  obtain ⟨k, rfl⟩ : ∃ k, d = k + 2 := ⟨d - 2, by omega⟩
  exact ⟨rfl, rfl⟩
theorem Dx.leaf (d n : Nat) (sf : List Nat) (hn : n < 3) (hs : sf = [] ∨ sf = [0] ∨ sf = [2]) : Dx d [It.ch n sf] := by
  have h1 := tb_ge d
  have h2 := nb_ge d
  refine ⟨?_, ?_, ?_, ?_⟩
  · simp only [It.oks, It.ok, and_true]
    refine ⟨by omega, ?_⟩
    rcases hs with rfl | rfl | rfl <;> simp
  · simp only [It.blws, It.blw, and_true]; exact hn
  · simp only [It.stx, It.tx, List.append_nil, List.length_cons, List.length_map]
    rcases hs with rfl | rfl | rfl <;> simp <;> omega
  · simp only [It.snl, It.nl]; omega
def Dx.sf4 (p : Nat) : List Nat := if p = 2 then [0] else if p = 3 then [2] else []
theorem Dx.sf4_in (p : Nat) : Dx.sf4 p = [] ∨ Dx.sf4 p = [0] ∨ Dx.sf4 p = [2] := by
  unfold Dx.sf4; split
  · exact .inr (.inl rfl)
  · split
    · exact .inr (.inr rfl)
    · exact .inl rfl
theorem Dx.leaf_tx (n p : Nat) (hn : n < 3) (hp : p < 4) : List.drop 0 (List.take (Int.toNat 1) (List.drop ((n : Nat) : Int).toNat (List.take 3 [97, 98, 99]))) ++ [[], [], [42], [63]].getD p [] = It.stx [It.ch n (Dx.sf4 p)] := by
  rcases (show n = 0 ∨ n = 1 ∨ n = 2 from by omega) with rfl | rfl | rfl <;> rcases (show p = 0 ∨ p = 1 ∨ p = 2 ∨ p = 3 from by omega) with rfl | rfl | rfl | rfl <;> rfl
theorem Dx.alt_tx (s t : List It) : ([40] ++ It.stx s ++ [124]) ++ It.stx t ++ [41] = It.stx [It.gr s [t] []] := by simp [It.stx, It.tx, It.atl]
theorem Dx.alts_tx (s t : List It) : ([40] ++ It.stx s ++ [124]) ++ It.stx t ++ [41, 42] = It.stx [It.gr s [t] [0]] := by simp [It.stx, It.tx, It.atl, sg]
theorem Dx.grp_tx (s t : List It) (q : Nat) (hq : q < 2) : ([40] ++ It.stx s ++ It.stx t ++ [41]) ++ [[43], [63]].getD q [] = It.stx [It.gr (s ++ t) [] [q + 1]] := by
  rcases (show q = 0 ∨ q = 1 from by omega) with rfl | rfl <;> simp [It.stx, It.tx, It.atl, It.stx_append, sg]
theorem tb_small (d : Nat) (h : d ≤ 10) : tb d ≤ 3100 := by
  rcases (show d = 0 ∨ d = 1 ∨ d = 2 ∨ d = 3 ∨ d = 4 ∨ d = 5 ∨ d = 6 ∨ d = 7 ∨ d = 8 ∨ d = 9 ∨ d = 10 from by omega) with rfl | rfl | rfl | rfl | rfl | rfl | rfl | rfl | rfl | rfl | rfl <;> decide
section dx
variable {d : Nat} {s t : List It}
theorem Dx.cat (hd : 2 ≤ d) (hs : Dx (d - 1) s) (ht : Dx (d - 1) t) : Dx d (s ++ t) := by
  have h := tb_step d hd
  refine ⟨It.oks_append hs.ok ht.ok, It.blws_append hs.abc ht.abc, ?_, ?_⟩
  · rw [It.stx_append, List.length_append]; have := hs.len; have := ht.len; omega
  · rw [It.snl_append]; have := hs.nl; have := ht.nl; omega
theorem Dx.alt (hd : 2 ≤ d) (hs : Dx (d - 1) s) (ht : Dx (d - 1) t) (sf : List Nat) (hf : sf = [] ∨ sf = [0]) : Dx d [It.gr s [t] sf] := by
  have h := tb_step d hd
  refine ⟨?_, ?_, ?_, ?_⟩
  · simp only [It.oks, It.ok, It.oka, and_true]
    exact ⟨⟨hs.ok, ht.ok⟩, by rcases hf with rfl | rfl <;> simp⟩
  · simp only [It.blws, It.blw, It.blwa, and_true]; exact ⟨hs.abc, ht.abc⟩
  · simp only [It.stx, It.tx, It.atl, List.append_nil, List.length_cons, List.length_append, List.length_map]
    have := hs.len; have := ht.len
    rcases hf with rfl | rfl <;> simp <;> omega
  · simp only [It.snl, It.nl, It.anl]; have := hs.nl; have := ht.nl; omega
theorem Dx.grp (hd : 2 ≤ d) (hs : Dx (d - 1) s) (ht : Dx (d - 1) t) (k : Nat) (hk : k = 1 ∨ k = 2) : Dx d [It.gr (s ++ t) [] [k]] := by
  have h := tb_step d hd
  refine ⟨?_, ?_, ?_, ?_⟩
  · simp only [It.oks, It.ok, It.oka, and_true]
    exact ⟨It.oks_append hs.ok ht.ok, by rcases hk with rfl | rfl <;> simp⟩
  · simp only [It.blws, It.blw, It.blwa, and_true]; exact It.blws_append hs.abc ht.abc
  · simp only [It.stx, It.tx, It.atl, List.append_nil, List.nil_append, List.length_cons, List.length_append, List.length_map, It.stx_append, List.length_nil]
    have := hs.len; have := ht.len; omega
  · simp only [It.snl, It.nl, It.anl, It.snl_append]; have := hs.nl; have := ht.nl; omega
end dx
theorem It.rc_text (k n : Nat) (c : UInt8) (hn : c.toNat = 97 + n) (hn3 : n < 3) (hk : k ≤ 5) : List.drop 0 (List.take (Int.toNat 1) (List.drop (((n : Nat) : Int) + ((k : Nat) : Int)).toNat (List.take 8 [97, 98, 99, 100, 101, 102, 103, 104]))) = [It.rc k c] := by
  have hc : c = 97 + UInt8.ofNat n := UInt8.toNat_inj.1 (by rw [hn, It.ch_nat n (by omega)])
  rw [hc, It.ch_rc k n hn3, show (((n : Nat) : Int) + ((k : Nat) : Int)).toNat = n + k from by omega]
  generalize hj : n + k = j
  rcases (show j = 0 ∨ j = 1 ∨ j = 2 ∨ j = 3 ∨ j = 4 ∨ j = 5 ∨ j = 6 ∨ j = 7 from by omega) with rfl | rfl | rfl | rfl | rfl | rfl | rfl | rfl <;> rfl
theorem It.one_text (s : List UInt8) (i : Nat) (c : UInt8) (h : i < s.length) (hc : s.getD i 0 = c) : List.drop ((i : Nat) : Int).toNat (List.take (((i : Nat) : Int) + 1).toNat s) = [c] := by
  rw [show (((i : Nat) : Int) + 1).toNat = i + 1 from by omega, Int.toNat_natCast, take_getDG 0 s i h, List.drop_append_of_le_length (by rw [List.length_take]; omega), List.drop_of_length_le (by rw [List.length_take]; omega), hc]; rfl
/-- can a word be cut so, at one of the first places? -/
noncomputable def cutB (A B : Lg) (w : List Int) (i : Nat) : Bool := (List.range i).any fun j => Lg.dec A (w.take j) && Lg.dec B (w.drop j)
theorem cutB_succ (A B : Lg) (w : List Int) (i : Nat) : cutB A B w (i + 1) = (cutB A B w i || (Lg.dec A (w.take i) && Lg.dec B (w.drop i))) := by
  simp [cutB, List.range_succ]
theorem cutB_all (A B : Lg) (w : List Int) : cutB A B w (w.length + 1) = Lg.dec (Lg.cat A B) w := Bool.eq_iff_iff.2 (by
  rw [Lg.dec_iff]
  simp only [cutB, List.any_eq_true, List.mem_range, Bool.and_eq_true, Lg.dec_iff]
  constructor
  · rintro ⟨j, _, h1, h2⟩
    exact ⟨w.take j, w.drop j, (List.take_append_drop j w).symm, h1, h2⟩
  · rintro ⟨u, v, rfl, hu, hv⟩
    exact ⟨u.length, by rw [List.length_append]; omega, by simpa using hu, by simpa using hv⟩)
theorem Lg.dec_alt (A B : Lg) (w : List Int) : Lg.dec (Lg.alt A B) w = (Lg.dec A w || Lg.dec B w) := Bool.eq_iff_iff.2 (by rw [Lg.dec_iff, Bool.or_eq_true, Lg.dec_iff, Lg.dec_iff]; exact Iff.rfl)
theorem Lg.dec_one : Lg.dec (Lg.one 0) [0] = true := (Lg.dec_iff _ _).2 rfl
theorem Lg.dec_true {A : Lg} {w : List Int} (h : A w) : Lg.dec A w = true := (Lg.dec_iff _ _).2 h
/-- a letter's row, step by step -/
def oneF (f : Nat → Bool) (w : List Int) (n : Int) (i : Nat) (j : Nat) : Bool := decide (0 < j ∧ j ≤ i) && (f (j - 1) && (w.getD (j - 1) 0 == n))
theorem one_row0 (m : Nat) (f : Nat → Bool) (w : List Int) (n : Int) : List.replicate m (AV.bool false) = rowB m (oneF f w n 0) :=
  (rowB_rep m).trans (rowB_congr m _ _ fun k _ => by unfold oneF; rw [decide_eq_false (by omega)]; rfl)
theorem one_row (m : Nat) (f : Nat → Bool) (w : List Int) (n : Int) (i : Nat) : (rowB m (oneF f w n i)).set (i + 1) (AV.bool (f i && (w.getD i 0 == n))) = rowB m (oneF f w n (i + 1)) := by
  rw [rowB_set]
  refine rowB_congr m _ _ fun k _ => ?_
  unfold oneF
  by_cases h : k = i + 1
  · subst h
    rw [if_pos rfl, decide_eq_true (by omega)]; simp
  · rw [if_neg h]
    congr 1
    exact decide_eq_decide.2 (by omega)
end Go.Vl
