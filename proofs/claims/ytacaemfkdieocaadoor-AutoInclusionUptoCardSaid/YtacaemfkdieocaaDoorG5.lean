/-
  Merged: Pairs Least Row8 Key ExprR ExprP Reach Live Ord Cnt.
-/
import Derived.Test.YtacaemfkdieocaaDoorG4
import Derived.Lib.Join

section
set_option linter.unusedVariables false
set_option linter.unusedSimpArgs false
namespace Go.Vl
namespace Au
/-- is a state an end? -/
def fin (a : Au) (i : Int) : Bool := decide (0 ≤ i) && a.final.getD i.toNat false
theorem acc_nil (a : Au) (i : Int) : a.acc i [] ↔ a.fin i = true := by simp [acc, fin]
def stp (a b : Au) (p : Int × Int) (c : Nat) : Int × Int := (if 0 ≤ p.1 then a.to p.1 (c : Int) else -1, if 0 ≤ p.2 then b.to p.2 (c : Int) else -1)
structure PIn (a b : Au) (p : Int × Int) : Prop where
  l1 : -1 ≤ p.1
  u1 : p.1 < a.next.length
  l2 : -1 ≤ p.2
  u2 : p.2 < b.next.length
theorem PIn.stp {a b : Au} (ha : a.Shape) (hb : b.Shape) {p : Int × Int} (h : PIn a b p) {c : Nat} (hc : c < 8) : PIn a b (stp a b p c) := by
  have pa := ha.pos
  have pb := hb.pos
  refine ⟨?_, ?_, ?_, ?_⟩ <;> simp only [Au.stp]
  · split
    · rename_i h0; exact (to_range ha h0 h.u1 (by omega) (by omega)).1
    · omega
  · split
    · rename_i h0; exact (to_range ha h0 h.u1 (by omega) (by omega)).2
    · omega
  · split
    · rename_i h0; exact (to_range hb h0 h.u2 (by omega) (by omega)).1
    · omega
  · split
    · rename_i h0; exact (to_range hb h0 h.u2 (by omega) (by omega)).2
    · omega
/-- both read the words behind a pair -/
theorem acc_stp1 {a b : Au} {p : Int × Int} {c : Nat} (hc : c < 8) (u : List Int) : a.acc p.1 ((c : Int) :: u) ↔ a.acc (stp a b p c).1 u := by
  simp only [stp]
  split
  · rename_i h; exact acc_cons h (by omega) (by omega)
  · rename_i h; exact ⟨fun h' => absurd h' (acc_neg (by omega) _), fun h' => absurd h' (acc_neg (by decide) _)⟩
theorem acc_stp2 {a b : Au} {p : Int × Int} {c : Nat} (hc : c < 8) (u : List Int) : b.acc p.2 ((c : Int) :: u) ↔ b.acc (stp a b p c).2 u := by
  simp only [stp]
  split
  · rename_i h; exact acc_cons h (by omega) (by omega)
  · rename_i h; exact ⟨fun h' => absurd h' (acc_neg (by omega) _), fun h' => absurd h' (acc_neg (by decide) _)⟩
/-- all pairs that are met -/
structure Prs (a b : Au) (all : List (Int × Int)) (T : Nat → Nat → Nat) : Prop where
  zero : all.getD 0 (0, 0) = (0, 0) ∧ 0 < all.length
  rng : ∀ p ∈ all, PIn a b p
  ent : ∀ k c, k < all.length → c < 8 → T k c < all.length ∧ all.getD (T k c) (0, 0) = stp a b (all.getD k (0, 0)) c
  met : ∀ p ∈ all, ∃ u : List Nat, (∀ c ∈ u, c < 8) ∧ p = u.foldl (stp a b) (0, 0)
/-- the same words are read from a pair -/
def psame (a b : Au) (p : Int × Int) : Prop := ∀ u, a.acc p.1 u ↔ b.acc p.2 u
theorem foldl_same {a b : Au} : ∀ (u : List Nat) (p : Int × Int), (∀ c ∈ u, c < 8) → psame a b p → psame a b (u.foldl (stp a b) p)
  | [], p, _, h => h
  | c :: u, p, hu, h => by
    refine foldl_same u _ (fun d hd => hu d (List.mem_cons_of_mem _ hd)) fun v => ?_
    have hc := hu c List.mem_cons_self
    rw [← acc_stp1 hc, ← acc_stp2 hc]; exact h _
theorem Prs.same {a b : Au} {all : List (Int × Int)} {T : Nat → Nat → Nat} (h : Prs a b all T) : (∀ p ∈ all, a.fin p.1 = b.fin p.2) ↔ ∀ u, a.acc 0 u ↔ b.acc 0 u := by
  constructor
  · intro hf
    have key : ∀ (u : List Int) (k : Nat), k < all.length → (a.acc (all.getD k (0, 0)).1 u ↔ b.acc (all.getD k (0, 0)).2 u) := by
      intro u
      induction u with
      | nil =>
        intro k hk
        rw [acc_nil, acc_nil, hf _ (getD_memG (0, 0) all k hk)]
      | cons c u ih =>
        intro k hk
        by_cases hc : 0 ≤ c ∧ c < 8
        · obtain ⟨c, rfl⟩ : ∃ k : Nat, c = (k : Int) := ⟨c.toNat, by omega⟩
          have h1 := h.ent k c hk (by omega)
          rw [acc_stp1 (b := b) (by omega), acc_stp2 (a := a) (by omega), ← h1.2]
          exact ih _ h1.1
        · simp only [acc]
          exact ⟨fun h => absurd ⟨h.2.1, h.2.2.1⟩ hc, fun h => absurd ⟨h.2.1, h.2.2.1⟩ hc⟩
    intro u
    have := key u 0 h.zero.2
    rw [h.zero.1] at this
    exact this
  · intro hs p hp
    obtain ⟨u, hu, rfl⟩ := h.met p hp
    have := foldl_same u (0, 0) hu hs []
    rw [acc_nil, acc_nil] at this
    exact Bool.eq_iff_iff.2 this
/-- THE MACHINE OF BOTH. -/
theorem Prs.both {a b w : Au} {all : List (Int × Int)} {T : Nat → Nat → Nat} (h : Prs a b all T) (hn : w.next.length = all.length) (hf : w.final = all.map fun p => a.fin p.1 && b.fin p.2)
    (hrow : ∀ k, k < all.length → (w.next.getD k []).length = 8) (hw : ∀ k c : Nat, k < all.length → c < 8 → w.to (k : Int) (c : Int) = (T k c : Int)) : w.Shape ∧ ∀ u, w.acc 0 u ↔ a.acc 0 u ∧ b.acc 0 u := by
  refine ⟨⟨by rw [hn]; exact h.zero.2, by rw [hf, List.length_map, hn], fun k hk => hrow k (by omega), fun k hk c hc => ?_⟩, ?_⟩
  · have h1 := hw k c (by omega) hc
    simp only [to, Int.toNat_natCast] at h1
    have := (h.ent k c (by omega) hc).1
    rw [h1]; omega
  · have key : ∀ (u : List Int) (k : Nat), k < all.length → (w.acc (k : Int) u ↔ a.acc (all.getD k (0, 0)).1 u ∧ b.acc (all.getD k (0, 0)).2 u) := by
      intro u
      induction u with
      | nil =>
        intro k hk
        rw [acc_nil, acc_nil, acc_nil]
        have : w.fin (k : Int) = (a.fin (all.getD k (0, 0)).1 && b.fin (all.getD k (0, 0)).2) := by
          rw [fin, hf]
          simp only [Int.toNat_natCast, List.getD_eq_getElem?_getD, List.getElem?_map, List.getElem?_eq_getElem hk]
          simp
        rw [this, Bool.and_eq_true]
      | cons c u ih =>
        intro k hk
        by_cases hc : 0 ≤ c ∧ c < 8
        · obtain ⟨c, rfl⟩ : ∃ k : Nat, c = (k : Int) := ⟨c.toNat, by omega⟩
          have h1 := h.ent k c hk (by omega)
          rw [acc_step k c (by omega), hw k c hk (by omega), acc_stp1 (b := b) (by omega), acc_stp2 (a := a) (by omega), ← h1.2]
          exact ih _ h1.1
        · simp only [acc]
          exact ⟨fun h => absurd ⟨h.2.1, h.2.2.1⟩ hc, fun h => absurd ⟨h.1.2.1, h.1.2.2.1⟩ hc⟩
    intro u
    have := key u 0 h.zero.2
    rw [h.zero.1] at this
    exact this

/-! ### how many words -/
def sum8 (f : Nat → Nat) : Nat := f 0 + f 1 + f 2 + f 3 + f 4 + f 5 + f 6 + f 7
/-- how many words of so many letters are read from a state on -/
def cnt (a : Au) : Nat → Int → Nat
  | 0, i => if a.fin i = true then 1 else 0
  | n + 1, i => if 0 ≤ i then sum8 fun c => cnt a n (a.to i (c : Int)) else 0
theorem sum8_add (f g : Nat → Nat) : sum8 (fun c => f c + g c) = sum8 f + sum8 g := by simp only [sum8]; omega
theorem sum8_le {f g : Nat → Nat} (h : ∀ c, c < 8 → f c ≤ g c) : sum8 f ≤ sum8 g := by
  have h0 := h 0 (by decide); have h1 := h 1 (by decide); have h2 := h 2 (by decide); have h3 := h 3 (by decide)
  have h4 := h 4 (by decide); have h5 := h 5 (by decide); have h6 := h 6 (by decide); have h7 := h 7 (by decide)
  simp only [sum8]; omega
theorem sum8_congr {f g : Nat → Nat} (h : ∀ c, c < 8 → f c = g c) : sum8 f = sum8 g := Nat.le_antisymm (sum8_le fun c hc => Nat.le_of_eq (h c hc)) (sum8_le fun c hc => Nat.le_of_eq (h c hc).symm)
theorem cnt_neg {a : Au} {i : Int} (h : i < 0) (n : Nat) : cnt a n i = 0 := by
  cases n with
  | zero => rw [cnt, if_neg]; simp [fin]; omega
  | succ n => rw [cnt, if_neg (by omega)]
theorem cnt_le (a : Au) : ∀ (n : Nat) (i : Int), cnt a n i ≤ 8 ^ n
  | 0, i => by rw [cnt]; split <;> simp
  | n + 1, i => by
    rw [cnt]
    split
    · have h : sum8 (fun c => cnt a n (a.to i (c : Int))) ≤ sum8 (fun _ => 8 ^ n) := sum8_le fun c _ => cnt_le a n _
      have h2 : sum8 (fun _ => 8 ^ n) = 8 * 8 ^ n := by simp only [sum8]; omega
      rw [Nat.pow_succ]; omega
    · exact Nat.zero_le _
/-- INCLUSION AND EXCLUSION -/
theorem cnt_incl {a b c d : Au} : ∀ (n : Nat) (i j k l : Int), (∀ u, c.acc k u ↔ a.acc i u ∨ b.acc j u) → (∀ u, d.acc l u ↔ a.acc i u ∧ b.acc j u) → cnt a n i + cnt b n j = cnt c n k + cnt d n l
  | 0, i, j, k, l, h1, h2 => by
    have e1 := h1 []
    have e2 := h2 []
    rw [acc_nil, acc_nil, acc_nil] at e1 e2
    simp only [cnt]
    cases ha : a.fin i <;> cases hb : b.fin j <;> cases hc : c.fin k <;> cases hd : d.fin l <;> simp_all
  | n + 1, i, j, k, l, h1, h2 => by
    have step : ∀ (x : Au) (y : Int), cnt x (n + 1) y = sum8 fun q => cnt x n (if 0 ≤ y then x.to y (q : Int) else -1) := fun x y => by
      rw [cnt]
      by_cases hy : 0 ≤ y
      · rw [if_pos hy]; exact sum8_congr fun q _ => by rw [if_pos hy]
      · rw [if_neg hy]
        have : sum8 (fun q => cnt x n (if 0 ≤ y then x.to y (q : Int) else -1)) = sum8 (fun _ => 0) := sum8_congr fun q _ => by rw [if_neg hy]; exact cnt_neg (by decide) n
        rw [this]; rfl
    have st : ∀ (x : Au) (y : Int) (q : Nat) (u : List Int), q < 8 → (x.acc y ((q : Int) :: u) ↔ x.acc (if 0 ≤ y then x.to y (q : Int) else -1) u) := fun x y q u hq => by
      by_cases hy : 0 ≤ y
      · rw [if_pos hy]; exact acc_cons hy (by omega) (by omega)
      · rw [if_neg hy]; exact ⟨fun h' => absurd h' (acc_neg (by omega) _), fun h' => absurd h' (acc_neg (by decide) _)⟩
    rw [step a, step b, step c, step d, ← sum8_add, ← sum8_add]
    refine sum8_congr fun q hq => cnt_incl n _ _ _ _ (fun u => ?_) (fun u => ?_)
    · rw [← st c k q u hq, ← st a i q u hq, ← st b j q u hq]; exact h1 _
    · rw [← st d l q u hq, ← st a i q u hq, ← st b j q u hq]; exact h2 _
theorem cnt_mono {a d : Au} {i l : Int} (h : ∀ u, d.acc l u → a.acc i u) (n : Nat) : cnt d n l ≤ cnt a n i := by
  have := cnt_incl (a := a) (b := d) (c := a) (d := d) n i l i l (fun u => ⟨.inl, fun h' => h'.elim id (h u)⟩) (fun u => ⟨fun h' => ⟨h u h', h'⟩, And.right⟩)
  have h2 := cnt_incl (a := a) (b := d) (c := a) (d := d) n i l i l (fun u => ⟨.inl, fun h' => h'.elim id (h u)⟩) (fun u => ⟨fun h' => ⟨h u h', h'⟩, And.right⟩)
  clear this h2
  induction n generalizing i l with
  | zero =>
    have := h []
    rw [acc_nil, acc_nil] at this
    simp only [cnt]
    cases hd : d.fin l <;> simp_all
  | succ n ih =>
    rw [cnt, cnt]
    by_cases hl : 0 ≤ l
    · rw [if_pos hl]
      by_cases hi : 0 ≤ i
      · rw [if_pos hi]
        refine sum8_le fun c hc => ih fun u hu => ?_
        rw [← acc_cons hi (by omega) (by omega)]
        exact h _ ((acc_cons hl (by omega) (by omega)).2 hu)
      · rw [if_neg hi]
        have : sum8 (fun c => cnt d n (d.to l (c : Int))) ≤ sum8 (fun _ => 0) := sum8_le fun c hc => by
          have hh := ih (i := -1) (l := d.to l (c : Int)) fun u hu => absurd (h _ ((acc_cons hl (by omega) (by omega)).2 hu)) (acc_neg (by omega) _)
          rw [cnt_neg (i := -1) (by decide)] at hh; exact hh
        exact this
    · rw [if_neg hl]; exact Nat.zero_le _
theorem cnt_zero {a : Au} {i : Int} (n : Nat) (h : ∀ u, u.length = n → ¬ a.acc i u) : cnt a n i = 0 := by
  induction n generalizing i with
  | zero =>
    have := h [] rfl
    rw [acc_nil] at this
    rw [cnt, if_neg this]
  | succ n ih =>
    rw [cnt]
    split
    · rename_i hi
      have : sum8 (fun c => cnt a n (a.to i (c : Int))) = sum8 (fun _ => 0) := sum8_congr fun c hc => ih fun u hu h' => h ((c : Int) :: u) (by simp [hu]) ((acc_cons hi (by omega) (by omega)).2 h')
      rw [this]; rfl
    · rfl
/-- words of three letters, one by one -/
def dig : Nat → Nat → List Int
  | 0, _ => []
  | n + 1, x => ((x % 3 : Nat) : Int) :: dig n (x / 3)
def found (a : Au) (n : Nat) (i : Int) (m : Nat) : Nat := ((List.range m).filter fun x => a.fin (a.run i (dig n x))).length
theorem filt3 (p : Nat → Nat → Bool) : ∀ m : Nat, ((List.range (3 * m)).filter fun x => p (x % 3) (x / 3)).length = ((List.range m).filter (p 0)).length + ((List.range m).filter (p 1)).length + ((List.range m).filter (p 2)).length
  | 0 => rfl
  | m + 1 => by
    have ih := filt3 p m
    have e : 3 * (m + 1) = 3 * m + 1 + 1 + 1 := by omega
    rw [e, List.range_succ, List.range_succ, List.range_succ, List.range_succ]
    simp only [List.filter_append, List.length_append, ih, List.filter_cons, List.filter_nil]
    have h0 : 3 * m % 3 = 0 ∧ 3 * m / 3 = m := by omega
    have h1 : (3 * m + 1) % 3 = 1 ∧ (3 * m + 1) / 3 = m := by omega
    have h2 : (3 * m + 1 + 1) % 3 = 2 ∧ (3 * m + 1 + 1) / 3 = m := by omega
    rw [h0.1, h0.2, h1.1, h1.2, h2.1, h2.2]
    cases p 0 m <;> cases p 1 m <;> cases p 2 m <;> simp <;> omega
theorem found_cnt {a : Au} : ∀ (n : Nat) (i : Int), (∀ u, a.acc i u → ∀ c ∈ u, c < 3) → found a n i (3 ^ n) = cnt a n i
  | 0, i, _ => by
    have h : dig 0 0 = [] := rfl
    simp only [found, Nat.pow_zero, List.range_one, List.filter_cons, List.filter_nil, h, cnt, run, List.foldl_nil]
    split <;> rfl
  | n + 1, i, h => by
    rw [cnt]
    by_cases hi : 0 ≤ i
    · rw [if_pos hi, found, Nat.pow_succ, Nat.mul_comm]
      have e : (fun x => a.fin (a.run i (dig (n + 1) x))) = fun x => (fun c y => a.fin (a.run (a.to i ((c : Nat) : Int)) (dig n y))) (x % 3) (x / 3) := funext fun x => by
        show a.fin (a.run i (((x % 3 : Nat) : Int) :: dig n (x / 3))) = _
        rw [run_cons a i _ _ hi]
      rw [e]
      refine (filt3 (fun c y => a.fin (a.run (a.to i ((c : Nat) : Int)) (dig n y))) _).trans ?_
      have hc : ∀ c : Nat, c < 3 → ((List.range (3 ^ n)).filter fun y => a.fin (a.run (a.to i ((c : Nat) : Int)) (dig n y))).length = cnt a n (a.to i (c : Int)) := fun c hc => by
        refine found_cnt n _ fun u hu d hd => ?_
        exact h ((c : Int) :: u) ((acc_cons hi (by omega) (by omega)).2 hu) d (List.mem_cons_of_mem _ hd)
      have hz : ∀ c : Nat, 3 ≤ c → c < 8 → cnt a n (a.to i (c : Int)) = 0 := fun c hc3 hc8 => cnt_zero n fun u _ hu => by
        have := h ((c : Int) :: u) ((acc_cons hi (by omega) (by omega)).2 hu) _ List.mem_cons_self
        omega
      have h0 := hc 0 (by decide); have h1 := hc 1 (by decide); have h2 := hc 2 (by decide)
      have h3 := hz 3 (by decide) (by decide); have h4 := hz 4 (by decide) (by decide); have h5 := hz 5 (by decide) (by decide)
      have h6 := hz 6 (by decide) (by decide); have h7 := hz 7 (by decide) (by decide)
      simp only [sum8]
      omega
    · rw [if_neg hi, found]
      have e : (fun x => a.fin (a.run i (dig (n + 1) x))) = fun _ => false := funext fun x => by
        rw [run_neg (by omega)]; simp [fin]; omega
      rw [e]; simp
/-- pairs that are known while rows are made: rows ahead of i are done, and of row i the letters ahead of c -/
structure Prb (a b : Au) (all : List (Int × Int)) (T : Nat → Nat → Nat) (i c : Nat) : Prop where
  zero : all.getD 0 (0, 0) = (0, 0) ∧ 0 < all.length
  nodup : all.Nodup
  rng : ∀ p ∈ all, PIn a b p
  ent : ∀ k d, k < all.length → d < 8 → (k < i ∨ (k = i ∧ d < c)) → T k d < all.length ∧ all.getD (T k d) (0, 0) = stp a b (all.getD k (0, 0)) d
  met : ∀ p ∈ all, ∃ u : List Nat, (∀ d ∈ u, d < 8) ∧ p = u.foldl (stp a b) (0, 0)
theorem Prb.start {a b : Au} (ha : a.Shape) (hb : b.Shape) (T : Nat → Nat → Nat) : Prb a b [(0, 0)] T 0 0 := by
  have pa := ha.pos
  have pb := hb.pos
  refine ⟨⟨rfl, by simp⟩, by simp, fun p hp => ?_, fun k d _ _ h => by rcases h with h | ⟨_, h⟩ <;> exact absurd h (Nat.not_lt_zero _), fun p hp => ?_⟩
  · rw [List.mem_singleton.1 hp]
    exact ⟨by show (-1 : Int) ≤ 0; omega, by show (0 : Int) < _; omega, by show (-1 : Int) ≤ 0; omega, by show (0 : Int) < _; omega⟩
  · rw [List.mem_singleton.1 hp]
    exact ⟨[], by simp, rfl⟩
theorem Prb.row {a b : Au} {all : List (Int × Int)} {T : Nat → Nat → Nat} {i : Nat} (h : Prb a b all T i 8) : Prb a b all T (i + 1) 0 :=
  ⟨h.zero, h.nodup, h.rng, fun k d hk hd he => h.ent k d hk hd (by omega), h.met⟩
theorem Prb.congr {a b : Au} {all : List (Int × Int)} {T T' : Nat → Nat → Nat} {i c : Nat} (h : Prb a b all T i c) (hT : ∀ k d, (k < i ∨ (k = i ∧ d < c)) → T' k d = T k d) : Prb a b all T' i c :=
  ⟨h.zero, h.nodup, h.rng, fun k d hk hd he => by rw [hT k d he]; exact h.ent k d hk hd he, h.met⟩
theorem Prb.old {a b : Au} {all : List (Int × Int)} {T : Nat → Nat → Nat} {i c : Nat} (h : Prb a b all T i c) (hk : T i c < all.length) (he : all.getD (T i c) (0, 0) = stp a b (all.getD i (0, 0)) c) : Prb a b all T i (c + 1) := by
  refine ⟨h.zero, h.nodup, h.rng, fun k d hk' hd hx => ?_, h.met⟩
  by_cases h1 : k < i ∨ (k = i ∧ d < c)
  · exact h.ent k d hk' hd h1
  · obtain ⟨rfl, rfl⟩ : k = i ∧ d = c := by omega
    exact ⟨hk, he⟩
theorem Prb.new {a b : Au} (ha : a.Shape) (hb : b.Shape) {all : List (Int × Int)} {T : Nat → Nat → Nat} {i c : Nat} (h : Prb a b all T i c) (hi : i < all.length) (hc : c < 8) (hT : T i c = all.length) (hn : stp a b (all.getD i (0, 0)) c ∉ all) :
    Prb a b (all ++ [stp a b (all.getD i (0, 0)) c]) T i (c + 1) := by
  have hm : all.getD i (0, 0) ∈ all := getD_memG _ _ _ hi
  have g1 : ∀ k, k < all.length → (all ++ [stp a b (all.getD i (0, 0)) c]).getD k (0, 0) = all.getD k (0, 0) := fun k hk => by
    rw [List.getD_eq_getElem?_getD, List.getElem?_append_left hk, List.getD_eq_getElem?_getD]
  have g2 : (all ++ [stp a b (all.getD i (0, 0)) c]).getD all.length (0, 0) = stp a b (all.getD i (0, 0)) c := by
    rw [List.getD_eq_getElem?_getD, List.getElem?_append_right (Nat.le_refl _), Nat.sub_self]; rfl
  refine ⟨⟨by rw [g1 0 h.zero.2]; exact h.zero.1, by rw [List.length_append]; have := h.zero.2; omega⟩, ?_, ?_, ?_, ?_⟩
  · rw [List.nodup_append]
    exact ⟨h.nodup, by simp, fun p hp q hq e => hn (by rw [← List.mem_singleton.1 hq, ← e]; exact hp)⟩
  · intro p hp
    rcases List.mem_append.1 hp with hp | hp
    · exact h.rng p hp
    · rw [List.mem_singleton.1 hp]; exact (h.rng _ hm).stp ha hb hc
  · intro k d hk hd hx
    rw [List.length_append, List.length_singleton] at hk ⊢
    by_cases h1 : k < i ∨ (k = i ∧ d < c)
    · obtain ⟨h2, h3⟩ := h.ent k d (by omega) hd h1
      exact ⟨by omega, by rw [g1 _ h2, g1 k (by omega)]; exact h3⟩
    · obtain ⟨rfl, rfl⟩ : k = i ∧ d = c := by omega
      rw [hT, g2, g1 k hi]
      exact ⟨by omega, rfl⟩
  · intro p hp
    rcases List.mem_append.1 hp with hp | hp
    · exact h.met p hp
    · obtain ⟨u, h1, h2⟩ := h.met _ hm
      refine ⟨u ++ [c], fun d hd => ?_, ?_⟩
      · rcases List.mem_append.1 hd with hd | hd
        · exact h1 d hd
        · rw [List.mem_singleton.1 hd]; exact hc
      · rw [List.mem_singleton.1 hp, List.foldl_append, ← h2]; rfl
theorem Prb.done {a b : Au} {all : List (Int × Int)} {T : Nat → Nat → Nat} {i c : Nat} (h : Prb a b all T i c) (hi : all.length ≤ i) : Prs a b all T :=
  ⟨h.zero, h.rng, fun k d hk hd => h.ent k d hk hd (.inl (by omega)), h.met⟩
end Au
end Go.Vl
end

section
set_option linter.unusedVariables false
set_option linter.unusedSimpArgs false
namespace Go.Vl
namespace Au
abbrev Qe := Nat × List Int
/-- the queue: words of h letters, then those of h + 1; D: what was looked at; letters ahead of c of the first one are done -/
structure Lst (a : Au) (sn : Nat → Bool) (Q1 Q2 : List Qe) (D : Nat → Prop) (h c : Nat) : Prop where
  ne : Q1 ≠ []
  seen : ∀ s, s < a.next.length → (sn s = true ↔ D s ∨ ∃ q, q ∈ Q1 ++ Q2 ∧ q.1 = s)
  ok : ∀ q ∈ Q1 ++ Q2, q.1 < a.next.length ∧ a.run 0 q.2 = (q.1 : Int) ∧ ∀ x ∈ q.2, 0 ≤ x ∧ x < 8
  l1 : ∀ q ∈ Q1, q.2.length = h
  l2 : ∀ q ∈ Q2, q.2.length = h + 1
  less : ∀ (u : List Int) (s : Nat), (∀ x ∈ u, 0 ≤ x ∧ x < 8) → a.run 0 u = (s : Int) → u.length < h → D s
  eq : ∀ (u : List Int) (s : Nat), (∀ x ∈ u, 0 ≤ x ∧ x < 8) → a.run 0 u = (s : Int) → u.length = h → D s ∨ ∃ q, q ∈ Q1 ∧ q.1 = s
  done : ∀ s, D s → a.fin (s : Int) = false ∧ ∀ x t : Nat, x < 8 → a.to (s : Int) (x : Int) = (t : Int) → sn t = true
  head : ∀ x t : Nat, x < c → a.to (((Q1.getD 0 (0, [])).1 : Nat) : Int) (x : Int) = (t : Int) → sn t = true
variable {a : Au} {seen : Nat → Bool} {Q1 Q2 : List Qe} {D : Nat → Prop} {h c : Nat}
theorem Lst.start (hs : a.Shape) : Lst a (fun s => decide (s = 0)) [(0, [])] [] (fun _ => False) 0 0 := by
  refine ⟨by simp, fun s _ => ?_, fun q hq => ?_, fun q hq => ?_, fun q hq => (by cases hq), fun u s _ _ h => absurd h (Nat.not_lt_zero _), fun u s _ he hl => ?_, fun s h => False.elim h, fun x t hx => absurd hx (Nat.not_lt_zero _)⟩
  · simp only [decide_eq_true_eq, List.append_nil, List.mem_singleton, false_or]
    exact ⟨fun h => ⟨_, rfl, h.symm⟩, by rintro ⟨q, rfl, h⟩; exact h.symm⟩
  · obtain rfl : q = (0, []) := by simpa using hq
    exact ⟨hs.pos, rfl, by simp⟩
  · obtain rfl : q = (0, []) := by simpa using hq
    rfl
  · obtain rfl : u = [] := List.eq_nil_of_length_eq_zero hl
    have : (0 : Int) = (s : Int) := he
    exact .inr ⟨(0, []), List.mem_singleton.2 rfl, by show 0 = s; omega⟩
/-- the first one is an end: no word is shorter -/
theorem Lst.found (hs : a.Shape) (H : Lst a seen Q1 Q2 D h c) (hf : a.fin (((Q1.getD 0 (0, [])).1 : Nat) : Int) = true) : a.acc 0 (Q1.getD 0 (0, [])).2 ∧ ∀ u, u.length < (Q1.getD 0 (0, [])).2.length → ¬ a.acc 0 u := by
  have hm : Q1.getD 0 (0, []) ∈ Q1 := getD_memG _ _ _ (List.length_pos_iff.2 H.ne)
  obtain ⟨h1, h2, h3⟩ := H.ok _ (List.mem_append_left _ hm)
  refine ⟨?_, fun u hu hacc => ?_⟩
  · rw [acc_run _ _ h3, h2]
    simpa [fin] using hf
  · have ho := acc_over hacc
    obtain ⟨h4, h5⟩ := (acc_run u 0 ho).1 hacc
    rw [H.l1 _ hm] at hu
    have h6 := (H.done _ (H.less u (a.run 0 u).toNat ho (by omega) hu)).1
    rw [show (((a.run 0 u).toNat : Nat) : Int) = a.run 0 u from by omega] at h6
    simp only [fin, h4, h5, decide_true, Bool.and_self, Bool.true_and, Bool.true_eq_false] at h6
/-- a letter that leads to nothing new -/
theorem Lst.skip (H : Lst a seen Q1 Q2 D h c) (hn : ∀ t : Nat, a.to (((Q1.getD 0 (0, [])).1 : Nat) : Int) (c : Int) = (t : Int) → seen t = true) : Lst a seen Q1 Q2 D h (c + 1) := by
  refine ⟨H.ne, H.seen, H.ok, H.l1, H.l2, H.less, H.eq, H.done, fun x t hx e => ?_⟩
  rcases Nat.lt_or_ge x c with h1 | h1
  · exact H.head x t h1 e
  · obtain rfl : x = c := by omega
    exact hn t e
/-- a new one -/
theorem Lst.push (H : Lst a seen Q1 Q2 D h c) (hc : c < 8) {t : Nat} (ht : t < a.next.length) (he : a.to (((Q1.getD 0 (0, [])).1 : Nat) : Int) (c : Int) = (t : Int)) :
    Lst a (fun s => if s = t then true else seen s) Q1 (Q2 ++ [(t, (Q1.getD 0 (0, [])).2 ++ [(c : Int)])]) D h (c + 1) := by
  have hm : Q1.getD 0 (0, []) ∈ Q1 := getD_memG _ _ _ (List.length_pos_iff.2 H.ne)
  obtain ⟨h1, h2, h3⟩ := H.ok _ (List.mem_append_left _ hm)
  have hup : ∀ s, seen s = true → (if s = t then true else seen s) = true := fun s hs => by split <;> simp_all
  refine ⟨H.ne, fun s hs => ?_, fun q hq => ?_, H.l1, fun q hq => ?_, H.less, H.eq, fun s hs => ⟨(H.done s hs).1, fun x t' hx e => hup _ ((H.done s hs).2 x t' hx e)⟩, fun x t' hx e => ?_⟩
  · by_cases hst : s = t
    · subst hst
      rw [if_pos rfl]
      exact ⟨fun _ => .inr ⟨_, List.mem_append_right _ (List.mem_append_right _ (List.mem_singleton.2 rfl)), rfl⟩, fun _ => rfl⟩
    · rw [if_neg hst, H.seen s hs]
      constructor
      · rintro (h' | ⟨q, hq, e⟩)
        · exact .inl h'
        · rw [← List.append_assoc]; exact .inr ⟨q, List.mem_append_left _ hq, e⟩
      · rintro (h' | ⟨q, hq, e⟩)
        · exact .inl h'
        · rw [← List.append_assoc] at hq
          rcases List.mem_append.1 hq with hq | hq
          · exact .inr ⟨q, hq, e⟩
          · rw [List.mem_singleton.1 hq] at e
            exact absurd e.symm hst
  · rw [← List.append_assoc] at hq
    rcases List.mem_append.1 hq with hq | hq
    · exact H.ok q hq
    · rw [List.mem_singleton.1 hq]
      refine ⟨ht, ?_, fun x hx => ?_⟩
      · show a.run 0 (_ ++ _) = _
        rw [run_snoc, h2, if_pos (by omega)]; exact he
      · rcases List.mem_append.1 hx with hx | hx
        · exact h3 x hx
        · rw [List.mem_singleton.1 hx]; omega
  · rcases List.mem_append.1 hq with hq | hq
    · exact H.l2 q hq
    · rw [List.mem_singleton.1 hq]
      show (_ ++ _ : List Int).length = _
      rw [List.length_append, H.l1 _ hm]; rfl
  · rcases Nat.lt_or_ge x c with h4 | h4
    · exact hup _ (H.head x t' h4 e)
    · obtain rfl : x = c := by omega
      rw [he] at e
      have : t = t' := by omega
      subst this
      show (if t = t then true else seen t) = true
      rw [if_pos rfl]
/-- the first one is done; one of as_ many letters is next -/
theorem Lst.pop (hs : a.Shape) (H : Lst a seen Q1 Q2 D h 8) (hf : a.fin (((Q1.getD 0 (0, [])).1 : Nat) : Int) = false) :
    (Q1.drop 1 ++ Q2 = [] → ∀ u, ¬ a.acc 0 u) ∧ (Q1.drop 1 ++ Q2 ≠ [] → ∃ P1 P2 D' h', P1 ++ P2 = Q1.drop 1 ++ Q2 ∧ Lst a seen P1 P2 D' h' 0) := by
  obtain ⟨q0, R, rfl⟩ : ∃ q0 R, Q1 = q0 :: R := List.exists_cons_of_ne_nil H.ne
  simp only [List.getD_cons_zero, List.drop_succ_cons, List.drop_zero] at *
  have hD : ∀ s, (D s ∨ s = q0.1) → a.fin (s : Int) = false ∧ ∀ x t : Nat, x < 8 → a.to (s : Int) (x : Int) = (t : Int) → seen t = true := by
    rintro s (h1 | rfl)
    · exact H.done s h1
    · exact ⟨hf, fun x t hx e => H.head x t hx e⟩
  have hseen : ∀ s, s < a.next.length → (seen s = true ↔ (D s ∨ s = q0.1) ∨ ∃ q, q ∈ R ++ Q2 ∧ q.1 = s) := fun s hs => by
    rw [H.seen s hs]
    constructor
    · rintro (h1 | ⟨q, hq, e⟩)
      · exact .inl (.inl h1)
      · rcases List.mem_cons.1 hq with rfl | hq
        · exact .inl (.inr e.symm)
        · exact .inr ⟨q, hq, e⟩
    · rintro ((h1 | h1) | ⟨q, hq, e⟩)
      · exact .inl h1
      · exact .inr ⟨q0, List.mem_cons_self, h1.symm⟩
      · exact .inr ⟨q, List.mem_cons_of_mem _ hq, e⟩
  have hok : ∀ q ∈ R ++ Q2, q.1 < a.next.length ∧ a.run 0 q.2 = (q.1 : Int) ∧ ∀ x ∈ q.2, 0 ≤ x ∧ x < 8 := fun q hq => H.ok q (List.mem_cons_of_mem _ hq)
  have hstep : ∀ (u : List Int) (s : Nat), (∀ x ∈ u, 0 ≤ x ∧ x < 8) → a.run 0 u = (s : Int) → u.length = h → (D s ∨ s = q0.1) ∨ ∃ q, q ∈ R ∧ q.1 = s := fun u s hu e hl => by
    rcases H.eq u s hu e hl with h1 | ⟨q, hq, e⟩
    · exact .inl (.inl h1)
    · rcases List.mem_cons.1 hq with rfl | hq
      · exact .inl (.inr e.symm)
      · exact .inr ⟨q, hq, e⟩
  constructor
  · intro he
    obtain ⟨rfl, rfl⟩ := List.append_eq_nil_iff.1 he
    -- all that is met was looked at
    have key : ∀ (n : Nat) (u : List Int) (s : Nat), u.length = n → (∀ x ∈ u, 0 ≤ x ∧ x < 8) → a.run 0 u = (s : Int) → D s ∨ s = q0.1 := by
      intro n
      induction n with
      | zero =>
        intro u s hl hu e
        rcases Nat.eq_zero_or_pos h with h0 | h0
        · rcases hstep u s hu e (by omega) with h1 | ⟨q, hq, _⟩
          · exact h1
          · cases hq
        · exact .inl (H.less u s hu e (by omega))
      | succ n ih =>
        intro u s hl hu e
        obtain ⟨v, x, rfl⟩ : ∃ v x, u = v ++ [x] := by
          refine ⟨u.dropLast, u.getLast (by intro h'; rw [h'] at hl; simp at hl), (List.dropLast_concat_getLast _).symm⟩
        have hx := hu x (List.mem_append_right _ (List.mem_singleton.2 rfl))
        rw [run_snoc] at e
        split at e
        · rename_i h0
          obtain ⟨r, hr⟩ : ∃ r : Nat, a.run 0 v = (r : Int) := ⟨(a.run 0 v).toNat, by omega⟩
          have h1 := ih v r (by simpa using hl) (fun y hy => hu y (List.mem_append_left _ hy)) hr
          rw [hr] at e
          obtain ⟨x, rfl⟩ : ∃ k : Nat, x = (k : Int) := ⟨x.toNat, by omega⟩
          have h2 := (hD r h1).2 x s (by omega) e
          have hrn := run_range hs v 0 (by decide) (by have := hs.pos; omega) fun y hy => hu y (List.mem_append_left _ hy)
          have h3 : s < a.next.length := by
            have := to_range hs (i := (r : Int)) (c := (x : Int)) (by omega) (by omega) (by omega) (by omega)
            omega
          rcases (hseen s h3).1 h2 with h4 | ⟨q, hq, _⟩
          · exact h4
          · cases hq
        · omega
    intro u hacc
    have ho := acc_over hacc
    obtain ⟨h4, h5⟩ := (acc_run u 0 ho).1 hacc
    have h6 := (hD _ (key _ u (a.run 0 u).toNat rfl ho (by omega))).1
    rw [show (((a.run 0 u).toNat : Nat) : Int) = a.run 0 u from by omega] at h6
    simp only [fin, h4, h5, decide_true, Bool.and_self, Bool.true_and, Bool.true_eq_false] at h6
  · intro hne
    rcases R with _ | ⟨q1, R⟩
    · refine ⟨Q2, [], fun s => D s ∨ s = q0.1, h + 1, by simp, ⟨by simpa using hne, fun s hs => by rw [List.append_nil]; exact hseen s hs, fun q hq => hok q (by simpa using hq), H.l2, fun q hq => (by cases hq), fun u s hu e hl => ?_, fun u s hu e hl => ?_, hD, fun x t hx => absurd hx (Nat.not_lt_zero _)⟩⟩
      · rcases Nat.lt_or_ge u.length h with h1 | h1
        · exact .inl (H.less u s hu e h1)
        · rcases hstep u s hu e (by omega) with h2 | ⟨q, hq, _⟩
          · exact h2
          · cases hq
      · obtain ⟨v, x, rfl⟩ : ∃ v x, u = v ++ [x] := by
          refine ⟨u.dropLast, u.getLast (by intro h'; rw [h'] at hl; simp at hl), (List.dropLast_concat_getLast _).symm⟩
        have hx := hu x (List.mem_append_right _ (List.mem_singleton.2 rfl))
        rw [run_snoc] at e
        split at e
        · rename_i h0
          obtain ⟨r, hr⟩ : ∃ r : Nat, a.run 0 v = (r : Int) := ⟨(a.run 0 v).toNat, by omega⟩
          have hv : ∀ y ∈ v, 0 ≤ y ∧ y < 8 := fun y hy => hu y (List.mem_append_left _ hy)
          have h1 : D r ∨ r = q0.1 := by
            rcases hstep v r hv hr (by simpa using hl) with h2 | ⟨q, hq, _⟩
            · exact h2
            · cases hq
          rw [hr] at e
          obtain ⟨x, rfl⟩ : ∃ k : Nat, x = (k : Int) := ⟨x.toNat, by omega⟩
          have h2 := (hD r h1).2 x s (by omega) e
          have hrn := run_range hs v 0 (by decide) (by have := hs.pos; omega) hv
          have h3 : s < a.next.length := by
            have := to_range hs (i := (r : Int)) (c := (x : Int)) (by omega) (by omega) (by omega) (by omega)
            omega
          exact (hseen s h3).1 h2
        · omega
    · refine ⟨q1 :: R, Q2, fun s => D s ∨ s = q0.1, h, rfl, ⟨by simp, hseen, hok, fun q hq => H.l1 q (List.mem_cons_of_mem _ hq), H.l2, fun u s hu e hl => .inl (H.less u s hu e hl), hstep, hD, fun x t hx => absurd hx (Nat.not_lt_zero _)⟩⟩
end Au
end Go.Vl
end

section
set_option linter.unusedVariables false
set_option linter.unusedSimpArgs false
namespace Go.Vl
def row8 (f : Nat → Int) : List AV := [.int (f 0), .int (f 1), .int (f 2), .int (f 3), .int (f 4), .int (f 5), .int (f 6), .int (f 7)]
theorem row8_congr {f g : Nat → Int} (h : ∀ c, c < 8 → f c = g c) : row8 f = row8 g := by
  unfold row8
  rw [h 0 (by decide), h 1 (by decide), h 2 (by decide), h 3 (by decide), h 4 (by decide), h 5 (by decide), h 6 (by decide), h 7 (by decide)]
theorem row8_splice (f : Nat → Int) (c : Nat) (hc : c < 8) (x : Int) : splice (row8 f) c [.int x] = row8 (fun d => if d = c then x else f d) := by
  rcases (show c = 0 ∨ c = 1 ∨ c = 2 ∨ c = 3 ∨ c = 4 ∨ c = 5 ∨ c = 6 ∨ c = 7 from by omega) with rfl | rfl | rfl | rfl | rfl | rfl | rfl | rfl <;> rfl
theorem row8_get (f : Nat → Int) (c : Nat) (hc : c < 8) : (row8 f)[c]? = some (.int (f c)) := by
  rcases (show c = 0 ∨ c = 1 ∨ c = 2 ∨ c = 3 ∨ c = 4 ∨ c = 5 ∨ c = 6 ∨ c = 7 from by omega) with rfl | rfl | rfl | rfl | rfl | rfl | rfl | rfl <;> rfl
abbrev r8av (f : Nat → Int) : AV := .agg (row8 f)
theorem rows_snoc (n : Nat) (T : Nat → Nat → Int) : ((List.range n).map fun k => r8av (T k)) ++ [r8av (T n)] = (List.range (n + 1)).map fun k => r8av (T k) := by
  rw [List.range_succ, List.map_append]; rfl
theorem rows_congr (n : Nat) {T T' : Nat → Nat → Int} (h : ∀ k, k < n → ∀ c, c < 8 → T k c = T' k c) : ((List.range n).map fun k => r8av (T k)) = (List.range n).map fun k => r8av (T' k) :=
  List.map_congr_left fun k hk => congrArg AV.agg (row8_congr (h k (List.mem_range.1 hk)))
abbrev prav (p : Int × Int) : AV := .agg [.int p.1, .int p.2]
theorem prav_snoc (l : List (Int × Int)) (p : Int × Int) : l.map prav ++ [.agg [.int p.1, .int p.2]] = (l ++ [p]).map prav := by rw [List.map_append]; rfl
namespace Au
/-- not more pairs than there are -/
theorem Prb.len {a b : Au} {all : List (Int × Int)} {T : Nat → Nat → Nat} {i c : Nat} (h : Prb a b all T i c) : all.length ≤ (a.next.length + 1) * (b.next.length + 1) := by
  refine pigeon _ all.length (fun k => ((all.getD k (0, 0)).1 + 1).toNat * (b.next.length + 1) + ((all.getD k (0, 0)).2 + 1).toNat) (fun k hk => ?_) (fun j k hj hk e => ?_)
  · have hr := h.rng _ (getD_memG (0, 0) all k hk)
    have h1 := hr.l1; have h2 := hr.u1; have h3 := hr.l2; have h4 := hr.u2
    have h5 : ((all.getD k (0, 0)).1 + 1).toNat ≤ a.next.length := by omega
    have h6 : ((all.getD k (0, 0)).2 + 1).toNat < b.next.length + 1 := by omega
    calc ((all.getD k (0, 0)).1 + 1).toNat * (b.next.length + 1) + ((all.getD k (0, 0)).2 + 1).toNat
        < ((all.getD k (0, 0)).1 + 1).toNat * (b.next.length + 1) + (b.next.length + 1) := by omega
      _ = (((all.getD k (0, 0)).1 + 1).toNat + 1) * (b.next.length + 1) := by rw [Nat.add_mul, Nat.one_mul]
      _ ≤ (a.next.length + 1) * (b.next.length + 1) := Nat.mul_le_mul_right _ (by omega)
  · have rj := h.rng _ (getD_memG (0, 0) all j hj)
    have rk := h.rng _ (getD_memG (0, 0) all k hk)
    have hj6 : ((all.getD j (0, 0)).2 + 1).toNat < b.next.length + 1 := by have := rj.l2; have := rj.u2; omega
    have hk6 : ((all.getD k (0, 0)).2 + 1).toNat < b.next.length + 1 := by have := rk.l2; have := rk.u2; omega
    have hd := congrArg (· / (b.next.length + 1)) e
    have hm := congrArg (· % (b.next.length + 1)) e
    rw [Nat.mul_comm, Nat.mul_add_div (by omega), Nat.div_eq_of_lt hj6, Nat.mul_comm, Nat.mul_add_div (by omega), Nat.div_eq_of_lt hk6] at hd
    rw [Nat.mul_comm, Nat.mul_add_mod, Nat.mod_eq_of_lt hj6, Nat.mul_comm, Nat.mul_add_mod, Nat.mod_eq_of_lt hk6] at hm
    have e2 : all.getD j (0, 0) = all.getD k (0, 0) := by
      have := rj.l1; have := rk.l1; have := rj.l2; have := rk.l2
      exact Prod.ext (by omega) (by omega)
    rw [List.getD_eq_getElem?_getD, List.getD_eq_getElem?_getD, List.getElem?_eq_getElem hj, List.getElem?_eq_getElem hk] at e2
    exact (List.getElem_inj h.nodup).1 e2
theorem Prb.len40 {a b : Au} {all : List (Int × Int)} {T : Nat → Nat → Nat} {i c : Nat} (h : Prb a b all T i c) (ha : a.next.length ≤ 40) (hb : b.next.length ≤ 40) : all.length ≤ 1681 := by
  have h1 := h.len
  have h2 : (a.next.length + 1) * (b.next.length + 1) ≤ 41 * 41 := Nat.mul_le_mul (by omega) (by omega)
  omega
/-- an entry is written -/
def setT (T : Nat → Nat → Nat) (i c x : Nat) : Nat → Nat → Nat := fun k d => if k = i ∧ d = c then x else T k d
theorem setT_at (T : Nat → Nat → Nat) (i c x : Nat) : setT T i c x i c = x := if_pos ⟨rfl, rfl⟩
theorem setT_ne (T : Nat → Nat → Nat) (i c x : Nat) {k d : Nat} (h : ¬ (k = i ∧ d = c)) : setT T i c x k d = T k d := if_neg h
theorem Prb.entd {a b : Au} {all : List (Int × Int)} {T : Nat → Nat → Nat} {i c : Nat} (h : Prb a b all T i c) (x : Nat) : Prb a b all (setT T i c x) i c :=
  h.congr fun k d hkd => setT_ne T i c x (by omega)
theorem rows_set (T : Nat → Nat → Nat) (i c x : Nat) : ((List.range i).map fun k => r8av (fun d => (setT T i c x k d : Int))) = (List.range i).map fun k => r8av (fun d => (T k d : Int)) :=
  rows_congr i (T := fun k d => (setT T i c x k d : Int)) (T' := fun k d => (T k d : Int)) fun k hk d _ => by rw [setT_ne T i c x (by omega)]
/-- a row's cells, so far -/
def rowU (T : Nat → Nat → Nat) (i c : Nat) : List AV := row8 fun d => if d < c then (T i d : Int) else 0
theorem rowU_step (T : Nat → Nat → Nat) (i c x : Nat) (hc : c < 8) : splice (rowU T i c) c [.int (x : Int)] = rowU (setT T i c x) i (c + 1) := by
  unfold rowU
  rw [row8_splice _ c hc]
  refine row8_congr fun d _ => ?_
  by_cases h : d = c
  · subst h
    rw [if_pos rfl, if_pos (by omega), setT_at]
  · rw [if_neg h, setT_ne T i c x (by omega)]
    by_cases h2 : d < c
    · rw [if_pos h2, if_pos (by omega)]
    · rw [if_neg h2, if_neg (by omega)]
theorem rowU_done (T : Nat → Nat → Nat) (i : Nat) : rowU T i 8 = row8 fun d => (T i d : Int) := rfl
end Au
end Go.Vl
end

section
set_option linter.unusedVariables false
set_option linter.unusedSimpArgs false
namespace Go.Vl
/-- a number's digits: -1 .. 99 -/
def dgt (n : Nat) : UInt8 := 48 + UInt8.ofNat n
def itoa (n : Int) : List UInt8 := if n < 0 then [45, 49] else if n < 10 then [dgt n.toNat] else [dgt (n.toNat / 10), dgt (n.toNat % 10)]
def keyL (l : List Int) : List UInt8 := l.flatMap fun n => itoa n ++ [32]
theorem keyL_cons (n : Int) (l : List Int) : keyL (n :: l) = itoa n ++ 32 :: keyL l := by simp [keyL]
theorem keyL_append (l m : List Int) : keyL (l ++ m) = keyL l ++ keyL m := by simp [keyL]
theorem keyL_snoc (l : List Int) (i : Nat) (h : i < l.length) : keyL (l.take (i + 1)) = keyL (l.take i) ++ (itoa (l.getD i 0) ++ [32]) := by
  rw [take_getDG 0 l i h, keyL_append]; simp [keyL]
def sml (l : List Int) : Prop := ∀ n ∈ l, -1 ≤ n ∧ n < 100
theorem dgt_ne (n : Nat) (h : n < 10) : dgt n ≠ 32 ∧ dgt n ≠ 45 := by
  unfold dgt
  rcases (show n = 0 ∨ n = 1 ∨ n = 2 ∨ n = 3 ∨ n = 4 ∨ n = 5 ∨ n = 6 ∨ n = 7 ∨ n = 8 ∨ n = 9 from by omega) with rfl | rfl | rfl | rfl | rfl | rfl | rfl | rfl | rfl | rfl <;> decide
theorem dgt_nat (n : Nat) (h : n < 10) : (dgt n).toNat = 48 + n := by
  unfold dgt
  rcases (show n = 0 ∨ n = 1 ∨ n = 2 ∨ n = 3 ∨ n = 4 ∨ n = 5 ∨ n = 6 ∨ n = 7 ∨ n = 8 ∨ n = 9 from by omega) with rfl | rfl | rfl | rfl | rfl | rfl | rfl | rfl | rfl | rfl <;> rfl
theorem dgt_inj {m n : Nat} (hm : m < 10) (hn : n < 10) (h : dgt m = dgt n) : m = n := by
  have := congrArg UInt8.toNat h
  rw [dgt_nat m hm, dgt_nat n hn] at this; omega
/-- a number's text ends where the space stands -/
theorem itoa_split {m n : Int} (hm : -1 ≤ m ∧ m < 100) (hn : -1 ≤ n ∧ n < 100) {r s : List UInt8} (h : itoa m ++ 32 :: r = itoa n ++ 32 :: s) : m = n ∧ r = s := by
  unfold itoa at h
  by_cases m0 : m < 0
  · rw [if_pos m0] at h
    by_cases n0 : n < 0
    · rw [if_pos n0] at h
      exact ⟨by omega, by simpa using h⟩
    · exfalso
      rw [if_neg n0] at h
      by_cases n1 : n < 10
      · rw [if_pos n1] at h
        have := (List.cons.inj h).1
        exact (dgt_ne n.toNat (by omega)).2 this.symm
      · rw [if_neg n1] at h
        have := (List.cons.inj h).1
        exact (dgt_ne (n.toNat / 10) (by omega)).2 this.symm
  · rw [if_neg m0] at h
    by_cases n0 : n < 0
    · exfalso
      rw [if_pos n0] at h
      by_cases m1 : m < 10
      · rw [if_pos m1] at h
        exact (dgt_ne m.toNat (by omega)).2 (List.cons.inj h).1
      · rw [if_neg m1] at h
        exact (dgt_ne (m.toNat / 10) (by omega)).2 (List.cons.inj h).1
    · rw [if_neg n0] at h
      by_cases m1 : m < 10 <;> by_cases n1 : n < 10
      · rw [if_pos m1, if_pos n1] at h
        obtain ⟨h1, h2⟩ := List.cons.inj h
        have := dgt_inj (by omega) (by omega) h1
        exact ⟨by omega, by simpa using h2⟩
      · exfalso
        rw [if_pos m1, if_neg n1] at h
        obtain ⟨h1, h2⟩ := List.cons.inj h
        exact (dgt_ne (n.toNat % 10) (by omega)).1 (List.cons.inj h2).1.symm
      · exfalso
        rw [if_neg m1, if_pos n1] at h
        obtain ⟨h1, h2⟩ := List.cons.inj h
        exact (dgt_ne (m.toNat % 10) (by omega)).1 (List.cons.inj h2).1
      · rw [if_neg m1, if_neg n1] at h
        obtain ⟨h1, h2⟩ := List.cons.inj h
        obtain ⟨h3, h4⟩ := List.cons.inj h2
        have e1 := dgt_inj (by omega) (by omega) h1
        have e2 := dgt_inj (by omega) (by omega) h3
        exact ⟨by omega, by simpa using h4⟩
theorem itoa_head (n : Int) (hn : -1 ≤ n ∧ n < 100) : ∃ c r, itoa n = c :: r ∧ (c.toNat = 45 ∨ (48 ≤ c.toNat ∧ c.toNat ≤ 57)) := by
  unfold itoa
  split
  · exact ⟨_, _, rfl, .inl rfl⟩
  · split
    · exact ⟨_, _, rfl, .inr (by rw [dgt_nat _ (by omega)]; omega)⟩
    · exact ⟨_, _, rfl, .inr (by rw [dgt_nat _ (by omega)]; omega)⟩
/-- rows of numbers, and a text behind that begins with no number -/
theorem keyL_inj : ∀ {l m : List Int} {r s : List UInt8}, sml l → sml m → (∀ c t, r = c :: t → 57 < c.toNat) → (∀ c t, s = c :: t → 57 < c.toNat) → keyL l ++ r = keyL m ++ s → l = m ∧ r = s
  | [], [], r, s, _, _, _, _, h => ⟨rfl, h⟩
  | [], n :: m, r, s, _, hm, hr, _, h => by
    exfalso
    rw [keyL_cons] at h
    obtain ⟨c, t, e, hc⟩ := itoa_head n (hm n List.mem_cons_self)
    rw [e] at h
    have h : r = c :: (t ++ 32 :: keyL m ++ s) := by simpa [keyL] using h
    have := hr _ _ h
    omega
  | n :: l, [], r, s, hl, _, _, hs, h => by
    exfalso
    rw [keyL_cons] at h
    obtain ⟨c, t, e, hc⟩ := itoa_head n (hl n List.mem_cons_self)
    rw [e] at h
    have h : s = c :: (t ++ 32 :: keyL l ++ r) := by simpa [keyL] using h.symm
    have := hs _ _ h
    omega
  | n :: l, k :: m, r, s, hl, hm, hr, hs, h => by
    rw [keyL_cons, keyL_cons, List.append_assoc, List.append_assoc, List.cons_append, List.cons_append] at h
    obtain ⟨e1, e2⟩ := itoa_split (hl n List.mem_cons_self) (hm k List.mem_cons_self) h
    obtain ⟨e3, e4⟩ := keyL_inj (fun x hx => hl x (List.mem_cons_of_mem _ hx)) (fun x hx => hm x (List.mem_cons_of_mem _ hx)) hr hs e2
    exact ⟨by rw [e1, e3], e4⟩
theorem keyL_inj' {l m : List Int} (hl : sml l) (hm : sml m) (h : keyL l = keyL m) : l = m :=
  (keyL_inj (r := []) (s := []) hl hm (by intro c t h; cases h) (by intro c t h; cases h) (by rw [h])).1
theorem itoa_len (n : Int) : 1 ≤ (itoa n).length ∧ (itoa n).length ≤ 2 := by
  unfold itoa; split
  · exact ⟨by decide, by decide⟩
  · split <;> exact ⟨by simp, by simp⟩
theorem keyL_len (l : List Int) : (keyL l).length ≤ 3 * l.length := by
  induction l with
  | nil => exact Nat.le_refl _
  | cons n l ih => rw [keyL_cons, List.length_append, List.length_cons, List.length_cons]; have := itoa_len n; omega
def fmtB (b : Bool) : List UInt8 := if b then [116, 114, 117, 101] else [102, 97, 108, 115, 101]
theorem fmtB_inj {a b : Bool} (h : fmtB a = fmtB b) : a = b := by cases a <;> cases b <;> first | rfl | (simp [fmtB] at h)
theorem fmtB_head (b : Bool) : ∀ c t, fmtB b = c :: t → 57 < c.toNat := by
  intro c t h
  cases b
  · have h : [102, 97, 108, 115, 101] = c :: t := h
    cases h; decide
  · have h : [116, 114, 117, 101] = c :: t := h
    cases h; decide
theorem keyB_inj {l m : List Int} {a b : Bool} (hl : sml l) (hm : sml m) (h : keyL l ++ fmtB a = keyL m ++ fmtB b) : l = m ∧ a = b := by
  obtain ⟨h1, h2⟩ := keyL_inj hl hm (fmtB_head a) (fmtB_head b) h
  exact ⟨h1, fmtB_inj h2⟩
/-- where a key stands: by what it is the key of -/
theorem place_map {α β : Type} [DecidableEq α] [DecidableEq β] {f : α → β} {k : α} : ∀ {ks : List α}, (∀ q ∈ ks, f k = f q → k = q) → place (f k) (ks.map f) = place k ks
  | [], _ => rfl
  | q :: ks, h => by
    simp only [List.map_cons, place]
    by_cases e : k = q
    · rw [if_pos e, if_pos (by rw [e])]
    · rw [if_neg e, if_neg (fun e' => e (h q List.mem_cons_self e')), place_map fun q hq => h q (List.mem_cons_of_mem _ hq)]
end Go.Vl
end

section
set_option linter.unusedVariables false
set_option linter.unusedSimpArgs false
namespace Go.Vl
namespace Lg
def over (N : Int) (A : Lg) : Prop := ∀ w, A w → ∀ c ∈ w, 0 ≤ c ∧ c < N
def live (A : Lg) : Prop := ∃ w, A w
section closed
variable {N : Int} {A B : Lg}
theorem over_none : over N none := fun w h => h.elim
theorem over_eps : over N eps := fun w h c hc => by rw [show w = [] from h] at hc; cases hc
theorem over_one {n : Int} (h0 : 0 ≤ n) (h : n < N) : over N (one n) := fun w hw c hc => by
  rw [show w = [n] from hw] at hc; rw [List.mem_singleton.1 hc]; exact ⟨h0, h⟩
theorem over.cat (ha : over N A) (hb : over N B) : over N (cat A B) := by
  rintro _ ⟨u, v, rfl, hu, hv⟩ c hc
  rcases List.mem_append.1 hc with hc | hc
  · exact ha u hu c hc
  · exact hb v hv c hc
theorem over.alt (ha : over N A) (hb : over N B) : over N (alt A B) := by
  rintro w (h | h)
  · exact ha w h
  · exact hb w h
theorem over.star (ha : over N A) : over N (star A) := by
  intro w hw
  induction hw with
  | nil => intro c hc; cases hc
  | cons u v hu _ ih =>
    intro c hc
    rcases List.mem_append.1 hc with hc | hc
    · exact ha u hu c hc
    · exact ih c hc
theorem over.sfl (ha : over N A) (k : Nat) : over N (sfl A k) := by
  unfold Lg.sfl
  split
  · exact ha.star
  · split
    · exact ha.cat ha.star
    · exact over_eps.alt ha
theorem over.foldl : ∀ (sf : List Nat) {A : Lg}, over N A → over N (sf.foldl Lg.sfl A)
  | [], _, h => h
  | k :: sf, _, h => over.foldl sf (h.sfl k)
theorem live.cat (ha : live A) (hb : live B) : live (cat A B) := by
  obtain ⟨u, hu⟩ := ha; obtain ⟨v, hv⟩ := hb; exact ⟨u ++ v, u, v, rfl, hu, hv⟩
theorem live.sfl (ha : live A) (k : Nat) : live (sfl A k) := by
  unfold Lg.sfl
  split
  · exact ⟨[], .nil⟩
  · split
    · exact ha.cat ⟨[], .nil⟩
    · exact ⟨[], .inl rfl⟩
theorem live.foldl : ∀ (sf : List Nat) {A : Lg}, live A → live (sf.foldl Lg.sfl A)
  | [], _, h => h
  | k :: sf, _, h => live.foldl sf (h.sfl k)
end closed
/-- all letters changed by so much -/
def shift (k : Int) (A : Lg) : Lg := fun w => ∃ v, w = v.map (· + k) ∧ A v
end Lg
namespace It
mutual
/-- letters blw N -/
def blw (N : Nat) : It → Prop
  | ch n _ => n < N
  | gr s a _ => blws N s ∧ blwa N a
def blws (N : Nat) : List It → Prop
  | [] => True
  | i :: s => blw N i ∧ blws N s
def blwa (N : Nat) : List (List It) → Prop
  | [] => True
  | s :: a => blws N s ∧ blwa N a
end
theorem blws_iff (N : Nat) (s : List It) : blws N s ↔ ∀ i ∈ s, blw N i := by
  induction s with
  | nil => simp [blws]
  | cons d l ih => simp [blws, ih]
theorem blwa_iff (N : Nat) (a : List (List It)) : blwa N a ↔ ∀ s ∈ a, blws N s := by
  induction a with
  | nil => simp [blwa]
  | cons d l ih => simp [blwa, ih]
theorem blws_append {N : Nat} {s t : List It} (hs : blws N s) (ht : blws N t) : blws N (s ++ t) :=
  (blws_iff N _).2 fun i hi => (List.mem_append.1 hi).elim ((blws_iff N s).1 hs i) ((blws_iff N t).1 ht i)
theorem oks_append {s t : List It} (hs : oks s) (ht : oks t) : oks (s ++ t) :=
  (oks_iff _).2 fun i hi => (List.mem_append.1 hi).elim ((oks_iff s).1 hs i) ((oks_iff t).1 ht i)
theorem slg_over' {N : Nat} (s : List It) (h : ∀ i ∈ s, Lg.over N (lg i)) : Lg.over N (slg s) := by
  induction s with
  | nil => exact Lg.over_eps
  | cons i s ih => rw [slg]; exact (h i List.mem_cons_self).cat (ih fun j hj => h j (List.mem_cons_of_mem _ hj))
theorem alg_over' {N : Nat} (a : List (List It)) (h : ∀ t ∈ a, Lg.over N (slg t)) : Lg.over N (alg a) := by
  induction a with
  | nil => exact Lg.over_none
  | cons t a ih => rw [alg]; exact (h t List.mem_cons_self).alt (ih fun j hj => h j (List.mem_cons_of_mem _ hj))
theorem lg_over {N : Nat} : ∀ i : It, blw N i → Lg.over N (lg i) := by
  refine rec' ?_ ?_
  · intro n sf h
    simp only [blw] at h
    rw [lg]; exact (Lg.over_one (by omega) (by omega)).foldl sf
  · intro s a sf h1 h2 h
    simp only [blw, blws_iff, blwa_iff] at h
    rw [lg]
    exact ((slg_over' s fun i hi => h1 i hi (h.1 i hi)).alt (alg_over' a fun t ht => slg_over' t fun i hi => h2 t ht i hi (h.2 t ht i hi))).foldl sf
theorem slg_over {N : Nat} (s : List It) (h : blws N s) : Lg.over N (slg s) := slg_over' s fun i hi => lg_over i ((blws_iff N s).1 h i hi)
theorem slg_live' (s : List It) (h : ∀ i ∈ s, Lg.live (lg i)) : Lg.live (slg s) := by
  induction s with
  | nil => exact ⟨[], rfl⟩
  | cons i s ih => rw [slg]; exact (h i List.mem_cons_self).cat (ih fun j hj => h j (List.mem_cons_of_mem _ hj))
theorem lg_live : ∀ i : It, Lg.live (lg i) := by
  refine rec' ?_ ?_
  · intro n sf
    rw [lg]; exact Lg.live.foldl sf ⟨[(n : Int)], rfl⟩
  · intro s a sf h1 _
    rw [lg]
    obtain ⟨w, hw⟩ := slg_live' s h1
    exact Lg.live.foldl sf ⟨w, .inl hw⟩
theorem slg_live (s : List It) : Lg.live (slg s) := slg_live' s fun i _ => lg_live i
mutual
/-- letters that are changed -/
def ren (k : Nat) : It → It
  | ch n sf => ch (n + k) sf
  | gr s a sf => gr (rens k s) (rena k a) sf
def rens (k : Nat) : List It → List It
  | [] => []
  | i :: s => ren k i :: rens k s
def rena (k : Nat) : List (List It) → List (List It)
  | [] => []
  | s :: a => rens k s :: rena k a
end
/-- .. and their texts -/
def rc (k : Nat) (c : UInt8) : UInt8 := if 97 ≤ c.toNat ∧ c.toNat ≤ 99 then c + UInt8.ofNat k else c
end It
end Go.Vl
end

section
set_option linter.unusedVariables false
set_option linter.unusedSimpArgs false
namespace Go.Vl
namespace It
/-- what may stand behind alternatives; a sequence; an item -/
def endA (r : List UInt8) : Prop := r = [] ∨ ∃ t, r = 41 :: t
def endS (r : List UInt8) : Prop := r = [] ∨ ∃ t, r = 41 :: t ∨ r = 124 :: t
def endI (r : List UInt8) : Prop := ∀ c t, r = c :: t → c ≠ 42 ∧ c ≠ 43 ∧ c ≠ 63
theorem ch_nat (n : Nat) (h : n < 8) : (97 + UInt8.ofNat n).toNat = 97 + n := by
  rcases (show n = 0 ∨ n = 1 ∨ n = 2 ∨ n = 3 ∨ n = 4 ∨ n = 5 ∨ n = 6 ∨ n = 7 from by omega) with rfl | rfl | rfl | rfl | rfl | rfl | rfl | rfl <;> rfl
theorem tx_head (i : It) (h : ok i) : ∃ c t, tx i = c :: t ∧ ((97 ≤ c.toNat ∧ c.toNat ≤ 104) ∨ c = 40) := by
  cases i with
  | ch n sf =>
    simp only [ok] at h
    refine ⟨_, _, by rw [tx], .inl ?_⟩
    rw [ch_nat n h.1]; omega
  | gr s a sf => exact ⟨_, _, by rw [tx], .inr rfl⟩
theorem endA.s {r : List UInt8} (h : endA r) : endS r := by
  rcases h with h | ⟨t, h⟩
  · exact .inl h
  · exact .inr ⟨t, .inl h⟩
theorem endS.i {r : List UInt8} (h : endS r) : endI r := by
  rintro c t rfl
  rcases h with h | ⟨t', h | h⟩
  · cases h
  · obtain ⟨rfl, rfl⟩ := List.cons.inj h; decide
  · obtain ⟨rfl, rfl⟩ := List.cons.inj h; decide
theorem endS_atl (a : List (List It)) {r : List UInt8} (h : endA r) : endS (atl a ++ r) := by
  cases a with
  | nil => exact h.s
  | cons s a => exact .inr ⟨_, .inr rfl⟩
theorem endA_close (r : List UInt8) : endA (41 :: r) := .inr ⟨r, rfl⟩
theorem endI_stx (s : List It) (hs : oks s) {r : List UInt8} (h : endS r) : endI (stx s ++ r) := by
  cases s with
  | nil => exact h.i
  | cons i s =>
    obtain ⟨c, t, e, hc⟩ := tx_head i hs.1
    intro c' t' e'
    rw [stx, e] at e'
    obtain ⟨rfl, rfl⟩ := List.cons.inj e'
    rcases hc with hc | rfl
    · refine ⟨?_, ?_, ?_⟩ <;> (rintro rfl; simp at hc)
    · decide
theorem sg_idx (k : Nat) (h : k < 3) : idxI (fun b => b == sg k) [42, 43, 63] = (k : Int) := by
  rcases (show k = 0 ∨ k = 1 ∨ k = 2 from by omega) with rfl | rfl | rfl <;> rfl
theorem idx_no (c : UInt8) (h : c ≠ 42 ∧ c ≠ 43 ∧ c ≠ 63) : idxI (fun b => b == c) [42, 43, 63] = -1 := by
  refine idxI_miss _ _ fun d hd => ?_
  simp only [List.mem_cons, List.not_mem_nil, or_false] at hd
  rcases hd with rfl | rfl | rfl
  · exact beq_eq_false_iff_ne.2 (Ne.symm h.1)
  · exact beq_eq_false_iff_ne.2 (Ne.symm h.2.1)
  · exact beq_eq_false_iff_ne.2 (Ne.symm h.2.2)
theorem drop_cons (s : List It) (k : Nat) (h : k < s.length) : stx (s.drop k) = tx (s.getD k (ch 0 [])) ++ stx (s.drop (k + 1)) := by
  rw [drop_getDG (ch 0 []) s k h, stx]
theorem sfdrop (sf : List Nat) (k : Nat) (h : k < sf.length) (r : List UInt8) : (sf.drop k).map sg ++ r = sg (sf.getD k 0) :: ((sf.drop (k + 1)).map sg ++ r) := by
  rw [drop_getDG 0 sf k h]; rfl
theorem tail1 (c : UInt8) (r : List UInt8) : List.drop (Int.toNat 1) (List.take (((c :: r).length : Nat) : Int).toNat (c :: r)) = r := by simp
theorem u8ne {c : UInt8} {n : Nat} (hn : n < 256) (h : c ≠ UInt8.ofNat n) : ((c.toNat : Nat) : Int) ≠ (n : Int) := by
  intro h'; apply h; apply UInt8.toNat_inj.1; simp [Nat.mod_eq_of_lt hn]; omega
/-- the pieces of an alternative's text -/
theorem atl_drop (a : List (List It)) (k : Nat) (h : k < a.length) : atl (a.drop k) = 124 :: (stx (a.getD k []) ++ atl (a.drop (k + 1))) := by
  rw [drop_getDG [] a k h, atl]
end It
theorem Ex.joinW_lib (sep : List UInt8) : ∀ l : List (List UInt8), Ex.joinW sep l = Lib.join l sep
  | [] => rfl
  | [s] => by simp [Ex.joinW, Lib.join, List.intercalate]
  | s :: t :: l => by
    rw [Ex.joinW, Ex.joinW_lib sep (t :: l)]
    simp [Lib.join, List.intercalate]
theorem Ex.letter8 (t : Int) (h0 : 0 ≤ t) (h8 : t < 8) : List.drop t.toNat (List.take (t + 1).toNat [97, 98, 99, 100, 101, 102, 103, 104]) = [97 + UInt8.ofNat t.toNat] := by
  obtain ⟨n, rfl⟩ : ∃ n : Nat, t = (n : Int) := ⟨t.toNat, by omega⟩
  rw [show ((n : Int) + 1).toNat = n + 1 from by omega, Int.toNat_natCast]
  rcases (show n = 0 ∨ n = 1 ∨ n = 2 ∨ n = 3 ∨ n = 4 ∨ n = 5 ∨ n = 6 ∨ n = 7 from by omega) with rfl | rfl | rfl | rfl | rfl | rfl | rfl | rfl <;> rfl
theorem Ex.join0_le (x : Ex) : (Ex.joinW [] (x.parts.map (Ex.ptx1 x.kind))).length = Ex.sumL (x.parts.map (Ex.ptx1 x.kind)) := by
  rw [Ex.joinW_nil, List.length_flatten]; rfl
theorem Ex.join1_le (x : Ex) : (Ex.joinW [124] (x.parts.map (Ex.ptx1 x.kind))).length ≤ Ex.sumL (x.parts.map (Ex.ptx1 x.kind)) + x.parts.length := by
  have := Ex.joinW_len [124] (x.parts.map (Ex.ptx1 x.kind))
  simp only [List.length_singleton, List.length_map, Nat.mul_one] at this
  split at this <;> omega
/-- how long the parts' texts are -/
def Ex.wz (x : Ex) : Nat := Ex.sumL (x.parts.map (Ex.ptx1 x.kind)) + x.parts.length + 2
theorem Ex.ptx_len (x : Ex) : ∀ d ∈ x.parts, (Ex.txt d).length ≤ Ex.wz x := by
  intro d hd
  have h1 : (Ex.txt d).length ≤ (Ex.ptx1 x.kind d).length := by unfold Ex.ptx1; split <;> simp; omega
  have h2 : ∀ l : List Ex, d ∈ l → (Ex.ptx1 x.kind d).length ≤ Ex.sumL (l.map (Ex.ptx1 x.kind)) := by
    intro l
    induction l with
    | nil => intro h; cases h
    | cons e l ih =>
      intro h
      rw [List.map_cons, Ex.sumL_cons]
      rcases List.mem_cons.1 h with rfl | h
      · omega
      · have := ih h; omega
  have := h2 _ hd
  unfold Ex.wz; omega
theorem Ex.sign3 (k : Int) (j : Nat) (h : k - 4 = (j : Int)) (hj : j < 3) : List.drop ((j : Nat) : Int).toNat (List.take (((j : Nat) : Int) + 1).toNat [42, 43, 63]) = [Ex.sgn k] := by
  rw [show (((j : Nat) : Int) + 1).toNat = j + 1 from by omega, Int.toNat_natCast]
  obtain rfl : k = 4 + (j : Int) := by omega
  rcases (show j = 0 ∨ j = 1 ∨ j = 2 from by omega) with rfl | rfl | rfl <;> rfl
theorem Ex.part_txt (x : Ex) (h1 : Ex.ok1 x) : ∀ d ∈ x.parts, (Ex.txt d).length ≤ (Ex.txt x).length := by
  intro d hd
  have hp : (Ex.txt d).length ≤ (Ex.ptx1 x.kind d).length := by unfold Ex.ptx1; split <;> simp; omega
  have hm : ∀ (sep : List UInt8) (l : List Ex), d ∈ l → (Ex.ptx1 x.kind d).length ≤ (Ex.joinW sep (l.map (Ex.ptx1 x.kind))).length := by
    intro sep l
    induction l with
    | nil => intro h; cases h
    | cons e l ih =>
      intro h
      rw [List.map_cons, Ex.joinW_cons, List.length_append]
      rcases List.mem_cons.1 h with rfl | h
      · omega
      · have := ih h
        cases l with
        | nil => cases h
        | cons f l =>
          rw [List.map_cons, Ex.joinW_cons, List.length_append] at this
          rw [List.map_cons, List.flatMap_cons, List.length_append, List.length_append]; omega
  rw [Ex.txt_eq x]
  split
  · rename_i e
    rcases h1 with h1 | h1 | h1 | h1
    · rw [h1.2.1] at hd; cases hd
    · omega
    · omega
    · omega
  · split
    · have := hm [] _ hd; omega
    · split
      · have := hm [124] _ hd; omega
      · have := hm [] _ hd; rw [List.length_append]; omega
theorem Ex.wz_le (x : Ex) (h1 : Ex.ok1 x) : Ex.wz x ≤ (Ex.txt x).length + x.parts.length + 2 := by
  have h0 := Ex.join0_le x
  have h3 := Ex.joinW_len [124] (x.parts.map (Ex.ptx1 x.kind))
  unfold Ex.wz
  rw [Ex.txt_eq x]
  simp only [List.length_singleton, List.length_map, Nat.mul_one] at h3
  split
  · rename_i e
    have : x.parts = [] := by
      rcases h1 with h1 | h1 | h1 | h1
      · exact h1.2.1
      · omega
      · omega
      · omega
    rw [this]; simp [Ex.sumL]
  · split
    · omega
    · split
      · rename_i e
        have hn : x.parts.map (Ex.ptx1 x.kind) ≠ [] := by
          intro h'
          have : x.parts = [] := by simpa using h'
          rcases h1 with h1 | h1 | h1 | h1
          · omega
          · omega
          · rw [this] at h1; simp at h1
          · omega
        rw [if_neg hn] at h3
        have : x.parts.length ≠ 0 := fun h => hn (by rw [List.eq_nil_of_length_eq_zero h]; rfl)
        omega
      · rw [List.length_append]; omega
theorem Ex.ok1_facts {x : Ex} (h : Ex.ok1 x) : (1 ≤ x.kind ∧ x.kind ≤ 6) ∧ (0 ≤ x.type ∧ x.type < 8) ∧ (x.kind = 1 → x.parts.length = 0) ∧ (x.kind ≠ 1 → x.type = 0) ∧ ((x.kind = 2 ∨ x.kind = 3) → x.parts.length ≠ 1) ∧ (x.kind = 3 → x.parts.length ≠ 0) ∧
    (4 ≤ x.kind → x.parts.length = 1) ∧ ((x.kind == 2 || x.kind == 3) = true → (x.parts.any fun d => d.kind == x.kind) = false) := by
  have hany : ∀ k : Int, (∀ q ∈ x.parts, q.kind ≠ k) → (x.parts.any fun d => d.kind == k) = false := fun k hk => by
    rw [List.any_eq_false]; intro q hq; simpa using hk q hq
  rcases h with ⟨h1, h2, h3, h4⟩ | ⟨h1, h2, h3, h4⟩ | ⟨h1, h2, h3, h4⟩ | ⟨h1, h2, h3, h4⟩
  · have hl : x.parts.length = 0 := by rw [h2]; rfl
    refine ⟨by omega, by omega, by omega, by omega, by omega, by omega, by omega, fun h => ?_⟩
    rw [h1] at h; simp at h
  · refine ⟨by omega, by omega, by omega, by omega, by omega, by omega, by omega, fun _ => ?_⟩
    rw [h1]; exact hany 2 h4
  · refine ⟨by omega, by omega, by omega, by omega, by omega, by omega, by omega, fun _ => ?_⟩
    rw [h1]; exact hany 3 h4
  · refine ⟨by omega, by omega, by omega, by omega, by omega, by omega, by omega, fun h => ?_⟩
    have : x.kind = 2 ∨ x.kind = 3 := by simpa using h
    omega
theorem Ex.tog_sz (k : Int) (l : List Ex) : (tog k l).sz ≤ 1 + szs l := by
  rcases tog_cases k l with ⟨x, rfl, e⟩ | ⟨h1, y, h2, e⟩ | ⟨h1, h2, e⟩
  · rw [e]; simp [szs]
  · have := flat_szs k l
    rw [h2] at this
    rw [e]; simp only [szs] at this; omega
  · rw [e, sz]
    have := flat_szs k l; omega
theorem Ex.sfe_sz : ∀ (sf : List Nat) (x : Ex), (sfe x sf).sz = x.sz + sf.length
  | [], x => rfl
  | k :: sf, x => by
    show (sfe (.mk (4 + (k : Int)) 0 [x]) sf).sz = _
    rw [Ex.sfe_sz sf, sz]; simp only [szs, List.length_cons]; omega
namespace It
theorem sev_big' (s : List It) (h : ∀ i ∈ s, Ex.sz i.ev ≤ 2 * (tx i).length) : Ex.szs (sev s) ≤ 2 * (stx s).length := by
  induction s with
  | nil => exact Nat.le_refl _
  | cons i s ih =>
    have h1 := h i List.mem_cons_self
    have h2 := ih fun j hj => h j (List.mem_cons_of_mem _ hj)
    rw [sev, Ex.szs, stx, List.length_append]; omega
theorem aev_big' (a : List (List It)) (h : ∀ t ∈ a, Ex.szs (sev t) ≤ 2 * (stx t).length) : Ex.szs (aev a) ≤ 2 * (atl a).length := by
  induction a with
  | nil => exact Nat.le_refl _
  | cons t a ih =>
    have h1 := h t List.mem_cons_self
    have h2 := ih fun j hj => h j (List.mem_cons_of_mem _ hj)
    have h3 := Ex.tog_sz 2 (sev t)
    rw [aev, Ex.szs, atl, List.length_cons, List.length_append]; omega
theorem ev_big : ∀ i : It, Ex.sz i.ev ≤ 2 * (tx i).length := by
  refine rec' ?_ ?_
  · intro n sf
    rw [ev, Ex.sfe_sz, tx, List.length_cons, List.length_map, Ex.sz]; simp only [Ex.szs]; omega
  · intro s a sf h1 h2
    have h3 := sev_big' s h1
    have h4 := aev_big' a fun t ht => sev_big' t (h2 t ht)
    have h5 := Ex.tog_sz 2 (sev s)
    have h6 := Ex.tog_sz 3 (Ex.tog 2 (sev s) :: aev a)
    rw [ev, Ex.sfe_sz, tx]
    simp only [List.length_cons, List.length_append, List.length_map, Ex.szs] at *
    omega
theorem sev_big (s : List It) : Ex.szs (sev s) ≤ 2 * (stx s).length := sev_big' s fun i _ => ev_big i
theorem al_big (s : List It) (a : List (List It)) : Ex.szs (sq s :: aev a) ≤ 1 + 2 * (stx s ++ atl a).length := by
  have h1 := sev_big s
  have h2 := aev_big' a fun t _ => sev_big t
  have h3 : (sq s).sz ≤ 1 + Ex.szs (sev s) := Ex.tog_sz 2 (sev s)
  rw [Ex.szs, List.length_append]; omega
theorem al_sz (s : List It) (a : List (List It)) : (al s a).sz ≤ 2 + 2 * (stx s ++ atl a).length := by
  have h1 := Ex.tog_sz 3 (sq s :: aev a)
  have h2 := al_big s a
  show (Ex.tog 3 (sq s :: aev a)).sz ≤ _
  omega
theorem stx_mem {s : List It} {i : It} (h : i ∈ s) : (tx i).length ≤ (stx s).length := by
  induction s with
  | nil => cases h
  | cons e l ih =>
    rw [stx, List.length_append]
    rcases List.mem_cons.1 h with rfl | h
    · omega
    · have := ih h; omega
theorem atl_mem {a : List (List It)} {t : List It} (h : t ∈ a) : (stx t).length ≤ (atl a).length := by
  induction a with
  | nil => cases h
  | cons e l ih =>
    rw [atl, List.length_cons, List.length_append]
    rcases List.mem_cons.1 h with rfl | h
    · omega
    · have := ih h; omega
theorem al_mem {s : List It} {a : List (List It)} {t : List It} (h : t = s ∨ t ∈ a) : (stx t).length ≤ (stx s ++ atl a).length := by
  rw [List.length_append]
  rcases h with rfl | h
  · omega
  · have := atl_mem h; omega
end It
end Go.Vl
end

section
set_option linter.unusedVariables false
set_option linter.unusedSimpArgs false
namespace Go.Vl
/-- a word's part -/
def seg (w : List Int) (i j : Nat) : List Int := (w.take j).drop i
theorem seg_self (w : List Int) (i : Nat) : seg w i i = [] := by simp [seg]
theorem seg_len (w : List Int) {i j : Nat} (hj : j ≤ w.length) : (seg w i j).length = j - i := by simp [seg]; omega
theorem seg_app (w : List Int) {i j k : Nat} (h1 : i ≤ j) (h2 : j ≤ k) (h3 : k ≤ w.length) : seg w i j ++ seg w j k = seg w i k := by
  have e : w.take j = (w.take k).take j := by rw [List.take_take]; congr 1; omega
  simp only [seg]
  rw [e]
  have h4 : i ≤ ((w.take k).take j).length := by simp; omega
  rw [← List.drop_append_of_le_length h4, List.take_append_drop]
theorem seg_split (w : List Int) {i k : Nat} (h1 : i ≤ k) (h3 : k ≤ w.length) (u v : List Int) (h : seg w i k = u ++ v) : ∃ j, i ≤ j ∧ j ≤ k ∧ seg w i j = u ∧ seg w j k = v := by
  have hl : (seg w i k).length = u.length + v.length := by rw [h, List.length_append]
  rw [seg_len w h3] at hl
  refine ⟨i + u.length, by omega, by omega, ?_, ?_⟩
  · have := seg_app w (i := i) (j := i + u.length) (k := k) (by omega) (by omega) h3
    rw [h] at this
    exact (List.append_inj this (by rw [seg_len w (by omega)]; omega)).1
  · have := seg_app w (i := i) (j := i + u.length) (k := k) (by omega) (by omega) h3
    rw [h] at this
    exact (List.append_inj this (by rw [seg_len w (by omega)]; omega)).2
theorem seg_one (w : List Int) (i : Nat) (h : i < w.length) : seg w i (i + 1) = [w.getD i 0] := by
  simp only [seg]
  rw [take_getDG 0 w i h, List.drop_append_of_le_length (by rw [List.length_take]; omega), List.drop_of_length_le (by rw [List.length_take]; omega)]; rfl
/-- g: the places that words of A lead to from f's places -/
def Rch (A : Lg) (w : List Int) (f g : Nat → Bool) : Prop := ∀ j, j ≤ w.length → (g j = true ↔ ∃ i, i ≤ j ∧ f i = true ∧ A (seg w i j))
section rch
variable {A B : Lg} {w : List Int} {f g h : Nat → Bool}
theorem Rch.congr (hr : Rch A w f g) (he : ∀ j, j ≤ w.length → h j = g j) : Rch A w f h := fun j hj => by rw [he j hj]; exact hr j hj
theorem Rch.eps : Rch Lg.eps w f f := fun j hj => by
  constructor
  · intro h; exact ⟨j, Nat.le_refl _, h, seg_self w j⟩
  · rintro ⟨i, hi, h, e⟩
    have : (seg w i j).length = 0 := by rw [show seg w i j = [] from e]; rfl
    rw [seg_len w hj] at this
    obtain rfl : i = j := by omega
    exact h
theorem Rch.none : Rch Lg.none w f (fun _ => false) := fun j hj => by simp [Lg.none]
theorem Rch.one (n : Int) : Rch (Lg.one n) w f (fun j => decide (0 < j ∧ j ≤ w.length) && (f (j - 1) && (w.getD (j - 1) 0 == n))) := fun j hj => by
  simp only [Bool.and_eq_true, decide_eq_true_eq, beq_iff_eq]
  constructor
  · rintro ⟨⟨h1, _⟩, h2, h3⟩
    refine ⟨j - 1, by omega, h2, ?_⟩
    have := seg_one w (j - 1) (by omega)
    rw [show j - 1 + 1 = j from by omega] at this
    rw [this, h3]; rfl
  · rintro ⟨i, hi, h2, h3⟩
    have h3 : seg w i j = [n] := h3
    have hl : (seg w i j).length = 1 := by rw [h3]; rfl
    rw [seg_len w hj] at hl
    obtain rfl : j = i + 1 := by omega
    rw [seg_one w i (by omega)] at h3
    exact ⟨⟨by omega, hj⟩, h2, by simpa using h3⟩
theorem Rch.cat (ha : Rch A w f g) (hb : Rch B w g h) : Rch (Lg.cat A B) w f h := fun k hk => by
  rw [hb k hk]
  constructor
  · rintro ⟨j, hj, h1, h2⟩
    obtain ⟨i, hi, h3, h4⟩ := (ha j (by omega)).1 h1
    exact ⟨i, by omega, h3, _, _, (seg_app w hi hj hk).symm, h4, h2⟩
  · rintro ⟨i, hi, h1, u, v, e, h2, h3⟩
    obtain ⟨j, h4, h5, rfl, rfl⟩ := seg_split w hi hk u v e
    exact ⟨j, h5, (ha j (by omega)).2 ⟨i, h4, h1, h2⟩, h3⟩
theorem Rch.alt (ha : Rch A w f g) (hb : Rch B w f h) : Rch (Lg.alt A B) w f (fun j => g j || h j) := fun j hj => by
  simp only [Bool.or_eq_true]
  rw [ha j hj, hb j hj]
  constructor
  · rintro (⟨i, hi, h1, h2⟩ | ⟨i, hi, h1, h2⟩)
    · exact ⟨i, hi, h1, .inl h2⟩
    · exact ⟨i, hi, h1, .inr h2⟩
  · rintro ⟨i, hi, h1, h2 | h2⟩
    · exact .inl ⟨i, hi, h1, h2⟩
    · exact .inr ⟨i, hi, h1, h2⟩
/-- on the way to all that is led to: f's places are there, and what is there is led to -/
structure WayR (A : Lg) (w : List Int) (f o : Nat → Bool) : Prop where
  all : ∀ j, j ≤ w.length → f j = true → o j = true
  some : ∀ j, j ≤ w.length → o j = true → ∃ i, i ≤ j ∧ f i = true ∧ Lg.star A (seg w i j)
theorem WayR.start : WayR A w f f := ⟨fun _ _ h => h, fun j hj h => ⟨j, Nat.le_refl _, h, by rw [seg_self]; exact .nil⟩⟩
theorem WayR.step {o n : Nat → Bool} (hw : WayR A w f o) (hr : Rch A w o n) : WayR A w f (fun j => o j || n j) := by
  refine ⟨fun j hj h => by rw [hw.all j hj h]; rfl, fun k hk h => ?_⟩
  rcases Bool.or_eq_true _ _ |>.mp h with h | h
  · exact hw.some k hk h
  · obtain ⟨j, hj, h1, h2⟩ := (hr k hk).1 h
    obtain ⟨i, hi, h3, h4⟩ := hw.some j (by omega) h1
    refine ⟨i, by omega, h3, ?_⟩
    rw [← seg_app w hi hj hk]
    exact Lg.star_append h4 (Lg.star_one h2)
theorem WayR.done {o n : Nat → Bool} (hw : WayR A w f o) (hr : Rch A w o n) (he : ∀ j, j ≤ w.length → (o j || n j) = o j) : Rch (Lg.star A) w f o := fun k hk => by
  refine ⟨hw.some k hk, ?_⟩
  rintro ⟨i, hi, h1, h2⟩
  have key : ∀ z, Lg.star A z → ∀ i, i ≤ k → o i = true → seg w i k = z → o k = true := by
    intro z hz
    induction hz with
    | nil =>
      intro i hi ho e
      have : (seg w i k).length = 0 := by rw [e]; rfl
      rw [seg_len w hk] at this
      obtain rfl : i = k := by omega
      exact ho
    | cons u v hu _ ih =>
      intro i hi ho e
      obtain ⟨j, h4, h5, rfl, rfl⟩ := seg_split w hi hk u v e
      have hn := (hr j (by omega)).2 ⟨i, h4, ho, hu⟩
      have := he j (by omega)
      rw [hn, Bool.or_true] at this
      exact ih j h5 this.symm rfl
  exact key _ h2 i hi (hw.all i (by omega) h1) rfl
/-- how many places are not there -/
def outs (n : Nat) (o : Nat → Bool) : Nat := ((List.range n).filter fun j => !o j).length
theorem outs_lt (n : Nat) (o p : Nat → Bool) (h : ∀ j, j < n → o j = true → p j = true) (hne : ¬ ∀ j, j < n → p j = o j) : outs n p < outs n o := by
  induction n with
  | zero => exact absurd (fun j hj => absurd hj (Nat.not_lt_zero _)) hne
  | succ n ih =>
    have hle : ∀ m, m ≤ n → outs m p ≤ outs m o := by
      intro m
      induction m with
      | zero => intro _; exact Nat.le_refl _
      | succ m ih2 =>
        intro hm
        have := ih2 (by omega)
        simp only [outs, List.range_succ, List.filter_append, List.length_append] at this ⊢
        have h2 := h m (by omega)
        cases h3 : o m <;> cases h4 : p m <;> simp_all <;> omega
    simp only [outs, List.range_succ, List.filter_append, List.length_append]
    by_cases hn : p n = o n
    · have := ih (fun j hj => h j (by omega)) fun hall => hne fun j hj => by
        rcases Nat.lt_or_ge j n with h1 | h1
        · exact hall j h1
        · obtain rfl : j = n := by omega
          exact hn
      simp only [outs] at this
      simp only [List.filter_cons, List.filter_nil, hn]
      omega
    · have h1 := hle n (Nat.le_refl _)
      have h2 := h n (by omega)
      simp only [outs] at h1
      cases h3 : o n <;> cases h4 : p n <;> simp_all
      omega
end rch
/-- is a word meant? -/
noncomputable def Lg.dec (A : Lg) (w : List Int) : Bool := @decide (A w) (Classical.propDecidable _)
theorem Lg.dec_iff (A : Lg) (w : List Int) : Lg.dec A w = true ↔ A w := @decide_eq_true_iff (A w) (Classical.propDecidable _)
theorem Lg.dec_eq {A B : Lg} {u v : List Int} (h : A u ↔ B v) : Lg.dec A u = Lg.dec B v := Bool.eq_iff_iff.2 (by rw [Lg.dec_iff, Lg.dec_iff]; exact h)
theorem row_first (n : Nat) : (List.replicate n (AV.bool false)).set 0 (AV.bool true) = rowB n (fun j => j == 0) := by
  rw [rowB_rep, rowB_set]
  refine rowB_congr n _ _ fun k _ => ?_
  by_cases h : k = 0
  · subst h; rfl
  · rw [if_neg h]; simp [h]
theorem seg_all (w : List Int) : seg w 0 w.length = w := by simp [seg]
theorem Rch.whole {A : Lg} {w : List Int} {g : Nat → Bool} (h : Rch A w (fun j => j == 0) g) : g w.length = Lg.dec A w := Bool.eq_iff_iff.2 (by
  rw [h w.length (Nat.le_refl _), Lg.dec_iff]
  constructor
  · rintro ⟨i, _, hi, h2⟩
    obtain rfl : i = 0 := by simpa using hi
    rwa [seg_all] at h2
  · intro h2
    exact ⟨0, Nat.zero_le _, rfl, by rwa [seg_all]⟩)
/-- a word of raw numbers -/
def wordOf (l : List Int) (n : Nat) : List Int := (l.take n).map (· % 3)
/-- how long a drawn text is at most; how many letters it has -/
def tb : Nat → Nat
  | 0 => 2
  | 1 => 2
  | d + 2 => 2 * tb (d + 1) + 4
def nb : Nat → Nat
  | 0 => 1
  | 1 => 1
  | d + 2 => 2 * nb (d + 1)
/-- a text of an expression that is drawn -/
structure Dx (d : Nat) (s : List It) : Prop where
  ok : It.oks s
  abc : It.blws 3 s
  len : (It.stx s).length ≤ tb d
  nl : It.snl s ≤ nb d
theorem tb_ge : ∀ d, 2 ≤ tb d
  | 0 => Nat.le_refl _
  | 1 => Nat.le_refl _
  | d + 2 => by have := tb_ge (d + 1); simp only [tb]; omega
theorem nb_ge : ∀ d, 1 ≤ nb d
  | 0 => Nat.le_refl _
  | 1 => Nat.le_refl _
  | d + 2 => by have := nb_ge (d + 1); simp only [nb]; omega
theorem tb_step (d : Nat) (h : 2 ≤ d) : tb d = 2 * tb (d - 1) + 4 ∧ nb d = 2 * nb (d - 1) := by
  obtain ⟨k, rfl⟩ : ∃ k, d = k + 2 := ⟨d - 2, by omega⟩
  exact ⟨rfl, rfl⟩
theorem Dx.leaf (d n : Nat) (sf : List Nat) (hn : n < 3) (hs : sf = [] ∨ sf = [0] ∨ sf = [2]) : Dx d [It.ch n sf] := by
  have h1 := tb_ge d
  have h2 := nb_ge d
  refine ⟨?_, ?_, ?_, ?_⟩
  · simp only [It.oks, It.ok, and_true]
    refine ⟨by omega, ?_⟩
    rcases hs with rfl | rfl | rfl <;> simp
  · simp only [It.blws, It.blw, and_true]; exact hn
  · simp only [It.stx, It.tx, List.append_nil, List.length_cons, List.length_map]
    rcases hs with rfl | rfl | rfl <;> simp <;> omega
  · simp only [It.snl, It.nl]; omega
def Dx.sf4 (p : Nat) : List Nat := if p = 2 then [0] else if p = 3 then [2] else []
theorem Dx.sf4_in (p : Nat) : Dx.sf4 p = [] ∨ Dx.sf4 p = [0] ∨ Dx.sf4 p = [2] := by
  unfold Dx.sf4; split
  · exact .inr (.inl rfl)
  · split
    · exact .inr (.inr rfl)
    · exact .inl rfl
theorem Dx.leaf_tx (n p : Nat) (hn : n < 3) (hp : p < 4) : List.drop 0 (List.take (Int.toNat 1) (List.drop ((n : Nat) : Int).toNat (List.take 3 [97, 98, 99]))) ++ [[], [], [42], [63]].getD p [] = It.stx [It.ch n (Dx.sf4 p)] := by
  rcases (show n = 0 ∨ n = 1 ∨ n = 2 from by omega) with rfl | rfl | rfl <;> rcases (show p = 0 ∨ p = 1 ∨ p = 2 ∨ p = 3 from by omega) with rfl | rfl | rfl | rfl <;> rfl
theorem Dx.alt_tx (s t : List It) : ([40] ++ It.stx s ++ [124]) ++ It.stx t ++ [41] = It.stx [It.gr s [t] []] := by simp [It.stx, It.tx, It.atl]
theorem Dx.alts_tx (s t : List It) : ([40] ++ It.stx s ++ [124]) ++ It.stx t ++ [41, 42] = It.stx [It.gr s [t] [0]] := by simp [It.stx, It.tx, It.atl, sg]
theorem Dx.grp_tx (s t : List It) (q : Nat) (hq : q < 2) : ([40] ++ It.stx s ++ It.stx t ++ [41]) ++ [[43], [63]].getD q [] = It.stx [It.gr (s ++ t) [] [q + 1]] := by
  rcases (show q = 0 ∨ q = 1 from by omega) with rfl | rfl <;> simp [It.stx, It.tx, It.atl, It.stx_append, sg]
theorem tb_small (d : Nat) (h : d ≤ 10) : tb d ≤ 3100 := by
  rcases (show d = 0 ∨ d = 1 ∨ d = 2 ∨ d = 3 ∨ d = 4 ∨ d = 5 ∨ d = 6 ∨ d = 7 ∨ d = 8 ∨ d = 9 ∨ d = 10 from by omega) with rfl | rfl | rfl | rfl | rfl | rfl | rfl | rfl | rfl | rfl | rfl <;> decide
section dx
variable {d : Nat} {s t : List It}
theorem Dx.cat (hd : 2 ≤ d) (hs : Dx (d - 1) s) (ht : Dx (d - 1) t) : Dx d (s ++ t) := by
  have h := tb_step d hd
  refine ⟨It.oks_append hs.ok ht.ok, It.blws_append hs.abc ht.abc, ?_, ?_⟩
  · rw [It.stx_append, List.length_append]; have := hs.len; have := ht.len; omega
  · rw [It.snl_append]; have := hs.nl; have := ht.nl; omega
theorem Dx.alt (hd : 2 ≤ d) (hs : Dx (d - 1) s) (ht : Dx (d - 1) t) (sf : List Nat) (hf : sf = [] ∨ sf = [0]) : Dx d [It.gr s [t] sf] := by
  have h := tb_step d hd
  refine ⟨?_, ?_, ?_, ?_⟩
  · simp only [It.oks, It.ok, It.oka, and_true]
    exact ⟨⟨hs.ok, ht.ok⟩, by rcases hf with rfl | rfl <;> simp⟩
  · simp only [It.blws, It.blw, It.blwa, and_true]; exact ⟨hs.abc, ht.abc⟩
  · simp only [It.stx, It.tx, It.atl, List.append_nil, List.length_cons, List.length_append, List.length_map]
    have := hs.len; have := ht.len
    rcases hf with rfl | rfl <;> simp <;> omega
  · simp only [It.snl, It.nl, It.anl]; have := hs.nl; have := ht.nl; omega
theorem Dx.grp (hd : 2 ≤ d) (hs : Dx (d - 1) s) (ht : Dx (d - 1) t) (k : Nat) (hk : k = 1 ∨ k = 2) : Dx d [It.gr (s ++ t) [] [k]] := by
  have h := tb_step d hd
  refine ⟨?_, ?_, ?_, ?_⟩
  · simp only [It.oks, It.ok, It.oka, and_true]
    exact ⟨It.oks_append hs.ok ht.ok, by rcases hk with rfl | rfl <;> simp⟩
  · simp only [It.blws, It.blw, It.blwa, and_true]; exact It.blws_append hs.abc ht.abc
  · simp only [It.stx, It.tx, It.atl, List.append_nil, List.nil_append, List.length_cons, List.length_append, List.length_map, It.stx_append, List.length_nil]
    have := hs.len; have := ht.len; omega
  · simp only [It.snl, It.nl, It.anl, It.snl_append]; have := hs.nl; have := ht.nl; omega
end dx
/-- can a word be cut so, at one of the first places? -/
noncomputable def cutB (A B : Lg) (w : List Int) (i : Nat) : Bool := (List.range i).any fun j => Lg.dec A (w.take j) && Lg.dec B (w.drop j)
theorem Lg.dec_true {A : Lg} {w : List Int} (h : A w) : Lg.dec A w = true := (Lg.dec_iff _ _).2 h
/-- a letter's row, step by step -/
def oneF (f : Nat → Bool) (w : List Int) (n : Int) (i : Nat) (j : Nat) : Bool := decide (0 < j ∧ j ≤ i) && (f (j - 1) && (w.getD (j - 1) 0 == n))
end Go.Vl
end

section
set_option linter.unusedVariables false
set_option linter.unusedSimpArgs false
namespace Go.Vl
theorem outs_congr {n : Nat} {f g : Nat → Bool} (h : ∀ k, k < n → f k = g k) : outs n f = outs n g := by
  unfold outs
  congr 1
  exact List.filter_congr fun k hk => by rw [h k (List.mem_range.1 hk)]
namespace Au
/-- f: what is known; f0: what was known as_ the round began; m: has more come in? rows ahead of i, and letters of i ahead of c, are looked at -/
structure Lv (w : Au) (f0 f : Nat → Bool) (m : Bool) (i c : Nat) : Prop where
  sound : ∀ k, k < w.next.length → f k = true → w.lives k
  fin : ∀ k, k < w.next.length → w.final.getD k false = true → f k = true
  up : ∀ k, k < w.next.length → f0 k = true → f k = true
  still : m = false → (∀ k, k < w.next.length → f k = f0 k) ∧ ∀ k d, k < w.next.length → d < 8 → (k < i ∨ (k = i ∧ d < c)) → ∀ t : Nat, w.to (k : Int) (d : Int) = (t : Int) → f t = true → f k = true
  less : m = true → outs w.next.length f < outs w.next.length f0
variable {w : Au} {f0 f : Nat → Bool} {m : Bool} {i c : Nat}
theorem Lv.start : Lv w (fun k => w.final.getD k false) (fun k => w.final.getD k false) false 0 0 := by
  refine ⟨fun k hk h => ⟨[], ?_⟩, fun k _ h => h, fun k _ h => h, fun _ => ⟨fun _ _ => rfl, fun k d _ _ h => by omega⟩, fun h => by cases h⟩
  simp only [acc, Int.toNat_natCast]
  exact ⟨by omega, h⟩
theorem Lv.again (h : Lv w f0 f m i c) : Lv w f f false 0 0 :=
  ⟨h.sound, h.fin, fun k _ h => h, fun _ => ⟨fun _ _ => rfl, fun k d _ _ h => by omega⟩, fun h => by cases h⟩
theorem Lv.row (h : Lv w f0 f m i 8) : Lv w f0 f m (i + 1) 0 :=
  ⟨h.sound, h.fin, h.up, fun hm => ⟨(h.still hm).1, fun k d hk hd hx => (h.still hm).2 k d hk hd (by omega)⟩, h.less⟩
theorem Lv.skip (h : Lv w f0 f m i c) (hn : ∀ t : Nat, w.to (i : Int) (c : Int) = (t : Int) → f t = true → f i = true) : Lv w f0 f m i (c + 1) := by
  refine ⟨h.sound, h.fin, h.up, fun hm => ⟨(h.still hm).1, fun k d hk hd hx t ht hf => ?_⟩, h.less⟩
  by_cases h1 : k < i ∨ (k = i ∧ d < c)
  · exact (h.still hm).2 k d hk hd h1 t ht hf
  · obtain ⟨rfl, rfl⟩ : k = i ∧ d = c := by omega
    exact hn t ht hf
theorem Lv.set (h : Lv w f0 f m i c) (hi : i < w.next.length) (hc : c < 8) {t : Nat} (htl : t < w.next.length) (ht : w.to (i : Int) (c : Int) = (t : Int)) (hft : f t = true) (hfi : f i = false) : Lv w f0 (fun k => if k = i then true else f k) true i (c + 1) := by
  refine ⟨fun k hk hf => ?_, fun k hk hf => ?_, fun k hk hf => ?_, (fun h => by cases h), fun _ => ?_⟩
  · by_cases hki : k = i
    · subst hki
      obtain ⟨u, hu⟩ := h.sound t htl hft
      exact ⟨(c : Int) :: u, by rw [acc_step k c hc, ht]; exact hu⟩
    · rw [if_neg hki] at hf; exact h.sound k hk hf
  · split
    · rfl
    · exact h.fin k hk hf
  · split
    · rfl
    · exact h.up k hk hf
  · have h1 : outs w.next.length (fun k => if k = i then true else f k) < outs w.next.length f := by
      refine outs_lt _ _ _ (fun k _ hk => ?_) (fun hall => ?_)
      · split
        · rfl
        · exact hk
      · have := hall i hi
        rw [if_pos rfl, hfi] at this; cases this
    cases m with
    | true => have := h.less rfl; omega
    | false =>
      have h2 : outs w.next.length f = outs w.next.length f0 := by
        unfold outs
        congr 1
        refine List.filter_congr fun k hk => ?_
        rw [(h.still rfl).1 k (List.mem_range.1 hk)]
      omega
theorem Lv.done (hs : w.Shape) (h : Lv w f0 f false w.next.length 0) : ∀ k, k < w.next.length → (f k = true ↔ w.lives k) := by
  have key : ∀ (u : List Int) (k : Nat), k < w.next.length → w.acc (k : Int) u → f k = true := by
    intro u
    induction u with
    | nil =>
      intro k hk ha
      simp only [acc, Int.toNat_natCast] at ha
      exact h.fin k hk ha.2
    | cons c u ih =>
      intro k hk ha
      have hc : 0 ≤ c ∧ c < 8 := by simp only [acc] at ha; exact ⟨ha.2.1, ha.2.2.1⟩
      obtain ⟨c, rfl⟩ : ∃ k : Nat, c = (k : Int) := ⟨c.toNat, by omega⟩
      rw [acc_step k c (by omega)] at ha
      rcases to_state hs hk (c := c) (by omega) with h1 | ⟨t, ht, h1⟩
      · exact absurd ha (acc_neg h1 _)
      · rw [h1] at ha
        exact (h.still rfl).2 k c hk (by omega) (.inl hk) t h1 (ih t ht ha)
  exact fun k hk => ⟨h.sound k hk, fun ⟨u, hu⟩ => key u k hk hu⟩
/-- the first classes -/
def cls0 (w : Au) (f : Nat → Bool) (k : Nat) : Int := if f k = true then (if w.final.getD k false = true then 1 else 0) else -1
theorem Moore.start {f : Nat → Bool} (hf : ∀ k, k < w.next.length → (f k = true ↔ w.lives k)) : w.Moore (cls0 w f) 0 := by
  have hv : ∀ k, k < w.next.length → (cls0 w f k < 0 ↔ ¬ w.lives k) := fun k hk => by
    unfold cls0
    rw [← hf k hk]
    by_cases h : f k = true
    · rw [if_pos h]
      split <;> exact ⟨fun h => by omega, fun h' => absurd h h'⟩
    · rw [if_neg h]; exact ⟨fun _ => h, fun _ => by omega⟩
  have hl : ∀ k, k < w.next.length → w.lives k → cls0 w f k = if w.final.getD k false = true then 1 else 0 := fun k hk h => by
    unfold cls0; rw [if_pos ((hf k hk).2 h)]
  refine ⟨hv, fun i j hi hj hli he => ?_, fun i j hi hj h0 he => ?_, fun h => absurd rfl h⟩
  · have hlj : w.lives j := by obtain ⟨u, hu⟩ := hli; exact ⟨u, (he u).1 hu⟩
    rw [hl i hi hli, hl j hj hlj]
    have := he []
    simp only [acc, Int.toNat_natCast] at this
    have h2 : (w.final.getD i false = true) ↔ (w.final.getD j false = true) := ⟨fun h => (this.1 ⟨by omega, h⟩).2, fun h => (this.2 ⟨by omega, h⟩).2⟩
    by_cases h3 : w.final.getD i false = true
    · rw [if_pos h3, if_pos (h2.1 h3)]
    · rw [if_neg h3, if_neg (fun h => h3 (h2.2 h))]
  · have h1 : w.lives i := Classical.byContradiction fun h => by have := (hv i hi).2 h; omega
    have h2 : w.lives j := Classical.byContradiction fun h => by have := (hv j hj).2 h; omega
    rw [hl i hi h1, hl j hj h2] at he
    cases h3 : w.final.getD i false <;> cases h4 : w.final.getD j false <;> simp_all
/-- a state's row: its class, and those that letters lead to -/
def lst (w : Au) (out : Nat → Int) (k : Nat) : List Int := [out k, w.cto out k 0, w.cto out k 1, w.cto out k 2, w.cto out k 3, w.cto out k 4, w.cto out k 5, w.cto out k 6, w.cto out k 7]
theorem lst_eq (out : Nat → Int) (i j : Nat) : lst w out i = lst w out j ↔ (out i = out j ∧ ∀ c : Nat, c < 8 → w.cto out i c = w.cto out j c) := by
  unfold lst
  constructor
  · intro h
    simp only [List.cons.injEq, and_true] at h
    refine ⟨h.1, fun c hc => ?_⟩
    rcases (show c = 0 ∨ c = 1 ∨ c = 2 ∨ c = 3 ∨ c = 4 ∨ c = 5 ∨ c = 6 ∨ c = 7 from by omega) with rfl | rfl | rfl | rfl | rfl | rfl | rfl | rfl <;> simp [h]
  · rintro ⟨h1, h2⟩
    rw [h1, h2 0 (by decide), h2 1 (by decide), h2 2 (by decide), h2 3 (by decide), h2 4 (by decide), h2 5 (by decide), h2 6 (by decide), h2 7 (by decide)]
/-- so far: K: the rows that were met, in order; next: where each state's row stands -/
structure Dv (w : Au) (out : Nat → Int) (K : List (List Int)) (next : Nat → Int) (i : Nat) : Prop where
  nodup : K.Nodup
  neg : ∀ k, k < i → out k < 0 → next k = -1
  pos : ∀ k, k < i → 0 ≤ out k → ∃ j : Nat, K[j]? = some (lst w out k) ∧ next k = (j : Int)
  hit : ∀ j, j < K.length → ∃ k, k < i ∧ 0 ≤ out k ∧ K[j]? = some (lst w out k)
variable {out next : Nat → Int} {K : List (List Int)}
theorem Dv.start (next : Nat → Int) : Dv w out [] next 0 := ⟨List.nodup_nil, fun k h => absurd h (Nat.not_lt_zero _), fun k h => absurd h (Nat.not_lt_zero _), fun j h => absurd h (Nat.not_lt_zero _)⟩
theorem Dv.none (h : Dv w out K next i) (ho : out i < 0) : Dv w out K (fun k => if k = i then -1 else next k) (i + 1) := by
  refine ⟨h.nodup, fun k hk hn => ?_, fun k hk hp => ?_, fun j hj => ?_⟩
  · by_cases e : k = i
    · exact if_pos e
    · rw [if_neg e]; exact h.neg k (by omega) hn
  · have e : k ≠ i := fun e => by rw [e] at hp; omega
    rw [if_neg e]; exact h.pos k (by omega) hp
  · obtain ⟨k, h1, h2, h3⟩ := h.hit j hj
    exact ⟨k, by omega, h2, h3⟩
theorem Dv.old (h : Dv w out K next i) (ho : 0 ≤ out i) {j : Nat} (hj : K[j]? = some (lst w out i)) : Dv w out K (fun k => if k = i then (j : Int) else next k) (i + 1) := by
  refine ⟨h.nodup, fun k hk hn => ?_, fun k hk hp => ?_, fun j hj => ?_⟩
  · have e : k ≠ i := fun e => by rw [e] at hn; omega
    rw [if_neg e]; exact h.neg k (by omega) hn
  · by_cases e : k = i
    · rw [e]; exact ⟨j, hj, if_pos rfl⟩
    · rw [if_neg e]; exact h.pos k (by omega) hp
  · obtain ⟨k, h1, h2, h3⟩ := h.hit j hj
    exact ⟨k, by omega, h2, h3⟩
theorem Dv.new (h : Dv w out K next i) (ho : 0 ≤ out i) (hn : lst w out i ∉ K) : Dv w out (K ++ [lst w out i]) (fun k => if k = i then (K.length : Int) else next k) (i + 1) := by
  have up : ∀ (j : Nat) (x : List Int), K[j]? = some x → (K ++ [lst w out i])[j]? = some x := fun j x hj => by
    rw [List.getElem?_append_left (by rcases Nat.lt_or_ge j K.length with h1 | h1; exact h1; rw [List.getElem?_eq_none h1] at hj; cases hj)]; exact hj
  have last : (K ++ [lst w out i])[K.length]? = some (lst w out i) := by rw [List.getElem?_append_right (Nat.le_refl _), Nat.sub_self]; rfl
  refine ⟨List.nodup_append.2 ⟨h.nodup, by simp, fun a ha b hb e => hn (by rw [← List.mem_singleton.1 hb, ← e]; exact ha)⟩, fun k hk hn => ?_, fun k hk hp => ?_, fun j hj => ?_⟩
  · have e : k ≠ i := fun e => by rw [e] at hn; omega
    rw [if_neg e]; exact h.neg k (by omega) hn
  · by_cases e : k = i
    · rw [e]; exact ⟨K.length, last, if_pos rfl⟩
    · rw [if_neg e]
      obtain ⟨j, h1, h2⟩ := h.pos k (by omega) hp
      exact ⟨j, up j _ h1, h2⟩
  · rw [List.length_append, List.length_singleton] at hj
    rcases Nat.lt_or_ge j K.length with h1 | h1
    · obtain ⟨k, h2, h3, h4⟩ := h.hit j h1
      exact ⟨k, by omega, h3, up j _ h4⟩
    · obtain rfl : j = K.length := by omega
      exact ⟨i, by omega, ho, last⟩
theorem Dv.div (h : Dv w out K next w.next.length) : w.Div out next K.length := by
  have hlt : ∀ (j : Nat) (x : List Int), K[j]? = some x → j < K.length := fun j x hj => by
    rcases Nat.lt_or_ge j K.length with h1 | h1
    · exact h1
    · rw [List.getElem?_eq_none h1] at hj; cases hj
  refine ⟨fun i hi => ⟨fun hn => ?_, fun hn => ?_⟩, fun i j hi hj h0 h1 => ?_, fun i hi => ?_, fun v hv => ?_⟩
  · rcases Int.lt_or_le (out i) 0 with h1 | h1
    · exact h1
    · obtain ⟨j, _, h2⟩ := h.pos i hi h1; omega
  · rw [h.neg i hi hn]; decide
  · obtain ⟨a, ha, ea⟩ := h.pos i hi h0
    obtain ⟨b, hb, eb⟩ := h.pos j hj h1
    rw [ea, eb, ← lst_eq]
    constructor
    · intro e
      have e : a = b := by omega
      subst e
      rw [ha] at hb; exact Option.some.inj hb
    · intro e
      rw [← e] at hb
      have la := hlt a _ ha
      have lb := hlt b _ hb
      rw [List.getElem?_eq_getElem la] at ha
      rw [List.getElem?_eq_getElem lb] at hb
      have : K[a] = K[b] := by rw [Option.some.inj ha, Option.some.inj hb]
      have := (List.getElem_inj h.nodup).1 this
      omega
  · rcases Int.lt_or_le (out i) 0 with h1 | h1
    · rw [h.neg i hi h1]; omega
    · obtain ⟨j, h2, h3⟩ := h.pos i hi h1
      have := hlt j _ h2; omega
  · obtain ⟨k, h1, h2, h3⟩ := h.hit v hv
    obtain ⟨j, h4, h5⟩ := h.pos k h1 h2
    refine ⟨k, h1, ?_⟩
    have la := hlt v _ h3
    have lb := hlt j _ h4
    rw [List.getElem?_eq_getElem la] at h3
    rw [List.getElem?_eq_getElem lb] at h4
    have : K[v] = K[j] := by rw [Option.some.inj h3, Option.some.inj h4]
    have := (List.getElem_inj h.nodup).1 this
    omega
/-- not more rows than states -/
theorem Dv.len (h : Dv w out K next i) : K.length ≤ i := by
  classical
  refine pigeon i K.length (fun j => if hj : j < K.length then Classical.choose (h.hit j hj) else 0) (fun j hj => ?_) (fun a b ha hb e => ?_)
  · simp only [dif_pos hj]; exact (Classical.choose_spec (h.hit j hj)).1
  · simp only [dif_pos ha, dif_pos hb] at e
    have h1 := (Classical.choose_spec (h.hit a ha)).2.2
    have h2 := (Classical.choose_spec (h.hit b hb)).2.2
    rw [e, ← h2, List.getElem?_eq_getElem ha, List.getElem?_eq_getElem hb] at h1
    exact (List.getElem_inj h.nodup).1 (Option.some.inj h1)
theorem lst_sml (hb : ∀ k, k < w.next.length → -1 ≤ out k ∧ out k < 100) (hs : w.Shape) {k : Nat} (hk : k < w.next.length) : sml (lst w out k) := by
  have hc : ∀ c : Nat, c < 8 → -1 ≤ w.cto out k c ∧ w.cto out k c < 100 := fun c hc => by
    rcases to_state hs hk hc with h1 | ⟨t, ht, h1⟩
    · rw [cto_neg h1]; decide
    · rw [cto_nat h1]; exact hb t ht
  intro n hn
  simp only [lst, List.mem_cons, List.not_mem_nil, or_false] at hn
  rcases hn with rfl | rfl | rfl | rfl | rfl | rfl | rfl | rfl | rfl
  · exact hb k hk
  · exact hc 0 (by decide)
  · exact hc 1 (by decide)
  · exact hc 2 (by decide)
  · exact hc 3 (by decide)
  · exact hc 4 (by decide)
  · exact hc 5 (by decide)
  · exact hc 6 (by decide)
  · exact hc 7 (by decide)
end Au
theorem Au.Dv.mem {w : Au} {out next : Nat → Int} {K : List (List Int)} {i : Nat} (h : Au.Dv w out K next i) {q : List Int} (hq : q ∈ K) : ∃ k, k < i ∧ q = Au.lst w out k := by
  obtain ⟨j, hj, rfl⟩ := List.mem_iff_getElem.1 hq
  obtain ⟨k, h1, _, h3⟩ := h.hit j hj
  rw [List.getElem?_eq_getElem hj] at h3
  exact ⟨k, h1, Option.some.inj h3⟩
theorem Au.Dv.plc {w : Au} {out next : Nat → Int} {K : List (List Int)} {i : Nat} (h : Au.Dv w out K next i) (hb : ∀ k, k < w.next.length → -1 ≤ out k ∧ out k < 100) (hs : w.Shape) (hi : i < w.next.length) : place (keyL (Au.lst w out i)) (K.map keyL) = place (Au.lst w out i) K :=
  place_map fun q hq e => by
    obtain ⟨k, hk, rfl⟩ := h.mem hq
    exact keyL_inj' (Au.lst_sml hb hs hi) (Au.lst_sml hb hs (by omega)) e
theorem Au.Dv.rng {w : Au} {out next : Nat → Int} {K : List (List Int)} {i : Nat} (h : Au.Dv w out K next i) (hi : i ≤ 100) : ∀ k, k < i → -1 ≤ next k ∧ next k < 100 := fun k hk => by
  have hl := h.len
  rcases Int.lt_or_le (out k) 0 with h1 | h1
  · rw [h.neg k hk h1]; decide
  · obtain ⟨j, h2, h3⟩ := h.pos k hk h1
    have : j < K.length := by
      rcases Nat.lt_or_ge j K.length with h4 | h4
      · exact h4
      · rw [List.getElem?_eq_none h4] at h2; cases h2
    omega
theorem Au.lst_snoc (w : Au) (out : Nat → Int) (k d : Nat) (hd : d < 8) : (Au.lst w out k).take (d + 1 + 1) = (Au.lst w out k).take (d + 1) ++ [w.cto out k d] := by
  rcases (show d = 0 ∨ d = 1 ∨ d = 2 ∨ d = 3 ∨ d = 4 ∨ d = 5 ∨ d = 6 ∨ d = 7 from by omega) with rfl | rfl | rfl | rfl | rfl | rfl | rfl | rfl <;> rfl
theorem Au.cls0_rng (w : Au) (f : Nat → Bool) (k : Nat) : -1 ≤ Au.cls0 w f k ∧ Au.cls0 w f k < 100 := by
  unfold Au.cls0
  split
  · split <;> omega
  · omega
/-- a row of numbers -/
def rowI (n : Nat) (f : Nat → Int) : List AV := (List.range n).map fun k => AV.int (f k)
theorem rowI_len (n : Nat) (f : Nat → Int) : (rowI n f).length = n := by simp [rowI]
theorem rowI_get {n : Nat} {f : Nat → Int} {k : Nat} (h : k < n) : (rowI n f)[k]? = some (AV.int (f k)) := by
  rw [rowI, List.getElem?_map, List.getElem?_range h]; rfl
theorem rowI_rep (n : Nat) : List.replicate n (AV.int 0) = rowI n (fun _ => 0) := by
  refine List.ext_getElem? fun k => ?_
  rcases Nat.lt_or_ge k n with h | h
  · rw [rowI_get h, List.getElem?_replicate, if_pos h]
  · rw [List.getElem?_eq_none (by simpa using h), List.getElem?_eq_none (by rw [rowI_len]; exact h)]
theorem rowI_set (n : Nat) (f : Nat → Int) (i : Nat) (x : Int) : (rowI n f).set i (AV.int x) = rowI n (fun k => if k = i then x else f k) := by
  refine List.ext_getElem? fun k => ?_
  rcases Nat.lt_or_ge k n with h | h
  · rw [rowI_get h, List.getElem?_set, rowI_len]
    by_cases e : i = k
    · subst e; rw [if_pos rfl, if_pos h, if_pos rfl]
    · rw [if_neg e, if_neg (fun h' => e h'.symm), rowI_get h]
  · rw [List.getElem?_eq_none (by rw [List.length_set, rowI_len]; exact h), List.getElem?_eq_none (by rw [rowI_len]; exact h)]
theorem rowI_congr {n : Nat} {f g : Nat → Int} (h : ∀ k, k < n → f k = g k) : rowI n f = rowI n g := List.map_congr_left fun k hk => congrArg AV.int (h k (List.mem_range.1 hk))
/-- the first classes, so far -/
def clsI (w : Au) (f : Nat → Bool) (i k : Nat) : Int := if k < i then Au.cls0 w f k else 0
theorem clsI_set {w : Au} {f : Nat → Bool} (n i : Nat) {x : Int} (hx : Au.cls0 w f i = x) : (rowI n (clsI w f i)).set i (AV.int x) = rowI n (clsI w f (i + 1)) := by
  rw [rowI_set]
  refine rowI_congr fun k _ => ?_
  unfold clsI
  by_cases h : k = i
  · subst h; rw [if_pos rfl, if_pos (by omega), hx]
  · rw [if_neg h]
    by_cases h2 : k < i
    · rw [if_pos h2, if_pos (by omega)]
    · rw [if_neg h2, if_neg (by omega)]
theorem clsI_zero {w : Au} {f : Nat → Bool} (n i : Nat) (hx : Au.cls0 w f i = 0) : rowI n (clsI w f i) = rowI n (clsI w f (i + 1)) := by
  refine rowI_congr fun k _ => ?_
  unfold clsI
  by_cases h : k = i
  · subst h; rw [if_neg (Nat.lt_irrefl _), if_pos (by omega), hx]
  · by_cases h2 : k < i
    · rw [if_pos h2, if_pos (by omega)]
    · rw [if_neg h2, if_neg (by omega)]
theorem clsI_start (w : Au) (f : Nat → Bool) (n : Nat) : List.replicate n (AV.int 0) = rowI n (clsI w f 0) := by
  rw [rowI_rep]
  exact rowI_congr fun k _ => by unfold clsI; rw [if_neg (by omega)]
theorem clsI_done (w : Au) (f : Nat → Bool) (n : Nat) : rowI n (clsI w f n) = rowI n (Au.cls0 w f) :=
  rowI_congr fun k hk => by unfold clsI; rw [if_pos hk]
/-- a wide machine as_ a value -/
def wrow (r : List Int) : AV := r8av fun c => r.getD c 0
theorem rowB_list (l : List Bool) : l.map AV.bool = rowB l.length (fun k => l.getD k false) := by
  refine List.ext_getElem? fun k => ?_
  rcases Nat.lt_or_ge k l.length with h | h
  · rw [rowB_at _ _ k h]; exact getD_mapG AV.bool false l k h
  · rw [List.getElem?_eq_none (by rw [List.length_map]; exact h), List.getElem?_eq_none (by rw [rowB_len]; exact h)]
theorem wrow_get {w : Au} (hs : w.Shape) {i : Nat} (hi : i < w.next.length) : (w.next.map wrow)[i]? = some (r8av fun c => w.to (i : Int) (c : Int)) := by
  rw [getD_mapG wrow [] w.next i hi]
  refine congrArg some (congrArg AV.agg (row8_congr fun c hc => ?_))
  have := Au.to_get w (i : Int) (c : Int) (by rw [Int.toNat_natCast, Int.toNat_natCast, hs.row i hi]; exact hc)
  rwa [Int.toNat_natCast, Int.toNat_natCast] at this
end Go.Vl
end

section
set_option linter.unusedVariables false
set_option linter.unusedSimpArgs false
namespace Go.Vl
def r8l (f : Nat → Int) : List Int := [f 0, f 1, f 2, f 3, f 4, f 5, f 6, f 7]
theorem r8l_get (f : Nat → Int) (c : Nat) (hc : c < 8) (z : Int) : (r8l f).getD c z = f c := by
  rcases (show c = 0 ∨ c = 1 ∨ c = 2 ∨ c = 3 ∨ c = 4 ∨ c = 5 ∨ c = 6 ∨ c = 7 from by omega) with rfl | rfl | rfl | rfl | rfl | rfl | rfl | rfl <;> rfl
theorem r8l_congr {f g : Nat → Int} (h : ∀ c, c < 8 → f c = g c) : r8l f = r8l g := by
  unfold r8l
  rw [h 0 (by decide), h 1 (by decide), h 2 (by decide), h 3 (by decide), h 4 (by decide), h 5 (by decide), h 6 (by decide), h 7 (by decide)]
theorem row8_set (f : Nat → Int) (c : Nat) (hc : c < 8) (x : Int) : (row8 f).set c (.int x) = row8 (fun d => if d = c then x else f d) := by
  rcases (show c = 0 ∨ c = 1 ∨ c = 2 ∨ c = 3 ∨ c = 4 ∨ c = 5 ∨ c = 6 ∨ c = 7 from by omega) with rfl | rfl | rfl | rfl | rfl | rfl | rfl | rfl <;> rfl
namespace Au
/-- an entry is written -/
def setI (T : Nat → Nat → Int) (i c : Nat) (x : Int) : Nat → Nat → Int := fun k d => if k = i ∧ d = c then x else T k d
theorem setI_at (T : Nat → Nat → Int) (i c : Nat) (x : Int) : setI T i c x i c = x := if_pos ⟨rfl, rfl⟩
theorem setI_ne (T : Nat → Nat → Int) (i c : Nat) (x : Int) {k d : Nat} (h : ¬ (k = i ∧ d = c)) : setI T i c x k d = T k d := if_neg h
/-- a row's cells, so far -/
def rowV (T : Nat → Nat → Int) (i c : Nat) : List AV := row8 fun d => if d < c then T i d else 0
theorem rowV_step (T : Nat → Nat → Int) (i c : Nat) (x : Int) (hc : c < 8) : (rowV T i c).set c (.int x) = rowV (setI T i c x) i (c + 1) := by
  unfold rowV
  rw [row8_set _ c hc]
  refine row8_congr fun d _ => ?_
  by_cases h : d = c
  · subst h
    rw [if_pos rfl, if_pos (by omega), setI_at]
  · rw [if_neg h, setI_ne T i c x (by omega)]
    by_cases h2 : d < c
    · rw [if_pos h2, if_pos (by omega)]
    · rw [if_neg h2, if_neg (by omega)]
theorem rowV_done (T : Nat → Nat → Int) (i : Nat) : rowV T i 8 = row8 (T i) := row8_congr fun d hd => if_pos hd
theorem rowV_len (T : Nat → Nat → Int) (i c : Nat) : (rowV T i c).length = 8 := rfl
/-- the rows ahead of i -/
def rowsL (n : Nat) (T : Nat → Nat → Int) : List (List Int) := (List.range n).map fun k => r8l (T k)
theorem rowsL_len (n : Nat) (T : Nat → Nat → Int) : (rowsL n T).length = n := by simp [rowsL]
theorem rowsL_snoc (n : Nat) (T : Nat → Nat → Int) : rowsL n T ++ [r8l (T n)] = rowsL (n + 1) T := by
  rw [rowsL, rowsL, List.range_succ, List.map_append]; rfl
theorem rowsL_set (T : Nat → Nat → Int) (i c : Nat) (x : Int) : rowsL i (setI T i c x) = rowsL i T :=
  List.map_congr_left fun k hk => r8l_congr fun d _ => setI_ne T i c x (by have := List.mem_range.1 hk; omega)
theorem rowsL_get (n : Nat) (T : Nat → Nat → Int) (k : Nat) (hk : k < n) : (rowsL n T).getD k [] = r8l (T k) := by
  rw [rowsL, List.getD_eq_getElem?_getD, List.getElem?_map, List.getElem?_range hk]; rfl
/-- a machine of such rows -/
def auOf (n : Nat) (T : Nat → Nat → Int) (F : List Bool) : Au := ⟨rowsL n T, F⟩
theorem auOf_len (n : Nat) (T : Nat → Nat → Int) (F : List Bool) : (auOf n T F).next.length = n := rowsL_len n T
theorem auOf_row (n : Nat) (T : Nat → Nat → Int) (F : List Bool) (k : Nat) (hk : k < n) : ((auOf n T F).next.getD k []).length = 8 := by
  show ((rowsL n T).getD k []).length = 8
  rw [rowsL_get n T k hk]; rfl
theorem auOf_to (n : Nat) (T : Nat → Nat → Int) (F : List Bool) (k c : Nat) (hk : k < n) (hc : c < 8) : (auOf n T F).to (k : Int) (c : Int) = T k c := by
  show ((rowsL n T).getD (k : Int).toNat []).getD (c : Int).toNat (-1) = _
  rw [Int.toNat_natCast, Int.toNat_natCast, rowsL_get n T k hk, r8l_get _ c hc]
theorem auOf_wide (n : Nat) (T : Nat → Nat → Int) (F : List Bool) : (auOf n T F).next.map wrow = (List.range n).map fun k => r8av (T k) := by
  show (rowsL n T).map wrow = _
  rw [rowsL, List.map_map]; rfl
/-- not more states are met than there are -/
theorem Bfs.len {w : Au} {cl : Nat → Int} {S : List Nat} {T : Nat → Nat → Int} {i c : Nat} (h : Bfs w cl S T i c) : S.length ≤ w.next.length :=
  pigeon w.next.length S.length (fun k => S.getD k 0) (fun k hk => (h.lt k hk).1) fun j k hj hk e => h.apart j k hj hk (by rw [show S.getD j 0 = S.getD k 0 from e])
/-- the machine that is made -/
theorem Bfs.made {w : Au} {cl : Nat → Int} {S : List Nat} {T : Nat → Nat → Int} (hs : w.Shape) (hc : w.Cls cl) (h : Bfs w cl S T S.length 0) (F : List Bool) (hF : F = S.map fun k => w.final.getD k false) : (auOf S.length T F).Canon ∧ ∀ u, (auOf S.length T F).acc 0 u ↔ w.acc 0 u :=
  Bfs.canon hs hc h (auOf_len _ _ _) hF (fun k hk => auOf_row _ _ _ k hk) (fun k c hk hc => auOf_to _ _ _ k c hk hc)
theorem Bfs.setI {w : Au} {cl : Nat → Int} {S : List Nat} {T : Nat → Nat → Int} {i c : Nat} (h : Bfs w cl S T i c) (x : Int) : Bfs w cl S (setI T i c x) i c :=
  h.congr fun i' c' hp _ => setI_ne T i c x (by omega)
/-- which place a class has -/
theorem Bfs.plc {w : Au} {cl : Nat → Int} {S : List Nat} {T : Nat → Nat → Int} {i c : Nat} (h : Bfs w cl S T i c) {v : Int} {j : Nat} (hj : place v (S.map cl) = some j) : j < S.length ∧ cl (S.getD j 0) = v := by
  have h1 := place_lt hj
  rw [List.length_map] at h1
  have h2 := place_some hj
  rw [List.getElem?_map, List.getElem?_eq_getElem h1] at h2
  refine ⟨h1, ?_⟩
  rw [List.getD_eq_getElem?_getD, List.getElem?_eq_getElem h1]
  exact Option.some.inj h2
theorem Bfs.fresh {cl : Nat → Int} {S : List Nat} {v : Int} (hn : v ∉ S.map cl) : ∀ k, k < S.length → cl (S.getD k 0) ≠ v := fun k hk e => hn (by
  rw [← e]; exact List.mem_map_of_mem (getD_memG 0 S k hk))
end Au
end Go.Vl
end

section
set_option linter.unusedVariables false
set_option linter.unusedSimpArgs false
namespace Go.Vl
def sumN : Nat → (Nat → Nat) → Nat
  | 0, _ => 0
  | n + 1, f => sumN n f + f n
theorem sumN_congr {n : Nat} {f g : Nat → Nat} (h : ∀ k, k < n → f k = g k) : sumN n f = sumN n g := by
  induction n with
  | zero => rfl
  | succ n ih => rw [sumN, sumN, ih fun k hk => h k (by omega), h n (by omega)]
theorem sumN_zero (n : Nat) : sumN n (fun _ => 0) = 0 := by
  induction n with
  | zero => rfl
  | succ n ih => rw [sumN, ih]
theorem sumN_le {n t : Nat} (f : Nat → Nat) (h : t < n) : f t ≤ sumN n f := by
  induction n with
  | zero => omega
  | succ n ih =>
    rw [sumN]
    rcases Nat.lt_or_ge t n with h1 | h1
    · have := ih h1; omega
    · obtain rfl : t = n := by omega
      omega
theorem sumN_mono {i n : Nat} (f : Nat → Nat) (h : i ≤ n) : sumN i f ≤ sumN n f := by
  induction n with
  | zero => obtain rfl : i = 0 := by omega
            exact Nat.le_refl _
  | succ n ih =>
    rcases Nat.lt_or_ge i (n + 1) with h1 | h1
    · have := ih (by omega); rw [sumN]; omega
    · obtain rfl : i = n + 1 := by omega
      exact Nat.le_refl _
theorem sumN_upd {n t : Nat} (g h : Nat → Nat) (x : Nat) (ht : t < n) : sumN n (fun k => (if k = t then g k + x else g k) * h k) = sumN n (fun k => g k * h k) + x * h t := by
  induction n with
  | zero => omega
  | succ n ih =>
    rw [sumN, sumN]
    rcases Nat.lt_or_ge t n with h1 | h1
    · rw [ih h1, if_neg (by omega)]; omega
    · obtain rfl : t = n := by omega
      rw [if_pos rfl, sumN_congr (g := fun k => g k * h k) fun k hk => by rw [if_neg (by omega)], Nat.add_mul]; omega
theorem sumN_upd1 {n t : Nat} (g : Nat → Nat) (x : Nat) (ht : t < n) : sumN n (fun k => if k = t then g k + x else g k) = sumN n g + x := by
  have := sumN_upd g (fun _ => 1) x ht
  simpa using this
namespace Au
/-- w: how many words lead to each state; g: those of one letter more, so far -/
structure Ct (a : Au) (w g : Nat → Nat) (m i d : Nat) : Prop where
  dot : sumN a.next.length (fun k => g k * cnt a m (k : Int)) = sumN i (fun k => w k * cnt a (m + 1) (k : Int)) + w i * sumN d (fun c => cnt a m (a.to (i : Int) (c : Int)))
  tot : sumN a.next.length g ≤ 8 * sumN i w + d * w i
variable {a : Au} {w g : Nat → Nat} {m i d : Nat}
theorem Ct.start (a : Au) (w : Nat → Nat) (m : Nat) : Ct a w (fun _ => 0) m 0 0 :=
  ⟨by rw [sumN_congr (g := fun _ => 0) (fun k _ => Nat.zero_mul _), sumN_zero]; simp [sumN], by rw [sumN_zero]; omega⟩
theorem Ct.row (h : Ct a w g m i 8) : Ct a w g m (i + 1) 0 := by
  have h1 := h.dot
  have h2 := h.tot
  refine ⟨?_, ?_⟩
  · rw [h1]
    have e : cnt a (m + 1) (i : Int) = sumN 8 (fun c => cnt a m (a.to (i : Int) (c : Int))) := by
      rw [cnt, if_pos (by omega)]
      simp only [sum8, sumN, Nat.zero_add]
    show _ = (sumN i _ + w i * cnt a (m + 1) (i : Int)) + w (i + 1) * 0
    rw [e]; omega
  · rw [sumN]; omega
theorem Ct.skip (h : Ct a w g m i d) (hn : a.to (i : Int) (d : Int) < 0) : Ct a w g m i (d + 1) := by
  have h2 := h.tot
  refine ⟨by show _ = _ + w i * (sumN d _ + cnt a m (a.to (i : Int) (d : Int))); rw [cnt_neg hn, Nat.add_zero]; exact h.dot, ?_⟩
  rw [Nat.add_mul]; omega
theorem Ct.add (h : Ct a w g m i d) {t : Nat} (ht : t < a.next.length) (hto : a.to (i : Int) (d : Int) = (t : Int)) : Ct a w (fun k => if k = t then g k + w i else g k) m i (d + 1) := by
  have h2 := h.tot
  refine ⟨?_, ?_⟩
  · rw [sumN_upd g (fun k => cnt a m (k : Int)) (w i) ht, h.dot, sumN, hto, Nat.mul_add]; omega
  · rw [sumN_upd1 g (w i) ht, Nat.add_mul]; omega
theorem Ct.done (h : Ct a w g m a.next.length 0) : sumN a.next.length (fun k => g k * cnt a m (k : Int)) = sumN a.next.length (fun k => w k * cnt a (m + 1) (k : Int)) ∧ sumN a.next.length g ≤ 8 * sumN a.next.length w :=
  ⟨by rw [h.dot]; simp [sumN], by have := h.tot; omega⟩
/-- how many words lead to each state, so far -/
structure Wy (a : Au) (long k : Nat) (w : Nat → Nat) : Prop where
  dot : sumN a.next.length (fun i => w i * cnt a (long - k) (i : Int)) = cnt a long 0
  tot : sumN a.next.length w ≤ 8 ^ k
theorem Wy.start (hp : 0 < a.next.length) (long : Nat) : Wy a long 0 (fun i => if i = 0 then 1 else 0) := by
  have e : (fun i => if i = 0 then 1 else 0) = fun i => if i = 0 then (fun _ => 0) i + 1 else (fun _ => 0) i := rfl
  refine ⟨?_, ?_⟩
  · have := sumN_upd (fun _ => 0) (fun i => cnt a (long - 0) (i : Int)) 1 hp
    rw [sumN_congr (g := fun _ => 0) (f := fun k => (fun _ => 0) k * _) (fun k _ => Nat.zero_mul _), sumN_zero] at this
    refine this.trans ?_
    simp
  · rw [e, sumN_upd1 _ 1 hp, sumN_zero]; decide
theorem Wy.step {long k : Nat} (h : Wy a long k w) (hk : k < long) (hc : Ct a w g (long - (k + 1)) a.next.length 0) : Wy a long (k + 1) g := by
  obtain ⟨h1, h2⟩ := hc.done
  refine ⟨?_, ?_⟩
  · rw [h1, show long - (k + 1) + 1 = long - k from by omega]; exact h.dot
  · have := h.tot; rw [Nat.pow_succ]; omega
theorem Wy.le {long k : Nat} (h : Wy a long k w) (hk : k ≤ 12) {i : Nat} (hi : i < a.next.length) : w i ≤ 68719476736 := by
  have h1 := sumN_le w hi
  have h2 := h.tot
  have h3 : 8 ^ k ≤ 8 ^ 12 := Nat.pow_le_pow_right (by decide) hk
  omega
theorem Ct.le {long k : Nat} (hw : Wy a long k w) (hk : k ≤ 12) (h : Ct a w g m i d) (hi : i < a.next.length) (hd : d < 8) {t : Nat} (ht : t < a.next.length) : g t ≤ 1099511627776 := by
  have h1 := sumN_le g ht
  have h2 := h.tot
  have h3 := hw.tot
  have h4 : 8 ^ k ≤ 8 ^ 12 := Nat.pow_le_pow_right (by decide) hk
  have h5 := sumN_mono w (Nat.le_of_lt hi)
  have h6 := sumN_le w hi
  have h7 : d * w i ≤ 8 * w i := Nat.mul_le_mul_right _ (by omega)
  omega
theorem cnt_zero_fin (a : Au) (i : Nat) : cnt a 0 (i : Int) = if a.final.getD i false = true then 1 else 0 := by
  rw [cnt, fin, Int.toNat_natCast, decide_eq_true (by omega)]; rfl
theorem Wy.last {long : Nat} (h : Wy a long long w) : sumN a.next.length (fun i => w i * cnt a 0 (i : Int)) = cnt a long 0 := by
  have := h.dot
  rwa [Nat.sub_self] at this
end Au
theorem rowN_set (n : Nat) (g : Nat → Nat) (t x : Nat) : (rowI n (fun k => (g k : Int))).set t (AV.int ((g t : Int) + (x : Int))) = rowI n (fun k => ((if k = t then g k + x else g k : Nat) : Int)) := by
  rw [rowI_set]
  refine rowI_congr fun k _ => ?_
  by_cases h : k = t
  · subst h; rw [if_pos rfl, if_pos rfl]; omega
  · rw [if_neg h, if_neg h]
theorem rowN_start (n : Nat) : (List.replicate n (AV.int 0)).set 0 (AV.int 1) = rowI n (fun k => ((if k = 0 then 1 else 0 : Nat) : Int)) := by
  rw [rowI_rep, rowI_set]
  exact rowI_congr fun k _ => by split <;> rfl
end Go.Vl
end
