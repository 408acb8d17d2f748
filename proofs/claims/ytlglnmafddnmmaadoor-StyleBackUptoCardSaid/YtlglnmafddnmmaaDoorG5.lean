/-
  Merged: Pairs Least Row8 Key Raw.
-/
import Derived.Test.YtlglnmafddnmmaaDoorG4
import Derived.Sort.OwnSortedInts
import Derived.Lib.LaidTab
import Derived.Lib.ItoaNum

section
set_option linter.unusedVariables false
set_option linter.unusedSimpArgs false
namespace Go.Vl
namespace Au
/-- is a state an end? -/
def fin (a : Au) (i : Int) : Bool := decide (0 ≤ i) && a.final.getD i.toNat false
theorem acc_nil (a : Au) (i : Int) : a.acc i [] ↔ a.fin i = true := by simp [acc, fin]
def stp (a b : Au) (p : Int × Int) (c : Nat) : Int × Int := (if 0 ≤ p.1 then a.to p.1 (c : Int) else -1, if 0 ≤ p.2 then b.to p.2 (c : Int) else -1)
structure PIn (a b : Au) (p : Int × Int) : Prop where
  l1 : -1 ≤ p.1
  u1 : p.1 < a.next.length
  l2 : -1 ≤ p.2
  u2 : p.2 < b.next.length
theorem PIn.stp {a b : Au} (ha : a.Shape) (hb : b.Shape) {p : Int × Int} (h : PIn a b p) {c : Nat} (hc : c < 8) : PIn a b (stp a b p c) := by
  have pa := ha.pos
  have pb := hb.pos
  refine ⟨?_, ?_, ?_, ?_⟩ <;> simp only [Au.stp]
  · split
    · rename_i h0; exact (to_range ha h0 h.u1 (by omega) (by omega)).1
    · omega
  · split
    · rename_i h0; exact (to_range ha h0 h.u1 (by omega) (by omega)).2
    · omega
  · split
    · rename_i h0; exact (to_range hb h0 h.u2 (by omega) (by omega)).1
    · omega
  · split
    · rename_i h0; exact (to_range hb h0 h.u2 (by omega) (by omega)).2
    · omega
/-- both read the words behind a pair -/
theorem acc_stp1 {a b : Au} {p : Int × Int} {c : Nat} (hc : c < 8) (u : List Int) : a.acc p.1 ((c : Int) :: u) ↔ a.acc (stp a b p c).1 u := by
  simp only [stp]
  split
  · rename_i h; exact acc_cons h (by omega) (by omega)
  · rename_i h; exact ⟨fun h' => absurd h' (acc_neg (by omega) _), fun h' => absurd h' (acc_neg (by decide) _)⟩
theorem acc_stp2 {a b : Au} {p : Int × Int} {c : Nat} (hc : c < 8) (u : List Int) : b.acc p.2 ((c : Int) :: u) ↔ b.acc (stp a b p c).2 u := by
  simp only [stp]
  split
  · rename_i h; exact acc_cons h (by omega) (by omega)
  · rename_i h; exact ⟨fun h' => absurd h' (acc_neg (by omega) _), fun h' => absurd h' (acc_neg (by decide) _)⟩
/-- all pairs that are met -/
structure Prs (a b : Au) (all : List (Int × Int)) (T : Nat → Nat → Nat) : Prop where
  zero : all.getD 0 (0, 0) = (0, 0) ∧ 0 < all.length
  rng : ∀ p ∈ all, PIn a b p
  ent : ∀ k c, k < all.length → c < 8 → T k c < all.length ∧ all.getD (T k c) (0, 0) = stp a b (all.getD k (0, 0)) c
  met : ∀ p ∈ all, ∃ u : List Nat, (∀ c ∈ u, c < 8) ∧ p = u.foldl (stp a b) (0, 0)
/-- the same words are read from a pair -/
def psame (a b : Au) (p : Int × Int) : Prop := ∀ u, a.acc p.1 u ↔ b.acc p.2 u
theorem foldl_same {a b : Au} : ∀ (u : List Nat) (p : Int × Int), (∀ c ∈ u, c < 8) → psame a b p → psame a b (u.foldl (stp a b) p)
  | [], p, _, h => h
  | c :: u, p, hu, h => by
    refine foldl_same u _ (fun d hd => hu d (List.mem_cons_of_mem _ hd)) fun v => ?_
    have hc := hu c List.mem_cons_self
    rw [← acc_stp1 hc, ← acc_stp2 hc]; exact h _
theorem Prs.same {a b : Au} {all : List (Int × Int)} {T : Nat → Nat → Nat} (h : Prs a b all T) : (∀ p ∈ all, a.fin p.1 = b.fin p.2) ↔ ∀ u, a.acc 0 u ↔ b.acc 0 u := by
  constructor
  · intro hf
    have key : ∀ (u : List Int) (k : Nat), k < all.length → (a.acc (all.getD k (0, 0)).1 u ↔ b.acc (all.getD k (0, 0)).2 u) := by
      intro u
      induction u with
      | nil =>
        intro k hk
        rw [acc_nil, acc_nil, hf _ (getD_memG (0, 0) all k hk)]
      | cons c u ih =>
        intro k hk
        by_cases hc : 0 ≤ c ∧ c < 8
        · obtain ⟨c, rfl⟩ : ∃ k : Nat, c = (k : Int) := ⟨c.toNat, by omega⟩
          have h1 := h.ent k c hk (by omega)
          rw [acc_stp1 (b := b) (by omega), acc_stp2 (a := a) (by omega), ← h1.2]
          exact ih _ h1.1
        · simp only [acc]
          exact ⟨fun h => absurd ⟨h.2.1, h.2.2.1⟩ hc, fun h => absurd ⟨h.2.1, h.2.2.1⟩ hc⟩
    intro u
    have := key u 0 h.zero.2
    rw [h.zero.1] at this
    exact this
  · intro hs p hp
    obtain ⟨u, hu, rfl⟩ := h.met p hp
    have := foldl_same u (0, 0) hu hs []
    rw [acc_nil, acc_nil] at this
    exact Bool.eq_iff_iff.2 this
/-- THE MACHINE OF BOTH. -/
theorem Prs.both {a b w : Au} {all : List (Int × Int)} {T : Nat → Nat → Nat} (h : Prs a b all T) (hn : w.next.length = all.length) (hf : w.final = all.map fun p => a.fin p.1 && b.fin p.2)
    (hrow : ∀ k, k < all.length → (w.next.getD k []).length = 8) (hw : ∀ k c : Nat, k < all.length → c < 8 → w.to (k : Int) (c : Int) = (T k c : Int)) : w.Shape ∧ ∀ u, w.acc 0 u ↔ a.acc 0 u ∧ b.acc 0 u := by
  refine ⟨⟨by rw [hn]; exact h.zero.2, by rw [hf, List.length_map, hn], fun k hk => hrow k (by omega), fun k hk c hc => ?_⟩, ?_⟩
  · have h1 := hw k c (by omega) hc
    simp only [to, Int.toNat_natCast] at h1
    have := (h.ent k c (by omega) hc).1
    rw [h1]; omega
  · have key : ∀ (u : List Int) (k : Nat), k < all.length → (w.acc (k : Int) u ↔ a.acc (all.getD k (0, 0)).1 u ∧ b.acc (all.getD k (0, 0)).2 u) := by
      intro u
      induction u with
      | nil =>
        intro k hk
        rw [acc_nil, acc_nil, acc_nil]
        have : w.fin (k : Int) = (a.fin (all.getD k (0, 0)).1 && b.fin (all.getD k (0, 0)).2) := by
          rw [fin, hf]
          simp only [Int.toNat_natCast, List.getD_eq_getElem?_getD, List.getElem?_map, List.getElem?_eq_getElem hk]
          simp
        rw [this, Bool.and_eq_true]
      | cons c u ih =>
        intro k hk
        by_cases hc : 0 ≤ c ∧ c < 8
        · obtain ⟨c, rfl⟩ : ∃ k : Nat, c = (k : Int) := ⟨c.toNat, by omega⟩
          have h1 := h.ent k c hk (by omega)
          rw [acc_step k c (by omega), hw k c hk (by omega), acc_stp1 (b := b) (by omega), acc_stp2 (a := a) (by omega), ← h1.2]
          exact ih _ h1.1
        · simp only [acc]
          exact ⟨fun h => absurd ⟨h.2.1, h.2.2.1⟩ hc, fun h => absurd ⟨h.1.2.1, h.1.2.2.1⟩ hc⟩
    intro u
    have := key u 0 h.zero.2
    rw [h.zero.1] at this
    exact this

/-! ### how many words -/
def sum8 (f : Nat → Nat) : Nat := f 0 + f 1 + f 2 + f 3 + f 4 + f 5 + f 6 + f 7
/-- how many words of so many letters are read from a state on -/
def cnt (a : Au) : Nat → Int → Nat
  | 0, i => if a.fin i = true then 1 else 0
  | n + 1, i => if 0 ≤ i then sum8 fun c => cnt a n (a.to i (c : Int)) else 0
theorem sum8_le {f g : Nat → Nat} (h : ∀ c, c < 8 → f c ≤ g c) : sum8 f ≤ sum8 g := by
  have h0 := h 0 (by decide); have h1 := h 1 (by decide); have h2 := h 2 (by decide); have h3 := h 3 (by decide)
  have h4 := h 4 (by decide); have h5 := h 5 (by decide); have h6 := h 6 (by decide); have h7 := h 7 (by decide)
  simp only [sum8]; omega
theorem cnt_le (a : Au) : ∀ (n : Nat) (i : Int), cnt a n i ≤ 8 ^ n
  | 0, i => by rw [cnt]; split <;> simp
  | n + 1, i => by
    rw [cnt]
    split
    · have h : sum8 (fun c => cnt a n (a.to i (c : Int))) ≤ sum8 (fun _ => 8 ^ n) := sum8_le fun c _ => cnt_le a n _
      have h2 : sum8 (fun _ => 8 ^ n) = 8 * 8 ^ n := by simp only [sum8]; omega
      rw [Nat.pow_succ]; omega
    · exact Nat.zero_le _
/-- words of three letters, one by one -/
def dig : Nat → Nat → List Int
  | 0, _ => []
  | n + 1, x => ((x % 3 : Nat) : Int) :: dig n (x / 3)
def found (a : Au) (n : Nat) (i : Int) (m : Nat) : Nat := ((List.range m).filter fun x => a.fin (a.run i (dig n x))).length
/-- pairs that are known while rows are made: rows ahead of i are done, and of row i the letters ahead of c -/
structure Prb (a b : Au) (all : List (Int × Int)) (T : Nat → Nat → Nat) (i c : Nat) : Prop where
  zero : all.getD 0 (0, 0) = (0, 0) ∧ 0 < all.length
  nodup : all.Nodup
  rng : ∀ p ∈ all, PIn a b p
  ent : ∀ k d, k < all.length → d < 8 → (k < i ∨ (k = i ∧ d < c)) → T k d < all.length ∧ all.getD (T k d) (0, 0) = stp a b (all.getD k (0, 0)) d
  met : ∀ p ∈ all, ∃ u : List Nat, (∀ d ∈ u, d < 8) ∧ p = u.foldl (stp a b) (0, 0)
theorem Prb.start {a b : Au} (ha : a.Shape) (hb : b.Shape) (T : Nat → Nat → Nat) : Prb a b [(0, 0)] T 0 0 := by
  have pa := ha.pos
  have pb := hb.pos
  refine ⟨⟨rfl, by simp⟩, by simp, fun p hp => ?_, fun k d _ _ h => by rcases h with h | ⟨_, h⟩ <;> exact absurd h (Nat.not_lt_zero _), fun p hp => ?_⟩
  · rw [List.mem_singleton.1 hp]
    exact ⟨by show (-1 : Int) ≤ 0; omega, by show (0 : Int) < _; omega, by show (-1 : Int) ≤ 0; omega, by show (0 : Int) < _; omega⟩
  · rw [List.mem_singleton.1 hp]
    exact ⟨[], by simp, rfl⟩
theorem Prb.row {a b : Au} {all : List (Int × Int)} {T : Nat → Nat → Nat} {i : Nat} (h : Prb a b all T i 8) : Prb a b all T (i + 1) 0 :=
  ⟨h.zero, h.nodup, h.rng, fun k d hk hd he => h.ent k d hk hd (by omega), h.met⟩
theorem Prb.congr {a b : Au} {all : List (Int × Int)} {T T' : Nat → Nat → Nat} {i c : Nat} (h : Prb a b all T i c) (hT : ∀ k d, (k < i ∨ (k = i ∧ d < c)) → T' k d = T k d) : Prb a b all T' i c :=
  ⟨h.zero, h.nodup, h.rng, fun k d hk hd he => by rw [hT k d he]; exact h.ent k d hk hd he, h.met⟩
theorem Prb.old {a b : Au} {all : List (Int × Int)} {T : Nat → Nat → Nat} {i c : Nat} (h : Prb a b all T i c) (hk : T i c < all.length) (he : all.getD (T i c) (0, 0) = stp a b (all.getD i (0, 0)) c) : Prb a b all T i (c + 1) := by
  refine ⟨h.zero, h.nodup, h.rng, fun k d hk' hd hx => ?_, h.met⟩
  by_cases h1 : k < i ∨ (k = i ∧ d < c)
  · exact h.ent k d hk' hd h1
  · obtain ⟨rfl, rfl⟩ : k = i ∧ d = c := by omega
    exact ⟨hk, he⟩
theorem Prb.new {a b : Au} (ha : a.Shape) (hb : b.Shape) {all : List (Int × Int)} {T : Nat → Nat → Nat} {i c : Nat} (h : Prb a b all T i c) (hi : i < all.length) (hc : c < 8) (hT : T i c = all.length) (hn : stp a b (all.getD i (0, 0)) c ∉ all) :
    Prb a b (all ++ [stp a b (all.getD i (0, 0)) c]) T i (c + 1) := by
  have hm : all.getD i (0, 0) ∈ all := getD_memG _ _ _ hi
  have g1 : ∀ k, k < all.length → (all ++ [stp a b (all.getD i (0, 0)) c]).getD k (0, 0) = all.getD k (0, 0) := fun k hk => by
    rw [List.getD_eq_getElem?_getD, List.getElem?_append_left hk, List.getD_eq_getElem?_getD]
  have g2 : (all ++ [stp a b (all.getD i (0, 0)) c]).getD all.length (0, 0) = stp a b (all.getD i (0, 0)) c := by
    rw [List.getD_eq_getElem?_getD, List.getElem?_append_right (Nat.le_refl _), Nat.sub_self]; rfl
  refine ⟨⟨by rw [g1 0 h.zero.2]; exact h.zero.1, by rw [List.length_append]; have := h.zero.2; omega⟩, ?_, ?_, ?_, ?_⟩
  · rw [List.nodup_append]
    exact ⟨h.nodup, by simp, fun p hp q hq e => hn (by rw [← List.mem_singleton.1 hq, ← e]; exact hp)⟩
  · intro p hp
    rcases List.mem_append.1 hp with hp | hp
    · exact h.rng p hp
    · rw [List.mem_singleton.1 hp]; exact (h.rng _ hm).stp ha hb hc
  · intro k d hk hd hx
    rw [List.length_append, List.length_singleton] at hk ⊢
    by_cases h1 : k < i ∨ (k = i ∧ d < c)
    · obtain ⟨h2, h3⟩ := h.ent k d (by omega) hd h1
      exact ⟨by omega, by rw [g1 _ h2, g1 k (by omega)]; exact h3⟩
    · obtain ⟨rfl, rfl⟩ : k = i ∧ d = c := by omega
      rw [hT, g2, g1 k hi]
      exact ⟨by omega, rfl⟩
  · intro p hp
    rcases List.mem_append.1 hp with hp | hp
    · exact h.met p hp
    · obtain ⟨u, h1, h2⟩ := h.met _ hm
      refine ⟨u ++ [c], fun d hd => ?_, ?_⟩
      · rcases List.mem_append.1 hd with hd | hd
        · exact h1 d hd
        · rw [List.mem_singleton.1 hd]; exact hc
      · rw [List.mem_singleton.1 hp, List.foldl_append, ← h2]; rfl
theorem Prb.done {a b : Au} {all : List (Int × Int)} {T : Nat → Nat → Nat} {i c : Nat} (h : Prb a b all T i c) (hi : all.length ≤ i) : Prs a b all T :=
  ⟨h.zero, h.rng, fun k d hk hd => h.ent k d hk hd (.inl (by omega)), h.met⟩
end Au
end Go.Vl
end

section
set_option linter.unusedVariables false
set_option linter.unusedSimpArgs false
namespace Go.Vl
namespace Au
abbrev Qe := Nat × List Int
/-- the queue: words of h letters, then those of h + 1; D: what was looked at; letters ahead of c of the first one are done -/
structure Lst (a : Au) (sn : Nat → Bool) (Q1 Q2 : List Qe) (D : Nat → Prop) (h c : Nat) : Prop where
  ne : Q1 ≠ []
  seen : ∀ s, s < a.next.length → (sn s = true ↔ D s ∨ ∃ q, q ∈ Q1 ++ Q2 ∧ q.1 = s)
  ok : ∀ q ∈ Q1 ++ Q2, q.1 < a.next.length ∧ a.run 0 q.2 = (q.1 : Int) ∧ ∀ x ∈ q.2, 0 ≤ x ∧ x < 8
  l1 : ∀ q ∈ Q1, q.2.length = h
  l2 : ∀ q ∈ Q2, q.2.length = h + 1
  less : ∀ (u : List Int) (s : Nat), (∀ x ∈ u, 0 ≤ x ∧ x < 8) → a.run 0 u = (s : Int) → u.length < h → D s
  eq : ∀ (u : List Int) (s : Nat), (∀ x ∈ u, 0 ≤ x ∧ x < 8) → a.run 0 u = (s : Int) → u.length = h → D s ∨ ∃ q, q ∈ Q1 ∧ q.1 = s
  done : ∀ s, D s → a.fin (s : Int) = false ∧ ∀ x t : Nat, x < 8 → a.to (s : Int) (x : Int) = (t : Int) → sn t = true
  head : ∀ x t : Nat, x < c → a.to (((Q1.getD 0 (0, [])).1 : Nat) : Int) (x : Int) = (t : Int) → sn t = true
variable {a : Au} {seen : Nat → Bool} {Q1 Q2 : List Qe} {D : Nat → Prop} {h c : Nat}
theorem Lst.start (hs : a.Shape) : Lst a (fun s => decide (s = 0)) [(0, [])] [] (fun _ => False) 0 0 := by
  refine ⟨by simp, fun s _ => ?_, fun q hq => ?_, fun q hq => ?_, fun q hq => (by cases hq), fun u s _ _ h => absurd h (Nat.not_lt_zero _), fun u s _ he hl => ?_, fun s h => False.elim h, fun x t hx => absurd hx (Nat.not_lt_zero _)⟩
  · simp only [decide_eq_true_eq, List.append_nil, List.mem_singleton, false_or]
    exact ⟨fun h => ⟨_, rfl, h.symm⟩, by rintro ⟨q, rfl, h⟩; exact h.symm⟩
  · obtain rfl : q = (0, []) := by simpa using hq
    exact ⟨hs.pos, rfl, by simp⟩
  · obtain rfl : q = (0, []) := by simpa using hq
    rfl
  · obtain rfl : u = [] := List.eq_nil_of_length_eq_zero hl
    have : (0 : Int) = (s : Int) := he
    exact .inr ⟨(0, []), List.mem_singleton.2 rfl, by show 0 = s; omega⟩
/-- the first one is an end: no word is shorter -/
theorem Lst.found (hs : a.Shape) (H : Lst a seen Q1 Q2 D h c) (hf : a.fin (((Q1.getD 0 (0, [])).1 : Nat) : Int) = true) : a.acc 0 (Q1.getD 0 (0, [])).2 ∧ ∀ u, u.length < (Q1.getD 0 (0, [])).2.length → ¬ a.acc 0 u := by
  have hm : Q1.getD 0 (0, []) ∈ Q1 := getD_memG _ _ _ (List.length_pos_iff.2 H.ne)
  obtain ⟨h1, h2, h3⟩ := H.ok _ (List.mem_append_left _ hm)
  refine ⟨?_, fun u hu hacc => ?_⟩
  · rw [acc_run _ _ h3, h2]
    simpa [fin] using hf
  · have ho := acc_over hacc
    obtain ⟨h4, h5⟩ := (acc_run u 0 ho).1 hacc
    rw [H.l1 _ hm] at hu
    have h6 := (H.done _ (H.less u (a.run 0 u).toNat ho (by omega) hu)).1
    rw [show (((a.run 0 u).toNat : Nat) : Int) = a.run 0 u from by omega] at h6
    simp only [fin, h4, h5, decide_true, Bool.and_self, Bool.true_and, Bool.true_eq_false] at h6
/-- a letter that leads to nothing new -/
theorem Lst.skip (H : Lst a seen Q1 Q2 D h c) (hn : ∀ t : Nat, a.to (((Q1.getD 0 (0, [])).1 : Nat) : Int) (c : Int) = (t : Int) → seen t = true) : Lst a seen Q1 Q2 D h (c + 1) := by
  refine ⟨H.ne, H.seen, H.ok, H.l1, H.l2, H.less, H.eq, H.done, fun x t hx e => ?_⟩
  rcases Nat.lt_or_ge x c with h1 | h1
  · exact H.head x t h1 e
  · obtain rfl : x = c := by omega
    exact hn t e
/-- a new one -/
theorem Lst.push (H : Lst a seen Q1 Q2 D h c) (hc : c < 8) {t : Nat} (ht : t < a.next.length) (he : a.to (((Q1.getD 0 (0, [])).1 : Nat) : Int) (c : Int) = (t : Int)) :
    Lst a (fun s => if s = t then true else seen s) Q1 (Q2 ++ [(t, (Q1.getD 0 (0, [])).2 ++ [(c : Int)])]) D h (c + 1) := by
  have hm : Q1.getD 0 (0, []) ∈ Q1 := getD_memG _ _ _ (List.length_pos_iff.2 H.ne)
  obtain ⟨h1, h2, h3⟩ := H.ok _ (List.mem_append_left _ hm)
  have hup : ∀ s, seen s = true → (if s = t then true else seen s) = true := fun s hs => by split <;> simp_all
  refine ⟨H.ne, fun s hs => ?_, fun q hq => ?_, H.l1, fun q hq => ?_, H.less, H.eq, fun s hs => ⟨(H.done s hs).1, fun x t' hx e => hup _ ((H.done s hs).2 x t' hx e)⟩, fun x t' hx e => ?_⟩
  · by_cases hst : s = t
    · subst hst
      rw [if_pos rfl]
      exact ⟨fun _ => .inr ⟨_, List.mem_append_right _ (List.mem_append_right _ (List.mem_singleton.2 rfl)), rfl⟩, fun _ => rfl⟩
    · rw [if_neg hst, H.seen s hs]
      constructor
      · rintro (h' | ⟨q, hq, e⟩)
        · exact .inl h'
        · rw [← List.append_assoc]; exact .inr ⟨q, List.mem_append_left _ hq, e⟩
      · rintro (h' | ⟨q, hq, e⟩)
        · exact .inl h'
        · rw [← List.append_assoc] at hq
          rcases List.mem_append.1 hq with hq | hq
          · exact .inr ⟨q, hq, e⟩
          · rw [List.mem_singleton.1 hq] at e
            exact absurd e.symm hst
  · rw [← List.append_assoc] at hq
    rcases List.mem_append.1 hq with hq | hq
    · exact H.ok q hq
    · rw [List.mem_singleton.1 hq]
      refine ⟨ht, ?_, fun x hx => ?_⟩
      · show a.run 0 (_ ++ _) = _
        rw [run_snoc, h2, if_pos (by omega)]; exact he
      · rcases List.mem_append.1 hx with hx | hx
        · exact h3 x hx
        · rw [List.mem_singleton.1 hx]; omega
  · rcases List.mem_append.1 hq with hq | hq
    · exact H.l2 q hq
    · rw [List.mem_singleton.1 hq]
      show (_ ++ _ : List Int).length = _
      rw [List.length_append, H.l1 _ hm]; rfl
  · rcases Nat.lt_or_ge x c with h4 | h4
    · exact hup _ (H.head x t' h4 e)
    · obtain rfl : x = c := by omega
      rw [he] at e
      have : t = t' := by omega
      subst this
      show (if t = t then true else seen t) = true
      rw [if_pos rfl]
end Au
end Go.Vl
end

section
set_option linter.unusedVariables false
set_option linter.unusedSimpArgs false
namespace Go.Vl
def row8 (f : Nat → Int) : List AV := [.int (f 0), .int (f 1), .int (f 2), .int (f 3), .int (f 4), .int (f 5), .int (f 6), .int (f 7)]
abbrev r8av (f : Nat → Int) : AV := .agg (row8 f)
abbrev prav (p : Int × Int) : AV := .agg [.int p.1, .int p.2]
namespace Au
/-- not more pairs than there are -/
theorem Prb.len {a b : Au} {all : List (Int × Int)} {T : Nat → Nat → Nat} {i c : Nat} (h : Prb a b all T i c) : all.length ≤ (a.next.length + 1) * (b.next.length + 1) := by
  refine pigeon _ all.length (fun k => ((all.getD k (0, 0)).1 + 1).toNat * (b.next.length + 1) + ((all.getD k (0, 0)).2 + 1).toNat) (fun k hk => ?_) (fun j k hj hk e => ?_)
  · have hr := h.rng _ (getD_memG (0, 0) all k hk)
    have h1 := hr.l1; have h2 := hr.u1; have h3 := hr.l2; have h4 := hr.u2
    have h5 : ((all.getD k (0, 0)).1 + 1).toNat ≤ a.next.length := by omega
    have h6 : ((all.getD k (0, 0)).2 + 1).toNat < b.next.length + 1 := by omega
    calc ((all.getD k (0, 0)).1 + 1).toNat * (b.next.length + 1) + ((all.getD k (0, 0)).2 + 1).toNat
        < ((all.getD k (0, 0)).1 + 1).toNat * (b.next.length + 1) + (b.next.length + 1) := by omega
      _ = (((all.getD k (0, 0)).1 + 1).toNat + 1) * (b.next.length + 1) := by rw [Nat.add_mul, Nat.one_mul]
      _ ≤ (a.next.length + 1) * (b.next.length + 1) := Nat.mul_le_mul_right _ (by omega)
  · have rj := h.rng _ (getD_memG (0, 0) all j hj)
    have rk := h.rng _ (getD_memG (0, 0) all k hk)
    have hj6 : ((all.getD j (0, 0)).2 + 1).toNat < b.next.length + 1 := by have := rj.l2; have := rj.u2; omega
    have hk6 : ((all.getD k (0, 0)).2 + 1).toNat < b.next.length + 1 := by have := rk.l2; have := rk.u2; omega
    have hd := congrArg (· / (b.next.length + 1)) e
    have hm := congrArg (· % (b.next.length + 1)) e
    rw [Nat.mul_comm, Nat.mul_add_div (by omega), Nat.div_eq_of_lt hj6, Nat.mul_comm, Nat.mul_add_div (by omega), Nat.div_eq_of_lt hk6] at hd
    rw [Nat.mul_comm, Nat.mul_add_mod, Nat.mod_eq_of_lt hj6, Nat.mul_comm, Nat.mul_add_mod, Nat.mod_eq_of_lt hk6] at hm
    have e2 : all.getD j (0, 0) = all.getD k (0, 0) := by
      have := rj.l1; have := rk.l1; have := rj.l2; have := rk.l2
      exact Prod.ext (by omega) (by omega)
    rw [List.getD_eq_getElem?_getD, List.getD_eq_getElem?_getD, List.getElem?_eq_getElem hj, List.getElem?_eq_getElem hk] at e2
    exact (List.getElem_inj h.nodup).1 e2
/-- an entry is written -/
def setT (T : Nat → Nat → Nat) (i c x : Nat) : Nat → Nat → Nat := fun k d => if k = i ∧ d = c then x else T k d
/-- a row's cells, so far -/
def rowU (T : Nat → Nat → Nat) (i c : Nat) : List AV := row8 fun d => if d < c then (T i d : Int) else 0
end Au
end Go.Vl
end

section
set_option linter.unusedVariables false
set_option linter.unusedSimpArgs false
namespace Go.Vl
/-- a number's digits: -1 .. 99 -/
def dgt (n : Nat) : UInt8 := 48 + UInt8.ofNat n
def itoa (n : Int) : List UInt8 := if n < 0 then [45, 49] else if n < 10 then [dgt n.toNat] else [dgt (n.toNat / 10), dgt (n.toNat % 10)]
def keyL (l : List Int) : List UInt8 := l.flatMap fun n => itoa n ++ [32]
def sml (l : List Int) : Prop := ∀ n ∈ l, -1 ≤ n ∧ n < 100
def fmtB (b : Bool) : List UInt8 := if b then [116, 114, 117, 101] else [102, 97, 108, 115, 101]
end Go.Vl
end

section
set_option linter.unusedVariables false
set_option linter.unusedSimpArgs false
namespace Go.Vl
open Go.RowKit (Below)
open Go.Sort
theorem MOk.below {w w' : World} {M : List ME} {F : List Nat} (h : MOk w M F) (hb : Below w.heap.size w w') (hF : ∀ b ∈ F, b < w.heap.size) : MOk w' M F := by
  refine ⟨h.nodup, h.apart, fun m hm => ME.holds_keep (w := w) (N := bl M ++ F) ?_ (fun b hb' => ?_) (h.holds m hm)⟩
  · intro b c T fr hn hc
    exact ⟨hn, (hb.block b (heap_lt hc)).trans hc⟩
  · exact hb.block b (bl_lt h b (List.mem_flatMap.2 ⟨m, hm, hb'⟩))
theorem Fr.below {w w' : World} {N : List Nat} (h : Below w.heap.size w w') : Fr w N w' N :=
  ⟨h.os, h.tape, h.output, h.size, fun k hk hn => ⟨h.block k hk, hn⟩⟩
/-- nothing that was turns; the result is known -/
theorem FnC.belowM {P : Program} {f : FuncId} {args : List AV} {M0 : List ME} {r : AV} (hc : CallOk P f)
    (h : ∀ (w : World) (F : List Nat) (vs : List Value), MOk w M0 F → RepT w (bl M0 ++ F) args vs → Calls P f vs.toArray w fun e w' => ∃ v, e = .returned v ∧ Rep w' (bl M0 ++ F) r v ∧ Below w.heap.size w w') : FnC P f args M0 (fun r' M => r' = r ∧ M = M0) :=
  ⟨hc, fun w F vs hF hm ha => (h w F vs hm ha).mono fun e w' ⟨v, he, hr, hb⟩ => ⟨v, r, M0, he, ⟨rfl, rfl⟩, hm.below hb hF, hr, Fr.below hb⟩⟩
theorem RepE.ints {w : World} {N : List Nat} : ∀ {l : List Int} {row : List Value}, row.take l.length = l.map (Value.int .i64) → RepE w N 1 (l.map AV.int) row
  | [], row, _ => by simp only [List.map_nil, RepE]
  | n :: l, row, h => by
    cases row with
    | nil => simp at h
    | cons x row =>
      simp only [List.length_cons, List.take_succ_cons, List.map_cons, List.cons.injEq] at h
      simp only [List.map_cons, RepE]
      refine ⟨by simp, ?_, RepE.ints h.2⟩
      rw [h.1]
      simp only [RepC]; rfl
theorem RepE.toInts {w : World} {N : List Nat} : ∀ {l : List Int} {row : List Value}, RepE w N 1 (l.map AV.int) row → row.take l.length = l.map (Value.int .i64)
  | [], row, _ => by simp
  | n :: l, row, h => by
    simp only [List.map_cons, RepE] at h
    obtain ⟨h1, h2, h3⟩ := h
    cases row with
    | nil => simp at h1
    | cons x row =>
      have h2 : [x] = (Value.int .i64 n).cells.toList := by simpa [RepC] using h2
      have hx : x = .int .i64 n := by simpa [Value.cells] using h2
      rw [List.length_cons, List.take_succ_cons, List.map_cons, hx]
      congr 1
      exact RepE.toInts (w := w) (N := N) h3
theorem lit_cell {w : World} {N : List Nat} {v u : Value} (h1 : (AV.lit v).sh = 0) (h3 : RepC w N (.lit v) [u]) : u = v := by
  simp only [RepC] at h3
  have e : v.cells.toList = [v] := by cases v <;> simp_all [AV.sh, shV, Value.cells]
  rw [e] at h3
  exact (List.cons.inj h3).1
theorem take_putCells (cur : Array Value) (off : Nat) (ts : List Int) (h : off + ts.length ≤ cur.size) : ((putCells (Value.int .i64) off ts.toArray cur).toList.drop off).take ts.length = ts.map (Value.int .i64) := by
  apply List.ext_getElem?
  intro j
  by_cases hj : j < ts.length
  · rw [List.getElem?_take_of_lt hj, List.getElem?_drop, Array.getElem?_toList]
    simp [putCells, hj, show off + j < cur.size by omega]
  · rw [List.getElem?_take_eq_none (by omega), List.getElem?_eq_none (by simp; omega)]
/-- an own row is written by the library; the call hands back a value that its place and length fix -/
theorem FnC.row {P : Program} {f : FuncId} {I : TypeId} {v : Value} {l : List Int} (hc : CallOk P f) (new : List Int) (hn : new.length = l.length) (m : Nat) (hm : m ≤ l.length) (rv : Option Addr → Nat → Value)
    (h0 : l = [] → ∀ (ad : Option Addr) (cap : Nat) (w : World), Calls P f #[.slice ad 0 cap] w fun e w' => e = .returned (rv ad cap) ∧ w' = w)
    (h1 : l ≠ [] → ∀ (g off cap : Nat) (w : World), Holds (Value.int .i64) w g off l.toArray → g < w.heap.size → l.length ≤ cap → cap ≤ maxLen → Calls P f #[.slice (some ⟨g, off, none⟩) l.length cap] w fun e w' => e = .returned (rv (some ⟨g, off, none⟩) cap) ∧ ∃ n os, w' = grow (putRow (Value.int .i64) (Sort.ahead w n) g off new.toArray) os) :
    FnC P f [.lit v] [.arr v I 1 (l.map AV.int)] (fun r M => ∃ ad cap, v = .slice ad l.length cap ∧ r = .lit (rv ad cap) ∧ M = [.arr (.slice ad m cap) I 1 ((new.take m).map AV.int)]) := by
  refine ⟨hc, fun w F vs hF hmk ha => ?_⟩
  simp only [RepT] at ha
  obtain ⟨v0, _, rfl, ⟨hs0, hr0⟩, rfl⟩ := ha
  have e0 : v0 = v := Rep.lit_iff.1 (show Rep w (bl [.arr v I 1 (l.map AV.int)] ++ F) (.lit v) v0 from ⟨hs0, hr0⟩)
  subst e0
  obtain ⟨ad, cap, rfl, hl1, hl2, h3⟩ := hmk.holds _ List.mem_cons_self
  rw [List.length_map] at *
  by_cases hl : l = []
  · subst hl
    refine (h0 rfl ad cap w).mono fun e w' ⟨he, hw⟩ => ?_
    subst hw
    obtain rfl : m = 0 := by simpa using hm
    have hnew : new = [] := List.eq_nil_of_length_eq_zero hn
    subst hnew
    exact ⟨_, _, _, he, ⟨ad, cap, rfl, rfl, rfl⟩, hmk, Rep.lit _, Fr.refl _ _⟩
  · rcases h3 with ⟨_, h3⟩ | ⟨g, off, cur, lo, hi, rfl, hg, hsz, hfr, he⟩
    · have : l.length ≠ 0 := fun h => hl (List.eq_nil_of_length_eq_zero h)
      omega
    · have hti := RepE.toInts he
      have hle : off + l.length ≤ cur.size := by omega
      have hH : Holds (Value.int .i64) w g off l.toArray := by
        intro j hj
        have hj' : j < l.length := by simpa using hj
        refine ⟨?_, ?_⟩
        · rw [cell_of hg]
          have h5 : ((cur.toList.drop off).take l.length)[j]? = (l.map (Value.int .i64))[j]? := by rw [hti]
          rw [List.getElem?_take_of_lt hj', List.getElem?_drop, Array.getElem?_toList] at h5
          rw [h5]; simp [hj']
        · simp only [World.frozen?, hg]
          rcases hfr with h5 | h5
          · simp; omega
          · simp; omega
      refine (h1 hl g off cap w hH (heap_lt hg) hl1 hl2).mono fun e w' ⟨he', n, os, hw⟩ => ?_
      subst hw
      have hg' : (grow (putRow (Value.int .i64) (Sort.ahead w n) g off new.toArray) os).heap[g]? = some (.cells (putCells (Value.int .i64) off new.toArray cur) I (lo, hi)) := by
        rw [heap_grow_old _ _ (by simpa using heap_lt hg)]
        simp [putRow, mapBlock, Sort.ahead, Array.getElem?_modify, hg, onCells]
      have hother : ∀ k, k < w.heap.size → k ≠ g → (grow (putRow (Value.int .i64) (Sort.ahead w n) g off new.toArray) os).heap[k]? = w.heap[k]? := fun k hk hne => by
        rw [heap_grow_old _ _ (by simpa using hk)]
        have hne' : ¬ g = k := fun e => hne e.symm
        simp [putRow, mapBlock, Sort.ahead, Array.getElem?_modify, hne']
      have htl : (new.take m).length = m := by rw [List.length_take]; omega
      refine ⟨_, _, [.arr (.slice (some ⟨g, off, none⟩) m cap) I 1 ((new.take m).map AV.int)], he', ⟨_, cap, rfl, rfl, rfl⟩, ⟨?_, ?_, ?_⟩, Rep.lit _, ?_⟩
      · exact hmk.nodup
      · exact hmk.apart
      · intro q hq
        rw [List.mem_singleton.1 hq]
        refine ⟨some ⟨g, off, none⟩, cap, by rw [List.length_map, htl], by rw [List.length_map, htl]; omega, hl2, .inr ⟨g, off, _, lo, hi, rfl, hg', by simpa [putCells] using hsz, hfr, ?_⟩⟩
        refine RepE.ints ?_
        rw [htl]
        have := take_putCells cur off new (by omega)
        have h6 := congrArg (List.take m) this
        rw [List.take_take, Nat.min_eq_left (by omega), ← List.map_take] at h6
        exact h6
      · refine ⟨rfl, rfl, rfl, by simp [grow, Sort.ahead], fun k hk hkn => ?_⟩
        have hne : k ≠ g := fun e => hkn (by rw [e]; exact List.mem_cons_self)
        exact ⟨hother k hk hne, hkn⟩
end Go.Vl
end
