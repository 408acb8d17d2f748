/-
  Paths in trees, without a program.
-/
import Derived.Test.YtpjngpegkoohgaaTree
set_option linter.unusedVariables false
set_option linter.unusedSimpArgs false
namespace Go.Vl
/-- nil stands for the row of no element -/
def NilL : List AV → List AV → Prop
  | [], [] => True
  | a :: as, b :: bs => (a = b ∨ (a = .lit (.slice none 0 0) ∧ ∃ k, b = .sl k [])) ∧ NilL as bs
  | _, _ => False
theorem NilL.rep {w : World} {N : List Nat} : ∀ {as bs : List AV} {row : List Value}, NilL as bs → RepL w N as row → RepL w N bs row
  | [], [], _, _, hr => hr
  | a :: as, b :: bs, row, h, hr => by
    simp only [RepL] at hr ⊢
    obtain ⟨v, vs, e, ⟨h1, h2, h3⟩, h4⟩ := hr
    refine ⟨v, vs, e, ?_, NilL.rep h.2 h4⟩
    rcases h.1 with rfl | ⟨rfl, k, rfl⟩
    · exact ⟨h1, h2, h3⟩
    · have hv0 : [v] = (Value.slice none 0 0).cells.toList := by simpa only [RepC] using h3
      have hv : [v] = [Value.slice none 0 0] := hv0
      obtain rfl := (List.cons.inj hv).1
      exact ⟨rfl, rfl, by simp only [RepC]; exact ⟨none, 0, rfl, Nat.le_refl _, by simp [maxLen], .inl trivial⟩⟩
  | [], _ :: _, _, h, _ => h.elim
  | _ :: _, [], _, h, _ => h.elim
theorem W.nils {x : Cx} {L : List (Tmp × Bool × AV)} {M : List ME} {R : Act → World → Prop} {t : Tmp} {g : Bool} {cs cs' : List AV} (h : look L t = some (g, .agg cs)) (hc : NilL cs cs') (next : W x ((t, g, .agg cs') :: L) M R) : W x L M R := by
  intro a w hs
  refine next a w ⟨hs.defers, hs.size, ?_, hs.mem, hs.fr, hs.old⟩
  intro u g' av' hl
  rw [look_cons] at hl
  by_cases e : t = u
  · subst e; rw [if_pos rfl] at hl; cases hl
    have h1 := hs.slots t g _ h
    refine ⟨fun hg => ?_, h1.2⟩
    obtain ⟨h2, h3⟩ := h1.1 hg
    refine ⟨h2, ?_⟩
    simp only [RepC] at h3 ⊢
    exact hc.rep h3
  · rw [if_neg e] at hl; exact hs.slots u g' av' hl
namespace Nd
/-- path p leads to d -/
def atP : List Nd → List Int → Nd → Prop
  | _, [], _ => False
  | l, k :: p, d => ∃ i : Nat, k = (i : Int) ∧ i < l.length ∧ ((p = [] ∧ l.getD i dflt = d) ∨ (p ≠ [] ∧ atP (l.getD i dflt).parts p d))
theorem mem_paths : ∀ (l : List Nd) (k : Nat) (p : List Int), p ∈ pthsFrom k l → ∃ (i : Nat) (r : List Int), p = ((k + i : Nat) : Int) :: r ∧ i < l.length ∧ (r = [] ∨ r ∈ pthsFrom 0 (l.getD i dflt).parts)
  | [], k, p, h => by simp [pthsFrom] at h
  | d :: l, k, p, h => by
    simp only [pthsFrom, List.mem_cons, List.mem_append, List.mem_map] at h
    rcases h with rfl | ⟨q, hq, rfl⟩ | h
    · exact ⟨0, [], by simp, by simp, .inl rfl⟩
    · exact ⟨0, q, by simp, by simp, .inr (by rw [pths_eq] at hq; exact hq)⟩
    · obtain ⟨i, r, h1, h2, h3⟩ := mem_paths l (k + 1) p h
      exact ⟨i + 1, r, by rw [h1]; congr 2; omega, by simp; omega, by simpa using h3⟩
theorem at_paths : ∀ (p : List Int) (l : List Nd), p ∈ pthsFrom 0 l → ∃ d, atP l p d
  | [], l, h => by obtain ⟨i, r, h1, _⟩ := mem_paths l 0 [] h; cases h1
  | k :: p, l, h => by
    obtain ⟨i, r, h1, h2, h3⟩ := mem_paths l 0 _ h
    rw [Nat.zero_add] at h1
    obtain ⟨rfl, rfl⟩ := List.cons.inj h1
    rcases h3 with rfl | h3
    · exact ⟨_, i, rfl, h2, .inl ⟨rfl, rfl⟩⟩
    · obtain ⟨d, hd⟩ := at_paths p _ h3
      refine ⟨d, i, rfl, h2, .inr ⟨?_, hd⟩⟩
      rintro rfl
      obtain ⟨i', r', h1', _⟩ := mem_paths _ 0 _ h3
      cases h1'
mutual
def wf : Nd → Prop
  | mk n _ _ p => (n = [] → p = []) ∧ wfs p
def wfs : List Nd → Prop
  | [] => True
  | d :: l => wf d ∧ wfs l
end
theorem wf_eq (d : Nd) : d.wf ↔ (d.name = [] → d.parts = []) ∧ wfs d.parts := by cases d; rfl
theorem wfs_mem {l : List Nd} (h : wfs l) : ∀ d ∈ l, wf d := by
  induction l with
  | nil => simp
  | cons e l ih =>
    intro d hd
    rcases List.mem_cons.1 hd with rfl | hd
    · exact h.1
    · exact ih h.2 d hd
theorem wfs_append {l m : List Nd} (h : wfs l) (h' : wfs m) : wfs (l ++ m) := by
  induction l with
  | nil => exact h'
  | cons e l ih => exact ⟨h.1, ih h.2⟩
theorem atP_sz : ∀ (p : List Int) (l : List Nd) (d : Nd), atP l p d → d.sz ≤ szs l
  | [], _, _, h => h.elim
  | k :: p, l, d, h => by
    obtain ⟨i, _, h2, h3⟩ := h
    have h4 := at_sz l i h2
    rcases h3 with ⟨_, rfl⟩ | ⟨_, h3⟩
    · exact h4
    · have := atP_sz p _ d h3
      rw [sz_eq] at h4
      omega
/-- one path stands ahead of another -/
def bfr : List Int → List Int → Bool
  | _, [] => false
  | [], _ :: _ => true
  | x :: a, y :: b => if x = y then bfr a b else decide (x < y)
theorem bfr_at : ∀ (a b : List Int) (i : Nat), i < a.length → i < b.length → a.take i = b.take i → a.getD i 0 ≠ b.getD i 0 → bfr a b = decide (a.getD i 0 < b.getD i 0)
  | [], _, _, h, _, _, _ => by simp at h
  | _ :: _, [], _, _, h, _, _ => by simp at h
  | x :: a, y :: b, 0, _, _, _, h => by
    have h' : x ≠ y := by simpa using h
    simp [bfr, h']
  | x :: a, y :: b, i + 1, h1, h2, h3, h4 => by
    simp only [List.take_succ_cons, List.cons.injEq] at h3
    obtain ⟨rfl, h3⟩ := h3
    have := bfr_at a b i (by simpa using h1) (by simpa using h2) h3 (by simpa using h4)
    simpa [bfr] using this
theorem bfr_end : ∀ (a b : List Int) (i : Nat), i ≤ a.length → i ≤ b.length → a.take i = b.take i → ¬ (i < a.length ∧ i < b.length) → bfr a b = decide (a.length < b.length)
  | a, [], i, _, h, _, _ => by cases a <;> simp [bfr]
  | [], y :: b, i, _, _, _, _ => by simp [bfr]
  | x :: a, y :: b, 0, _, _, _, h => by exfalso; apply h; simp
  | x :: a, y :: b, i + 1, h1, h2, h3, h4 => by
    simp only [List.take_succ_cons, List.cons.injEq] at h3
    obtain ⟨rfl, h3⟩ := h3
    have := bfr_end a b i (by simpa using h1) (by simpa using h2) h3 (by simpa using h4)
    simpa [bfr] using this
theorem bfr_lt (x y : Int) (a b : List Int) (h : x < y) : bfr (x :: a) (y :: b) = true := by
  have : x ≠ y := by omega
  simp [bfr, this, h]
mutual
theorem pths_ord : ∀ d : Nd, (pths d).Pairwise (fun a b => bfr a b = true)
  | mk _ _ _ p => pthsFrom_ord p 0
theorem pthsFrom_ord : ∀ (l : List Nd) (k : Nat), (pthsFrom k l).Pairwise (fun a b => bfr a b = true)
  | [], _ => List.Pairwise.nil
  | d :: l, k => by
    rw [pthsFrom, List.pairwise_cons, List.pairwise_append, List.pairwise_map]
    refine ⟨?_, ?_, pthsFrom_ord l (k + 1), ?_⟩
    · intro p hp
      rcases List.mem_append.1 hp with hp | hp
      · obtain ⟨q, hq, rfl⟩ := List.mem_map.1 hp
        rw [pths_eq] at hq
        obtain ⟨i, r, rfl, _⟩ := mem_paths _ 0 q hq
        simp [bfr]
      · obtain ⟨i, r, rfl, _⟩ := mem_paths _ (k + 1) p hp
        exact bfr_lt _ _ _ _ (by omega)
    · refine (pths_ord d).imp ?_
      intro a b h
      simpa [bfr] using h
    · intro p hp q hq
      obtain ⟨p', _, rfl⟩ := List.mem_map.1 hp
      obtain ⟨i, r, rfl, _⟩ := mem_paths _ (k + 1) q hq
      exact bfr_lt _ _ _ _ (by omega)
end
theorem ord_paths (l : List Nd) (i : Nat) (h : i < (pthsFrom 0 l).length) (h0 : 0 < i) : bfr ((pthsFrom 0 l).getD (i - 1) []) ((pthsFrom 0 l).getD i []) = true := by
  have := List.pairwise_iff_getElem.1 (pthsFrom_ord l 0) (i - 1) i (by omega) h (by omega)
  rw [List.getD_eq_getElem?_getD, List.getD_eq_getElem?_getD, List.getElem?_eq_getElem h, List.getElem?_eq_getElem (by omega)]
  exact this
end Nd
end Go.Vl
