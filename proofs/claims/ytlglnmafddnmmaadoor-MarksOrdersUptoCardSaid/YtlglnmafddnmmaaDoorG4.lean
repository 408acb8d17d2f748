/-
  Merged: MrkO Base WLib Pick WMrkL Drawn.
-/
import Derived.Test.YtlglnmafddnmmaaDoorG3
import Derived.Test.YtlglnmafddnmmaaDoorRows

section
set_option linter.unusedVariables false
set_option linter.unusedSimpArgs false
namespace Go.Vl
def rnav (r : Rn) : AV := .agg [.str r.1, .sl 1 (r.2.map AV.str)]
theorem list_eqG {α : Type} (z : α) (a b : List α) (h : a.length = b.length) (hs : ∀ j, j < a.length → a.getD j z = b.getD j z) : a = b := by
  refine List.ext_getElem h (fun j h1 h2 => ?_)
  have := hs j h1
  rw [List.getD_eq_getElem?_getD, List.getD_eq_getElem?_getD, List.getElem?_eq_getElem h1, List.getElem?_eq_getElem h2] at this
  exact this
theorem okc_rnavs (l : List Rn) : ∀ e ∈ l.map rnav, e.okc = true := by
  intro e he
  obtain ⟨r, _, rfl⟩ := List.mem_map.1 he
  rfl
theorem Ev.nils {x : Cx} {g : Bool} {L : List (Tmp × Bool × AV)} {M : List ME} {op : Op} {ty : TypeId} {cs cs' : List AV} (h : Ev x g L M op ty (.agg cs)) (hc : NilL cs cs') : Ev x g L M op ty (.agg cs') := fun a w hs hg => by
  obtain ⟨v, h1, h2, h3⟩ := h a w hs hg
  refine ⟨v, h1, h2, ?_⟩
  simp only [RepC] at h3 ⊢
  exact hc.rep h3
theorem Ev.subTake {x : Cx} {g : Bool} {L : List (Tmp × Bool × AV)} {M : List ME} {T ty : TypeId} {o1 o2 : Operand} {l : List UInt8} {n : Nat} (h1 : Ov g L o1 (.str l)) (hT : x.P.underlying T = some .string) (h2 : Ov g L o2 (.int (n : Int))) (hb : g = true → n ≤ l.length) : Ev x g L M (.slice T o1 none (some o2) none) ty (.str (l.take n)) := by
  have h := Ev.subs (x := x) (g := g) (L := L) (M := M) (ty := ty) (lo := none) (hi := some o2) (i := 0) (j := (n : Int)) h1 hT rfl h2 (fun hg => ⟨by decide, by omega, by have := hb hg; omega⟩)
  exact h
theorem Ev.subDrop {x : Cx} {g : Bool} {L : List (Tmp × Bool × AV)} {M : List ME} {T ty : TypeId} {o1 o2 : Operand} {l : List UInt8} {n : Nat} (h1 : Ov g L o1 (.str l)) (hT : x.P.underlying T = some .string) (h2 : Ov g L o2 (.int (n : Int))) (hb : g = true → n ≤ l.length) : Ev x g L M (.slice T o1 (some o2) none none) ty (.str (l.drop n)) := by
  have h := Ev.subs (x := x) (g := g) (L := L) (M := M) (ty := ty) (lo := some o2) (hi := none) (i := (n : Int)) (j := (l.length : Int)) h1 hT h2 rfl (fun hg => ⟨by omega, by have := hb hg; omega, by omega⟩)
  rw [show (l.length : Int).toNat = l.length from rfl, List.take_length] at h
  exact h
namespace Mrk
theorem inG_prog (s : Rn) (d : Nat) (m : List UInt8) : ((((s.2.map AV.str).length : Int) == (d : Int)) || !(s.2.getD d [] == m)) = !(inG d m s) := by
  have e : (((s.2.map AV.str).length : Int) == (d : Int)) = (s.2.length == d) := by
    rw [List.length_map]
    cases h : s.2.length == d
    · rw [beq_eq_false_iff_ne] at h ⊢; omega
    · rw [beq_iff_eq] at h ⊢; omega
  rw [e]
  unfold inG
  cases s.2.length == d <;> cases s.2.getD d [] == m <;> rfl
theorem wt_take (d : Nat) (l : List Rn) (k : Nat) : wt d (l.take k) ≤ wt d l := by
  have h := wt_append d (l.take k) (l.drop k)
  rw [List.take_append_drop] at h; omega
theorem wt_drop (d : Nat) (l : List Rn) (k : Nat) : wt d (l.drop k) ≤ wt d l := by
  have h := wt_append d (l.take k) (l.drop k)
  rw [List.take_append_drop] at h; omega
theorem any_has (l : List (List UInt8)) (m : List UInt8) : (l.any fun s => m == s) = l.contains m := List.contains_eq_any_beq.symm
theorem mks_take (ms : List (List UInt8)) (r : Rn) (j : Nat) (h : j < ms.length) : mks (ms.take (j + 1)) r = mks (ms.take j) r ++ (if r.2.contains (ms.getD j []) then [ms.getD j []] else []) := by
  unfold mks
  rw [take_getDG [] ms j h, List.filter_append]
  congr 1
  simp only [List.filter_cons, List.filter_nil]
theorem mks_len (ms : List (List UInt8)) (r : Rn) : (mks ms r).length ≤ ms.length := List.length_filter_le _ _
theorem norm_take (ms : List (List UInt8)) (l : List Rn) (i : Nat) (h : i < l.length) : norm ms (l.take (i + 1)) = push (norm ms (l.take i)) ((l.getD i ([], [])).1, mks ms (l.getD i ([], []))) := by
  rw [take_getDG ([], []) l i h, norm_snoc]
theorem norm_ml (ms : List (List UInt8)) (l : List Rn) : ∀ x ∈ norm ms l, x.2.length ≤ ms.length := fun x hx => by
  obtain ⟨q, hq⟩ := norm_mks ms l x hx
  rw [hq]; exact List.length_filter_le _ _
theorem push_len (out : List Rn) (r : Rn) : (push out r).length ≤ out.length + 1 := by
  rcases nil_or_snoc out with rfl | ⟨X, p, rfl⟩
  · rw [push_zero]; split <;> simp
  · rw [push_snoc]
    split
    · simp
    · split <;> simp
theorem norm_len (ms : List (List UInt8)) (l : List Rn) : (norm ms l).length ≤ l.length := by
  have key : ∀ n (l : List Rn), l.length = n → (norm ms l).length ≤ n := by
    intro n
    induction n with
    | zero => intro l hl; rw [List.eq_nil_of_length_eq_zero hl]; exact Nat.le_refl _
    | succ n ih =>
      intro l hl
      rcases nil_or_snoc l with rfl | ⟨X, p, rfl⟩
      · cases hl
      · rw [norm_snoc]
        have h1 := push_len (norm ms X) (p.1, mks ms p)
        have h2 := ih X (by simpa using hl)
        omega
  exact key _ l rfl
theorem getD_last (X : List Rn) (p : Rn) : (X ++ [p]).getD ((X ++ [p]).length - 1) ([], []) = p := by
  rw [List.length_append, List.length_singleton, Nat.add_sub_cancel, List.getD_eq_getElem?_getD, List.getElem?_append_right (Nat.le_refl _), Nat.sub_self]; rfl
/-- the last run grows -/
theorem push_grow (out : List Rn) (r : Rn) (h0 : 0 < out.length) (h : (out.getD (out.length - 1) ([], [])).2 = r.2) :
    (out.map rnav).set (out.length - 1) (.agg [.str ((out.getD (out.length - 1) ([], [])).1 ++ r.1), .sl 1 ((out.getD (out.length - 1) ([], [])).2.map AV.str)]) = (push out r).map rnav := by
  rcases nil_or_snoc out with rfl | ⟨X, p, rfl⟩
  · simp at h0
  · rw [getD_last] at h ⊢
    rw [push_snoc, if_pos h, List.map_append, List.map_append, List.length_append, List.length_singleton, Nat.add_sub_cancel]
    rw [show X.length = (X.map rnav).length from (List.length_map ..).symm, List.set_append_right _ _ (Nat.le_refl _), Nat.sub_self]
    rfl
theorem push_not (out : List Rn) (r : Rn) (h : ¬ (0 < out.length ∧ (out.getD (out.length - 1) ([], [])).2 = r.2)) : push out r = if r.1 = [] then out else out ++ [r] := by
  rcases nil_or_snoc out with rfl | ⟨X, p, rfl⟩
  · rfl
  · rw [getD_last] at h
    rw [push_snoc, if_neg fun e => h ⟨by simp, e⟩]
theorem tx_mem {l : List Rn} {r : Rn} (h : r ∈ l) : r.1.length ≤ (tx l).length := by
  induction l with
  | nil => cases h
  | cons x l ih =>
    have e : tx (x :: l) = x.1 ++ tx l := by simp [tx]
    rw [e, List.length_append]
    rcases List.mem_cons.1 h with rfl | h
    · omega
    · have := ih h; omega
theorem tx_take (l : List Rn) (i : Nat) : (tx (l.take i)).length ≤ (tx l).length := by
  have h := tx_append (l.take i) (l.drop i)
  rw [List.take_append_drop] at h
  rw [h, List.length_append]; omega
theorem tx_snoc (l : List Rn) (i : Nat) (h : i < l.length) : tx (l.take (i + 1)) = tx (l.take i) ++ (l.getD i ([], [])).1 := by
  rw [take_getDG ([], []) l i h, tx_append]
  congr 1
  simp [tx]
theorem getD_mem_last {out : List Rn} (h : 0 < out.length) : out.getD (out.length - 1) ([], []) ∈ out := getD_memG ([], []) out _ (by omega)
/-! ### nesting -/
theorem nestF_irrel : ∀ (f g d : Nat) (l : List Rn), (∀ r ∈ l, d ≤ r.2.length) → wt d l < f → wt d l < g → nestF f d l = nestF g d l
  | 0, g, d, l, _, hf, _ => by omega
  | f + 1, 0, d, l, _, _, hg => by omega
  | f + 1, g + 1, d, [], _, _, _ => by rw [nestF, nestF]
  | f + 1, g + 1, d, r :: l, hw, hf, hg => by
    have hwt : wt d (r :: l) = r.2.length - d + 1 + wt d l := by simp [wt]
    have hr := hw r List.mem_cons_self
    rw [nestF, nestF]
    split
    · rw [nestF_irrel f g d l (fun x hx => hw x (List.mem_cons_of_mem _ hx)) (by omega) (by omega)]
    · rename_i hd
      obtain ⟨m, hmd⟩ : ∃ m, r.2.getD d [] = m := ⟨_, rfl⟩
      rw [hmd]
      obtain ⟨g1, g2, g3⟩ := grp_facts (l := l) hmd (by omega)
      have hsplit := List.takeWhile_append_dropWhile (p := inG d m) (l := r :: l)
      have hGlen : ∀ x ∈ (r :: l).takeWhile (inG d m), d < x.2.length := fun x hx => by
        have h1 := g2 x hx
        have h2 := hw x h1.1
        omega
      have hw1 := wt_lt hGlen g1
      have hw2 := wt_append d ((r :: l).takeWhile (inG d m)) ((r :: l).dropWhile (inG d m))
      rw [hsplit] at hw2
      rw [nestF_irrel f g (d + 1) _ (fun x hx => hGlen x hx) (by omega) (by omega), nestF_irrel f g d _ (fun x hx => hw x (g3 x hx)) (by omega) (by omega)]
/-- runs that are nested, of which d marks are done -/
def nst (d : Nat) (l : List Rn) : List Nd := nestF (wt d l + 1) d l
theorem nst_nil (d : Nat) : nst d [] = [] := by unfold nst; rw [nestF]
theorem nst_text {d : Nat} {r : Rn} {l : List Rn} (hw : ∀ x ∈ r :: l, d ≤ x.2.length) (h : r.2.length = d) : nst d (r :: l) = Nd.mk [] [] r.1 [] :: nst d l := by
  have hwt : wt d (r :: l) = r.2.length - d + 1 + wt d l := by simp [wt]
  unfold nst
  rw [nestF, if_pos h, nestF_irrel _ (wt d l + 1) d l (fun x hx => hw x (List.mem_cons_of_mem _ hx)) (by omega) (by omega)]
theorem nst_elem {d : Nat} {r : Rn} {l : List Rn} (hw : ∀ x ∈ r :: l, d ≤ x.2.length) (h : r.2.length ≠ d) :
    nst d (r :: l) = Nd.mk (r.2.getD d []) [] [] (nst (d + 1) ((r :: l).takeWhile (inG d (r.2.getD d [])))) :: nst d ((r :: l).dropWhile (inG d (r.2.getD d []))) := by
  have hr := hw r List.mem_cons_self
  have hwt : wt d (r :: l) = r.2.length - d + 1 + wt d l := by simp [wt]
  unfold nst
  rw [nestF, if_neg h]
  obtain ⟨m, hmd⟩ : ∃ m, r.2.getD d [] = m := ⟨_, rfl⟩
  rw [hmd]
  obtain ⟨g1, g2, g3⟩ := grp_facts (l := l) hmd (by omega)
  have hsplit := List.takeWhile_append_dropWhile (p := inG d m) (l := r :: l)
  have hGlen : ∀ x ∈ (r :: l).takeWhile (inG d m), d < x.2.length := fun x hx => by
    have h1 := g2 x hx
    have h2 := hw x h1.1
    omega
  have hw1 := wt_lt hGlen g1
  have hw2 := wt_append d ((r :: l).takeWhile (inG d m)) ((r :: l).dropWhile (inG d m))
  rw [hsplit] at hw2
  have hG1 : wt (d + 1) ((r :: l).takeWhile (inG d m)) < wt d (r :: l) := by omega
  have hR : wt d ((r :: l).dropWhile (inG d m)) < wt d (r :: l) := by omega
  rw [nestF_irrel _ (wt (d + 1) ((r :: l).takeWhile (inG d m)) + 1) (d + 1) _ (fun x hx => hGlen x hx) (by omega) (by omega), nestF_irrel _ (wt d ((r :: l).dropWhile (inG d m)) + 1) d _ (fun x hx => hw x (g3 x hx)) (by omega) (by omega)]
/-- where the first one lies that is not of the kind -/
theorem idx_while {α : Type} (p : α → Bool) : ∀ (l : List α), l.takeWhile p = l.take (if idxI (fun x => !(p x)) l < 0 then l.length else (idxI (fun x => !(p x)) l).toNat) ∧ l.dropWhile p = l.drop (if idxI (fun x => !(p x)) l < 0 then l.length else (idxI (fun x => !(p x)) l).toNat)
  | [] => ⟨by simp, by simp⟩
  | a :: l => by
    have ih := idx_while p l
    have hge := idxI_ge (fun x => !(p x)) l
    rw [idxI]
    cases hp : p a with
    | false => simp [hp]
    | true =>
      simp only [Bool.not_true, Bool.false_eq_true, if_false, List.takeWhile_cons, List.dropWhile_cons, hp, if_true]
      rcases Decidable.em (idxI (fun x => !(p x)) l < 0) with h | h
      · rw [if_pos h, if_pos (by decide)]
        rw [if_pos h] at ih
        rw [ih.1, ih.2]
        simp
      · rw [if_neg h] at ih
        rw [if_neg h, if_neg (by omega), show (idxI (fun x => !(p x)) l + 1).toNat = (idxI (fun x => !(p x)) l).toNat + 1 from by omega, List.take_succ_cons, List.drop_succ_cons, ih.1, ih.2]
        exact ⟨rfl, rfl⟩
/-- the group of the first run -/
theorem grp_prog {d : Nat} {r : Rn} {l : List Rn} {m : List UInt8} (hmd : r.2.getD d [] = m) (hlt : d < r.2.length) (hw : ∀ x ∈ r :: l, d ≤ x.2.length) {k : Nat} (hk : (if idxI (fun s => !(inG d m s)) (r :: l) < 0 then (r :: l).length else (idxI (fun s => !(inG d m s)) (r :: l)).toNat) = k) :
    (r :: l).takeWhile (inG d m) = (r :: l).take k ∧ (r :: l).dropWhile (inG d m) = (r :: l).drop k ∧ 0 < k ∧ k ≤ (r :: l).length ∧ (∀ x ∈ (r :: l).take k, d + 1 ≤ x.2.length) ∧ wt (d + 1) ((r :: l).take k) < wt d (r :: l) := by
  have h := idx_while (inG d m) (r :: l)
  rw [hk] at h
  obtain ⟨g1, g2, g3⟩ := grp_facts (l := l) hmd hlt
  rw [h.1] at g1 g2
  have hlt' := idxI_lt (fun s => !(inG d m s)) (r :: l)
  have hge := idxI_ge (fun s => !(inG d m s)) (r :: l)
  have hGlen : ∀ x ∈ (r :: l).take k, d < x.2.length := fun x hx => by
    have h1 := g2 x hx
    have h2 := hw x h1.1
    omega
  refine ⟨h.1, h.2, ?_, ?_, hGlen, ?_⟩
  · rcases Nat.eq_zero_or_pos k with e | e
    · rw [e] at g1; simp at g1
    · exact e
  · rw [← hk]; split <;> omega
  · have h1 := wt_lt hGlen g1
    have h2 := wt_take d (r :: l) k
    omega
/-! ### laying flat -/
mutual
/-- a text, or an element of a mark: with nothing else -/
def okn (ms : List (List UInt8)) : Nd → Bool
  | .mk n a t ps => a.isEmpty && if n = [] then ps.isEmpty else t.isEmpty && ms.contains n && okns ms ps
def okns (ms : List (List UInt8)) : List Nd → Bool
  | [] => true
  | d :: l => okn ms d && okns ms l
end
theorem okn_eq (ms : List (List UInt8)) (d : Nd) : okn ms d = (d.attrs.isEmpty && if d.name = [] then d.parts.isEmpty else d.text.isEmpty && ms.contains d.name && okns ms d.parts) := by
  cases d; rw [okn]; rfl
theorem okns_mem {ms : List (List UInt8)} : ∀ {l : List Nd}, okns ms l = true → ∀ d ∈ l, okn ms d = true
  | [], _, d, hd => by cases hd
  | x :: l, h, d, hd => by
    rw [okns, Bool.and_eq_true] at h
    rcases List.mem_cons.1 hd with rfl | hd
    · exact h.1
    · exact okns_mem h.2 d hd
theorem okns_nest : ∀ (f d : Nat) (l : List Rn) (ms : List (List UInt8)), (∀ r ∈ l, ∀ m ∈ r.2, m ≠ [] ∧ m ∈ ms) → (∀ r ∈ l, d ≤ r.2.length) → okns ms (nestF f d l) = true
  | 0, d, l, ms, _, _ => by rw [nestF, okns]
  | f + 1, d, [], ms, _, _ => by rw [nestF, okns]
  | f + 1, d, r :: l, ms, hm, hw => by
    have hr := hw r List.mem_cons_self
    rw [nestF]
    split
    · rw [okns, okns_nest f d l ms (fun x hx => hm x (List.mem_cons_of_mem _ hx)) (fun x hx => hw x (List.mem_cons_of_mem _ hx)), okn, if_pos rfl]; rfl
    · rename_i hd
      obtain ⟨m, hmd⟩ : ∃ m, r.2.getD d [] = m := ⟨_, rfl⟩
      rw [hmd]
      have hlt : d < r.2.length := by omega
      have hmr : m ∈ r.2 := by rw [← hmd, List.getD_eq_getElem?_getD, List.getElem?_eq_getElem hlt]; exact List.getElem_mem hlt
      obtain ⟨hm1, hm2⟩ := hm r List.mem_cons_self m hmr
      obtain ⟨g1, g2, g3⟩ := grp_facts (l := l) hmd hlt
      rw [okns, okn, if_neg hm1, okns_nest f (d + 1) _ ms (fun x hx => hm x (g2 x hx).1) (fun x hx => by have h1 := g2 x hx; have h2 := hw x h1.1; omega), okns_nest f d _ ms (fun x hx => hm x (g3 x hx)) (fun x hx => hw x (g3 x hx))]
      simp [hm2]
theorem flatL_append (w : List (List UInt8)) (a b : List Nd) : flatL w (a ++ b) = flatL w a ++ flatL w b := by
  induction a with
  | nil => rw [flatL]; rfl
  | cons d a ih => rw [List.cons_append, flatL, flatL, ih, List.append_assoc]
theorem flatL_take (w : List (List UInt8)) (l : List Nd) (i : Nat) (h : i < l.length) : flatL w (l.take (i + 1)) = flatL w (l.take i) ++ flat1 w (l.getD i Nd.dflt) := by
  rw [take_getDG Nd.dflt l i h, flatL_append]
  congr 1
  rw [flatL, flatL, List.append_nil]
theorem flat1_eq (w : List (List UInt8)) (d : Nd) : flat1 w d = if d.name = [] then [(d.text, w)] else flatL (w ++ [d.name]) d.parts := by cases d; rw [flat1]; rfl
theorem flatL_len : ∀ (n : Nat) (l : List Nd) (w : List (List UInt8)), Nd.szs l ≤ n → (flatL w l).length ≤ Nd.szs l
  | n, [], w, _ => by rw [flatL]; exact Nat.zero_le _
  | 0, d :: l, w, h => by have := Nd.sz_eq d; rw [Nd.szs] at h; omega
  | n + 1, d :: l, w, h => by
    have hs := Nd.sz_eq d
    rw [Nd.szs] at h ⊢
    rw [flatL, List.length_append, flat1_eq]
    have h2 := flatL_len n l w (by omega)
    split
    · simp only [List.length_singleton]; omega
    · have h1 := flatL_len n d.parts (w ++ [d.name]) (by omega)
      omega
/-! ### what is drawn -/
def three : List (List UInt8) := [[98], [101, 109], [105]]
structure drR (r : Rn) : Prop where
  text : r.1.length ≤ 2
  few : r.2.length ≤ 3
  marks : ∀ m ∈ r.2, m ∈ three
def orders : List (List (List UInt8)) := [[[98], [101, 109], [105]], [[105], [98], [101, 109]], [[101, 109], [105], [98]], [[105], [101, 109], [98]]]
def order (z : Int) : List (List UInt8) := orders.getD (z % 4).toNat []
def sav (l : List (List UInt8)) : AV := .sl 1 (l.map AV.str)
theorem order_at (z : Int) : (orders.map sav)[(z % 4).toNat]? = some (sav (order z)) ∧ order z ∈ orders := by
  have h1 := Int.emod_nonneg z (by decide : (4 : Int) ≠ 0)
  have h2 := Int.emod_lt_of_pos z (by decide : (0 : Int) < 4)
  have hl : (z % 4).toNat < orders.length := by show _ < 4; omega
  exact ⟨getD_mapG sav [] orders _ hl, getD_memG [] orders _ hl⟩
theorem tx_dr {l : List Rn} (h : ∀ r ∈ l, drR r) : (tx l).length ≤ 2 * l.length := by
  induction l with
  | nil => simp [tx]
  | cons r l ih =>
    have e : tx (r :: l) = r.1 ++ tx l := by simp [tx]
    have h1 := (h r List.mem_cons_self).text
    have h2 := ih fun x hx => h x (List.mem_cons_of_mem _ hx)
    rw [e, List.length_append, List.length_cons]; omega
/-- where a name lies among the first marks -/
theorem at_step {ms : List (List UInt8)} (hn : ms.Nodup) {k : Nat} (hk : k < ms.length) (nm : List UInt8) :
    (if (ms.take (k + 1)).contains nm then (ms.idxOf nm : Int) else -1) = if ms.getD k [] = nm then (k : Int) else if (ms.take k).contains nm then (ms.idxOf nm : Int) else -1 := by
  have hg : ms.getD k [] = ms[k] := by rw [List.getD_eq_getElem?_getD, List.getElem?_eq_getElem hk]; rfl
  rw [take_getDG [] ms k hk, hg]
  simp only [List.contains_eq_mem, List.mem_append, List.mem_singleton, decide_eq_true_eq]
  by_cases h : ms[k] = nm
  · rw [if_pos (.inr h.symm), if_pos h, ← h, List.Nodup.idxOf_getElem hn]
  · rw [if_neg h]
    by_cases h2 : nm ∈ ms.take k
    · rw [if_pos (.inl h2), if_pos h2]
    · rw [if_neg (by rintro (h3 | h3); exact h2 h3; exact h h3.symm), if_neg h2]
theorem nbL_cons (ms : List (List UInt8)) (prev : List UInt8) (d : Nd) (l : List Nd) : nbL ms prev (d :: l) = (nb1 ms prev d && nbL ms d.name l) := by rw [nbL]
theorem nb1_eq (ms : List (List UInt8)) (prev : List UInt8) (d : Nd) : nb1 ms prev d = (d.name == [] || (ms.contains d.name && !(prev == d.name) && !(d.parts.length == 0) && nbL (ms.drop (ms.idxOf d.name + 1)) [] d.parts)) := by cases d; rw [nb1]; rfl
/-- the name ahead of place i -/
def pv (l : List Nd) (i : Nat) : List UInt8 := if i = 0 then [] else (l.getD (i - 1) Nd.dflt).name
theorem nbL_at {ms : List (List UInt8)} {l : List Nd} {i : Nat} (hi : i < l.length) (h : nbL ms (pv l i) (l.drop i) = true) : nb1 ms (pv l i) (l.getD i Nd.dflt) = true ∧ nbL ms (pv l (i + 1)) (l.drop (i + 1)) = true := by
  rw [drop_getDG Nd.dflt l i hi, nbL_cons, Bool.and_eq_true] at h
  refine ⟨h.1, ?_⟩
  rw [show pv l (i + 1) = (l.getD i Nd.dflt).name from if_neg (Nat.succ_ne_zero i)]
  exact h.2
theorem nb_no {l : List Nd} {i : Nat} {e0 d : Nd} {ix : Nat} {m : Nat} (hpv : pv l i = if i = 0 then [] else e0.name) (hb2 : (pv l i == d.name) = false) (hb3 : (d.parts.length == 0) = false) (hm : m = d.parts.length) :
    (decide ((ix : Int) < 0) || (decide ((0 : Int) < (i : Int)) && (e0.name == d.name)) || ((m : Int) == 0) || !true) = false := by
  have h1 : decide ((ix : Int) < 0) = false := decide_eq_false (by omega)
  have h2 : (decide ((0 : Int) < (i : Int)) && (e0.name == d.name)) = false := by
    rw [hpv] at hb2
    by_cases h : i = 0
    · subst h; rfl
    · rw [if_neg h] at hb2; rw [hb2, Bool.and_false]
  have h3 : ((m : Int) == 0) = false := by
    rw [beq_eq_false_iff_ne] at hb3 ⊢; omega
  rw [h1, h2, h3]; rfl
/-! ### marks that may be -/
def odd : List (List UInt8) := [[98, 114], [104, 114], [105, 109, 103], [105, 110, 112, 117, 116], [115, 99, 114, 105, 112, 116], [115, 116, 121, 108, 101], [116, 101, 120, 116, 97, 114, 101, 97], [116, 105, 116, 108, 101]]
def oddT : List UInt8 := [98, 114, 32, 104, 114, 32, 105, 109, 103, 32, 105, 110, 112, 117, 116, 32, 115, 99, 114, 105, 112, 116, 32, 115, 116, 121, 108, 101, 32, 116, 101, 120, 116, 97, 114, 101, 97, 32, 116, 105, 116, 108, 101]
def badM (m : List UInt8) : Bool := !(nameOk m) || odd.any fun s => m == s
structure good (ms : List (List UInt8)) : Prop where
  len : ms.length ≤ 4
  names : ms.any badM = false
  one : ∀ i, i < ms.length → ((ms.take i).any fun s => ms.getD i [] == s) = false
  short : ∀ m ∈ ms, m.length ≤ 1000
theorem good_of {ms : List (List UInt8)} (h1 : ms.length ≤ 4) (h2 : ms.any badM = false) (h3 : ((List.range ms.length).all fun i => !((ms.take i).any fun s => ms.getD i [] == s)) = true) (h4 : (ms.all fun m => decide (m.length ≤ 1000)) = true) : good ms :=
  ⟨h1, h2, fun i hi => by have := List.all_eq_true.1 h3 i (List.mem_range.2 hi); simpa using this, fun m hm => of_decide_eq_true (List.all_eq_true.1 h4 m hm)⟩
theorem good_ne {ms : List (List UInt8)} (h : good ms) : ∀ m ∈ ms, m ≠ [] := by
  intro m hm e
  subst e
  have h1 := h.names
  rw [List.any_eq_false] at h1
  exact h1 [] hm (by decide)
theorem good_nodup {ms : List (List UInt8)} (h : good ms) : ms.Nodup := by
  rw [List.nodup_iff_pairwise_ne, List.pairwise_iff_getElem]
  intro i j hi hj hij e
  have h1 := h.one j hj
  rw [List.any_eq_false] at h1
  refine h1 ms[i] ?_ ?_
  · rw [List.mem_iff_getElem]
    exact ⟨i, by rw [List.length_take]; omega, List.getElem_take ..⟩
  · rw [List.getD_eq_getElem?_getD, List.getElem?_eq_getElem hj]
    simp [e]
theorem size_nest : ∀ (f d : Nat) (l : List Rn), wt d l < f → (∀ r ∈ l, d ≤ r.2.length) → Nd.szs (nestF f d l) ≤ wt d l ∧ Nd.tszs (nestF f d l) ≤ (tx l).length
  | 0, d, l, hf, _ => by omega
  | f + 1, d, [], hf, _ => by rw [nestF]; exact ⟨Nat.zero_le _, Nat.zero_le _⟩
  | f + 1, d, r :: l, hf, hw => by
    have hwt : wt d (r :: l) = r.2.length - d + 1 + wt d l := by simp [wt]
    have htx : tx (r :: l) = r.1 ++ tx l := by simp [tx]
    have hr := hw r List.mem_cons_self
    have z1 : Nd.szs ([] : List Nd) = 0 := rfl
    have z2 : Nd.tszs ([] : List Nd) = 0 := rfl
    rw [nestF]
    split
    · obtain ⟨h1, h2⟩ := size_nest f d l (by omega) (fun x hx => hw x (List.mem_cons_of_mem _ hx))
      rw [Nd.szs, Nd.tszs, Nd.sz_eq, Nd.tsz_eq, htx, List.length_append]
      show 1 + 0 + Nd.szs [] + _ ≤ _ ∧ r.1.length + Nd.tszs [] + _ ≤ _
      omega
    · rename_i hd
      obtain ⟨m, hmd⟩ : ∃ m, r.2.getD d [] = m := ⟨_, rfl⟩
      rw [hmd]
      obtain ⟨g1, g2, g3⟩ := grp_facts (l := l) hmd (by omega)
      have hsplit := List.takeWhile_append_dropWhile (p := inG d m) (l := r :: l)
      have hGlen : ∀ x ∈ (r :: l).takeWhile (inG d m), d < x.2.length := fun x hx => by
        have h1 := g2 x hx
        have h2 := hw x h1.1
        omega
      have hw1 := wt_lt hGlen g1
      have hw2 := wt_append d ((r :: l).takeWhile (inG d m)) ((r :: l).dropWhile (inG d m))
      have hw3 := tx_append ((r :: l).takeWhile (inG d m)) ((r :: l).dropWhile (inG d m))
      rw [hsplit] at hw2 hw3
      obtain ⟨h1, h2⟩ := size_nest f (d + 1) ((r :: l).takeWhile (inG d m)) (by omega) (fun x hx => hGlen x hx)
      obtain ⟨h3, h4⟩ := size_nest f d ((r :: l).dropWhile (inG d m)) (by omega) (fun x hx => hw x (g3 x hx))
      rw [Nd.szs, Nd.tszs, Nd.sz_eq, Nd.tsz_eq, hw3, List.length_append]
      show 1 + 0 + Nd.szs (nestF f (d + 1) _) + _ ≤ _ ∧ 0 + Nd.tszs (nestF f (d + 1) _) + _ ≤ _
      omega
theorem wt_le_of {d c : Nat} {l : List Rn} (h : ∀ r ∈ l, r.2.length ≤ c) : wt d l ≤ (c + 1) * l.length := by
  induction l with
  | nil => simp [wt]
  | cons r l ih =>
    have e : wt d (r :: l) = r.2.length - d + 1 + wt d l := by simp [wt]
    have h1 := h r List.mem_cons_self
    have h2 := ih fun x hx => h x (List.mem_cons_of_mem _ hx)
    rw [e, List.length_cons, Nat.mul_succ]; omega
/-- all that is said of nested runs -/
structure facts (ms : List (List UInt8)) (l : List Rn) : Prop where
  len : (norm ms l).length ≤ l.length
  few : ∀ r ∈ norm ms l, r.2.length ≤ ms.length
  inn : ∀ r ∈ norm ms l, ∀ m ∈ r.2, m ∈ ms
  ok : okns ms (nst 0 (norm ms l)) = true
  flat : flatL [] (nst 0 (norm ms l)) = norm ms l
  by_ : nbL ms [] (nst 0 (norm ms l)) = true
  apart : Nd.apts false (nst 0 (norm ms l)) = true
  words : Nd.wds (nst 0 (norm ms l)) = tx l
  size : Nd.szs (nst 0 (norm ms l)) ≤ (ms.length + 1) * l.length
  tsize : Nd.tszs (nst 0 (norm ms l)) ≤ (tx l).length
theorem facts_of {ms : List (List UInt8)} (hg : good ms) (l : List Rn) : facts ms l := by
  have hin : ∀ r ∈ norm ms l, ∀ m ∈ r.2, m ∈ ms := fun r hr m hm => by
    obtain ⟨q, hq⟩ := norm_mks ms l r hr
    rw [hq] at hm
    exact (List.mem_filter.1 hm).1
  have hne : ∀ r ∈ norm ms l, ∀ m ∈ r.2, m ≠ [] := fun r hr m hm => good_ne hg m (hin r hr m hm)
  have hw : ∀ r ∈ norm ms l, 0 ≤ r.2.length := fun r _ => Nat.zero_le _
  have hw2 : ∀ r ∈ norm ms l, r.2.take 0 = [] ∧ 0 ≤ r.2.length := fun r _ => ⟨rfl, Nat.zero_le _⟩
  have hlt : wt 0 (norm ms l) < wt 0 (norm ms l) + 1 := Nat.lt_succ_self _
  obtain ⟨s1, s2⟩ := size_nest _ 0 (norm ms l) hlt hw
  have hlen := norm_len ms l
  have hml := norm_ml ms l
  refine ⟨hlen, hml, hin, ?_, ?_, ?_, ?_, ?_, ?_, ?_⟩
  · exact okns_nest _ 0 _ ms (fun r hr m hm => ⟨hne r hr m hm, hin r hr m hm⟩) hw
  · exact flat_nest _ 0 _ [] hlt hw2 hne
  · refine nb_nest _ 0 _ [] ms [] hlt (fun r hr => ⟨rfl, Nat.zero_le _, ?_⟩) hne (good_nodup hg) (fun r hr => ?_)
    · obtain ⟨q, hq⟩ := norm_mks ms l r hr
      rw [List.drop_zero, hq]; exact List.filter_sublist
    · have hrm := List.mem_of_mem_head? hr
      rcases Nat.eq_zero_or_pos r.2.length with h | h
      · exact .inl h
      · right
        rw [List.getD_eq_getElem?_getD, List.getElem?_eq_getElem h]
        exact hne r hrm _ (List.getElem_mem h)
  · exact apts_nest _ 0 _ [] false hlt hw2 hne (norm_nrm ms l) (fun h => by cases h)
  · have h := wds_nest _ 0 (norm ms l) hlt hw
    rw [tx_norm] at h; exact h
  · have h1 := wt_le_of (d := 0) hml
    have h2 := Nat.mul_le_mul_left (ms.length + 1) hlen
    exact Nat.le_trans s1 (Nat.le_trans h1 h2)
  · rw [tx_norm] at s2; exact s2
theorem good_order {ms : List (List UInt8)} (h : ms ∈ orders) : good ms ∧ (∀ m ∈ three, m ∈ ms) ∧ ms.length = 3 ∧ ∀ m ∈ ms, m ∈ three := by
  simp only [orders, List.mem_cons, List.not_mem_nil, or_false] at h
  rcases h with rfl | rfl | rfl | rfl <;> exact ⟨good_of (by decide) (by decide +kernel) (by decide +kernel) (by decide), by decide, rfl, by decide⟩
/-! ### runs that are cut in two -/
def cutk (c : Int) (j : Nat) (r : Rn) : Nat := (IntKind.i64.wrap (c + (j : Int)) % ((r.1.length : Int) + 1)).toNat
def cut1 (c : Int) (j : Nat) (r : Rn) : List UInt8 × List UInt8 × List (List UInt8) := (r.1.take (cutk c j r), r.1.drop (cutk c j r), r.2)
def cuts (rs : List Rn) (c : Int) (i : Nat) : List (List UInt8 × List UInt8 × List (List UInt8)) := (List.range i).map fun j => cut1 c j (rs.getD j ([], []))
def parts (rs : List Rn) (c : Int) (i : Nat) : List Rn := (cuts rs c i).flatMap fun x => [(x.1, x.2.2), (x.2.1, x.2.2)]
theorem parts_snoc (rs : List Rn) (c : Int) (i : Nat) : parts rs c (i + 1) = parts rs c i ++ [((rs.getD i ([], [])).1.take (cutk c i (rs.getD i ([], []))), (rs.getD i ([], [])).2), ((rs.getD i ([], [])).1.drop (cutk c i (rs.getD i ([], []))), (rs.getD i ([], [])).2)] := by
  unfold parts cuts
  rw [List.range_succ, List.map_append, List.flatMap_append]
  rfl
theorem cuts_all (rs : List Rn) (c : Int) : ∀ i, i ≤ rs.length → (cuts rs c i).map (fun x => (x.1 ++ x.2.1, x.2.2)) = rs.take i := by
  intro i
  induction i with
  | zero => intro _; simp [cuts]
  | succ i ih =>
    intro h
    have h1 := ih (by omega)
    rw [take_getDG ([], []) rs i (by omega), ← h1]
    unfold cuts
    rw [List.range_succ, List.map_append, List.map_append]
    congr 1
    show [((rs.getD i ([], [])).1.take _ ++ (rs.getD i ([], [])).1.drop _, (rs.getD i ([], [])).2)] = _
    rw [List.take_append_drop]
theorem parts_norm (b : List (List UInt8)) (rs : List Rn) (c : Int) : norm b (parts rs c rs.length) = norm b rs := by
  unfold parts
  rw [norm_cut, cuts_all rs c _ (Nat.le_refl _), List.take_length]
theorem parts_len (rs : List Rn) (c : Int) : ∀ i, (parts rs c i).length = 2 * i := by
  intro i
  induction i with
  | zero => simp [parts, cuts]
  | succ i ih => rw [parts_snoc, List.length_append, ih]; simp; omega
theorem parts_mem {rs : List Rn} {c : Int} : ∀ {i : Nat}, i ≤ rs.length → ∀ x ∈ parts rs c i, ∃ r ∈ rs, x.2 = r.2 := by
  intro i
  induction i with
  | zero => intro _ x hx; simp [parts, cuts] at hx
  | succ i ih =>
    intro h x hx
    rw [parts_snoc] at hx
    rcases List.mem_append.1 hx with hx | hx
    · exact ih (by omega) x hx
    · have hm := getD_memG ([], []) rs i (by omega)
      simp only [List.mem_cons, List.not_mem_nil, or_false] at hx
      rcases hx with rfl | rfl <;> exact ⟨_, hm, rfl⟩
theorem parts_tx (rs : List Rn) (c : Int) : (tx (parts rs c rs.length)).length = (tx rs).length := by
  have h := congrArg tx (parts_norm [] rs c)
  rw [tx_norm, tx_norm] at h
  rw [h]
end Mrk
end Go.Vl
end

section
set_option linter.unusedVariables false
set_option linter.unusedSimpArgs false
set_option maxRecDepth 100000
namespace Go.Proofs.YtlglnmafddnmmaaDoor
open Go.Vl

namespace Base

theorem tmod_neg (a n : Int) (hn : 0 < n) (h : a.tmod n < 0) : a.tmod n + n = a % n := by
  have h1 := Int.tmod_eq_emod (a := a) (b := n)
  have h2 := Int.emod_nonneg a (by omega : n ≠ 0)
  have h3 := Int.emod_lt_of_pos a hn
  have h4 : (n.natAbs : Int) = n := by omega
  rw [h1] at h ⊢
  split at h <;> split <;> omega
theorem tmod_nonneg (a n : Int) (hn : 0 < n) (h : ¬ a.tmod n < 0) : a.tmod n = a % n := by
  have h1 := Int.tmod_eq_emod (a := a) (b := n)
  have h2 := Int.emod_nonneg a (by omega : n ≠ 0)
  have h3 := Int.emod_lt_of_pos a hn
  have h4 : (n.natAbs : Int) = n := by omega
  rw [h1] at h ⊢
  split at h <;> split <;> omega
theorem tmod_gt (a n : Int) (hn : 0 < n) : -n < a.tmod n ∧ a.tmod n < n := by
  have h1 := Int.tmod_eq_emod (a := a) (b := n)
  have h2 := Int.emod_nonneg a (by omega : n ≠ 0)
  have h3 := Int.emod_lt_of_pos a hn
  have h4 : (n.natAbs : Int) = n := by omega
  rw [h1]
  split <;> omega

theorem c_Picked (a n : Int) (hn : 0 < n) (hb : n ≤ 4611686018427387904) : FnP Tryd.prog 24 [.int a, .int n] (.int (a % n)) :=  by
  refine FnC.mk Tryd.func24 (by kernel_rfl) rfl Tryd.ntmps24 rfl (fun w0 F => ?_)
  have htm := tmod_gt a n hn
  refine W.seq ?_
  refine W.region ?_
  refine W.q (Ev.assign .k) rfl ?_
  refine W.nil ?_
  refine W.then ?_
  refine W.seq ?_
  refine W.region ?_
  refine W.q (Ev.move (.t rfl)) rfl ?_
  refine W.q (Ev.move (.t rfl)) rfl ?_
  first | refine W.q (Ev.rem (.t rfl) (.t rfl) (fun _ => by decide)) rfl ?_ | refine W.q (Ev.rem (.t rfl) (.t rfl) (fun _ => by omega)) rfl ?_
  refine W.q (Ev.assign (.t rfl)) rfl ?_
  refine W.nil ?_
  refine W.then ?_
  refine W.seq ?_
  refine W.seq ?_
  refine W.region ?_
  refine W.q (Ev.move (.t rfl)) rfl ?_
  refine W.q (Ev.lti (.t rfl) .k) rfl ?_
  refine W.nil ?_
  refine W.then ?_
  refine W.cond (.t rfl) (fun hc_t9 => ?_) (fun hc_t9 => ?_)
  · have h9 := of_decide_eq_true hc_t9
    refine W.seq ?_
    refine W.region ?_
    refine W.q (Ev.move (.t rfl)) rfl ?_
    refine W.q (Ev.move (.t rfl)) rfl ?_
    first | refine W.q (Ev.add (.t rfl) (.t rfl) (fun _ => by omega)) rfl ?_ | refine W.q (Ev.addw (.t rfl) (.t rfl)) rfl ?_
    refine W.q (Ev.assign (.t rfl)) rfl ?_
    refine W.nil ?_
    refine W.then ?_
    refine W.ret ?_
    refine W.then_ret ?_
    refine W.retn (M' := []) (rs := [.tmp 4]) (avs := [_]) Tryd.results24 ⟨rfl, trivial⟩ rfl (.refl _) ?_
    exact ⟨congrArg AV.int (by first | exact (tmod_neg a n hn h9).symm ▸ rfl | exact tmod_nonneg a n hn h9), rfl⟩
  · have h9 := of_decide_eq_false hc_t9
    refine W.skip ?_
    refine W.then ?_
    refine W.seq ?_
    refine W.region ?_
    refine W.q (Ev.move (.t rfl)) rfl ?_
    refine W.q (Ev.assign (.t rfl)) rfl ?_
    refine W.nil ?_
    refine W.then ?_
    refine W.ret ?_
    refine W.retn (M' := []) (rs := [.tmp 4]) (avs := [_]) Tryd.results24 ⟨rfl, trivial⟩ rfl (.refl _) ?_
    exact ⟨congrArg AV.int (by first | exact (tmod_neg a n hn h9).symm ▸ rfl | exact tmod_nonneg a n hn h9), rfl⟩

end Base

end Go.Proofs.YtlglnmafddnmmaaDoor
end

section
set_option linter.unusedVariables false
set_option linter.unusedSimpArgs false
set_option maxRecDepth 100000
namespace Go.Proofs.YtlglnmafddnmmaaDoor
open Go.Vl

namespace WLib
theorem ty9 : Ty Tryd.prog 9 1 16 (.string ⟨#[]⟩) := Ty.of (by kernel_rfl)
theorem ag9 : IsAgg Tryd.prog 9 false := ⟨_, Tryd.underlying9, rfl⟩
theorem c_Index (ns : List (List UInt8)) (v : List UInt8) (hn : ns.length ≤ 1099511627776) : FnC Tryd.prog 76 [.sl 1 (ns.map AV.str), .str v] [] (fun r M => M = [] ∧ ∃ k : Int, r = .int k ∧ decide (0 ≤ k) = ns.any fun s => v == s) :=  by
  refine FnC.mk Tryd.func76 (by kernel_rfl) rfl Tryd.ntmps76 rfl (fun w0 F => ?_)
  have hnl : (ns.map AV.str).length = ns.length := List.length_map ..
  refine W.seq ?_
  refine W.region ?_
  refine W.q (Ev.assign .k) rfl ?_
  refine W.nil ?_
  refine W.then ?_
  refine W.seq ?_
  refine W.seq ?_
  refine W.region ?_
  refine W.q (Ev.move (.t rfl)) rfl ?_
  first | refine W.q (Ev.lensl (.t rfl) Tryd.underlying23) rfl ?_ | refine W.q (Ev.lenar (i := 0) (.t rfl) rfl Tryd.underlying23) rfl ?_ | refine W.q (Ev.lenar (i := 1) (.t rfl) rfl Tryd.underlying23) rfl ?_ | refine W.q (Ev.lenar (i := 2) (.t rfl) rfl Tryd.underlying23) rfl ?_ | refine W.q (Ev.lenar (i := 3) (.t rfl) rfl Tryd.underlying23) rfl ?_
  refine W.q (Ev.move .k) rfl ?_
  refine W.nil ?_
  refine W.then ?_
  refine W.block ?_
  refine W.loop (D := []) (ι := Nat) (fun i => [(8, true, .int (i : Int)), (7, true, .int ((ns.map AV.str).length : Int)), (0, true, .sl 1 (ns.map AV.str)), (1, true, .str v)]) (fun _ => []) (fun i => i ≤ ns.length ∧ ∀ d ∈ ns.take i, (v == d) = false) (fun i => ns.length - i) 0 ⟨rfl, rfl, rfl, rfl, trivial⟩ (.refl _) ⟨Nat.zero_le _, by simp⟩ ?_
  rintro i ⟨hi1, hi2⟩
  dsimp only at hi1 hi2 ⊢
  rcases (show i < ns.length ∨ i = ns.length from by omega) with hlt | hend
  · have hga := getD_mapG AV.str [] ns i hlt
    refine W.seq ?_
    refine W.region ?_
    refine W.q (Ev.lti (.t rfl) (.t rfl)) rfl ?_
    refine W.nil ?_
    refine W.then ?_
    refine W.seq ?_
    refine W.is (t := 9) (g := true) (av' := .lit (.bool true)) rfl (congrArg (fun b => AV.lit (.bool b)) (by simp; omega)) ?_
    refine W.condT (.t rfl) ?_
    refine W.skip ?_
    refine W.then ?_
    refine W.seq ?_
    refine W.block ?_
    refine W.seq ?_
    refine W.region ?_
    refine W.q (Ev.move (.t rfl)) rfl ?_
    refine W.q (Ev.assign (.t rfl)) rfl ?_
    refine W.nil ?_
    refine W.then ?_
    refine W.seq ?_
    refine W.region ?_
    refine W.q (Ev.move (.t rfl)) rfl ?_
    refine W.q (Ev.move (.t rfl)) rfl ?_
    refine W.q (Ev.move (.t rfl)) rfl ?_
    refine W.q (Ev.at (E := 9) (.t rfl) (.t rfl) Tryd.underlying23 ty9 (fun _ => ⟨by omega, hga⟩) rfl rfl) rfl ?_
    first | refine W.q (Ev.lde1 (.t rfl) ag9) rfl ?_ | refine W.q (Ev.ldb1 0 (.t rfl) rfl ag9 rfl) rfl ?_ | refine W.q (Ev.ldb1 1 (.t rfl) rfl ag9 rfl) rfl ?_ | refine W.q (Ev.ldb1 2 (.t rfl) rfl ag9 rfl) rfl ?_ | refine W.q (Ev.ldb1 3 (.t rfl) rfl ag9 rfl) rfl ?_
    refine W.q (Ev.eqs (.t rfl) (.t rfl)) rfl ?_
    refine W.nil ?_
    refine W.then ?_
    refine W.cond (.t rfl) (fun hc_t16 => ?_) (fun hc_t16 => ?_)
    · have hq : (ns.any fun s => v == s) = true := by rw [List.any_eq_true]; exact ⟨_, getD_memG [] ns i hlt, hc_t16⟩
      refine W.seq ?_
      refine W.region ?_
      refine W.q (Ev.move (.t rfl)) rfl ?_
      refine W.q (Ev.assign (.t rfl)) rfl ?_
      refine W.nil ?_
      refine W.then ?_
      refine W.ret ?_
      refine W.blk_ret ?_
      refine W.then_ret ?_
      refine W.then_ret ?_
      refine W.blk_ret ?_
      refine W.then_ret ?_
      refine W.retn (M' := []) (rs := [.tmp 4]) (avs := [_]) Tryd.results76 ⟨rfl, trivial⟩ rfl (.refl _) ?_
      refine ⟨rfl, _, rfl, ?_⟩
      rw [hq]
      first | rfl | (simp; done) | (simp; omega)
    · have hq : (v == ns.getD i []) = false := hc_t16
      refine W.skip ?_
      refine W.blk_normal ?_
      refine W.then ?_
      refine W.region ?_
      first | refine W.q (Ev.add (.t rfl) .k (fun _ => by omega)) rfl ?_ | refine W.q (Ev.addw (.t rfl) .k) rfl ?_
      refine W.q (Ev.move (.t rfl)) rfl ?_
      refine W.nil ?_
      refine W.then ?_
      refine W.reach (D := []) (i + 1) ⟨rfl, rfl, rfl, rfl, trivial⟩ (.refl _) ⟨⟨by omega, ?_⟩, by omega⟩
      rw [take_getDG [] ns i hlt]
      intro d hd
      cases List.mem_append.1 hd with
      | inl h => exact hi2 d h
      | inr h => rw [List.mem_singleton.1 h]; exact hq
  · rw [List.take_of_length_le (by omega)] at hi2
    have hq := any_take_false (fun d => v == d) ns hi2
    refine W.seq ?_
    refine W.region ?_
    refine W.q (Ev.lti (.t rfl) (.t rfl)) rfl ?_
    refine W.nil ?_
    refine W.then ?_
    refine W.seq ?_
    refine W.is (t := 9) (g := true) (av' := .lit (.bool false)) rfl (congrArg (fun b => AV.lit (.bool b)) (by simp; omega)) ?_
    refine W.condF (.t rfl) ?_
    refine W.exit ?_
    refine W.then_exit ?_
    refine W.then_exit ?_
    refine W.blk_hit ?_
    refine W.then ?_
    refine W.seq ?_
    refine W.region ?_
    refine W.q (Ev.assign .k) rfl ?_
    refine W.nil ?_
    refine W.then ?_
    refine W.ret ?_
    refine W.retn (M' := []) (rs := [.tmp 4]) (avs := [_]) Tryd.results76 ⟨rfl, trivial⟩ rfl (.refl _) ?_
    refine ⟨rfl, _, rfl, ?_⟩
    rw [hq]
    first | rfl | (simp; done) | (simp; omega)

theorem c_Contains (ns : List (List UInt8)) (v : List UInt8) (hn : ns.length ≤ 1099511627776) : FnP Tryd.prog 56 [.sl 1 (ns.map AV.str), .str v] (.bool (ns.any fun s => v == s)) :=  by
  refine FnC.mk Tryd.func56 (by kernel_rfl) rfl Tryd.ntmps56 rfl (fun w0 F => ?_)
  refine W.seq ?_
  refine W.region ?_
  refine W.q (Ev.assign .k) rfl ?_
  refine W.nil ?_
  refine W.then ?_
  refine W.seq ?_
  refine W.region ?_
  refine W.q (Ev.move (.t rfl)) rfl ?_
  refine W.q (Ev.move (.t rfl)) rfl ?_
  refine W.call (c_Index ns v hn) ⟨(.t rfl), (.t rfl), trivial⟩ (.refl _) rfl ?_
  rintro _ _ ⟨rfl, k, rfl, hk⟩
  refine W.q (Ev.gei (.t rfl) .k) rfl ?_
  refine W.q (Ev.assign (.t rfl)) rfl ?_
  refine W.nil ?_
  refine W.then ?_
  refine W.ret ?_
  refine W.retn (M' := []) (rs := [.tmp 4]) (avs := [_]) Tryd.results56 ⟨rfl, trivial⟩ rfl (.refl _) ?_
  exact ⟨congrArg AV.bool hk, rfl⟩

end WLib

end Go.Proofs.YtlglnmafddnmmaaDoor
end

section
set_option linter.unusedVariables false
set_option linter.unusedSimpArgs false
namespace Go.Vl
structure Pk where
  name : List UInt8
  attr : List UInt8
  deep : Bool
abbrev kav (p : Pk) : AV := .agg [.str p.name, .str p.attr, .bool p.deep]
namespace Pk
abbrev dfl : Pk := ⟨[], [], false⟩
def fits (p : Pk) (d : Nd) : Bool := !(d.name == [] || (p.name != [] && p.name != d.name)) && (p.attr == [] || d.attrs.any fun a => a.1 == p.attr)
abbrev Fl := Nat → Bool
abbrev row (n : Nat) (f : Fl) : AV := .sl 1 ((List.range n).map fun k => AV.bool (f k))
def ahead (ps : List Pk) (r w : Fl) (k : Nat) : Bool := (k == 0 || ((ps.getD k dfl).deep && w (k - 1))) || (!(ps.getD k dfl).deep && r (k - 1))
def ends (ps : List Pk) (r w : Fl) (d : Nd) (k : Nat) : Bool := ahead ps r w k && fits (ps.getD k dfl) d
def far (ps : List Pk) (r w : Fl) (d : Nd) (k : Nat) : Bool := w k || ends ps r w d k
mutual
/-- the paths that are found within a node, among nodes -/
def fnd (ps : List Pk) : Nd → List Int → Fl → Fl → List (List Int)
  | .mk n a t q, path, r, w => fnds ps 0 q path r w
def fnds (ps : List Pk) : Nat → List Nd → List Int → Fl → Fl → List (List Int)
  | _, [], _, _, _ => []
  | i, d :: l, path, r, w =>
    (if d.name = [] then [] else (if ends ps r w d (ps.length - 1) then [path ++ [(i : Int)]] else []) ++ fnd ps d (path ++ [(i : Int)]) (ends ps r w d) (far ps r w d)) ++ fnds ps (i + 1) l path r w
end
theorem fnd_eq (ps : List Pk) (d : Nd) (path : List Int) (r w : Fl) : fnd ps d path r w = fnds ps 0 d.parts path r w := by cases d; rfl
mutual
theorem fnd_len (ps : List Pk) : ∀ (d : Nd) (path : List Int) (r w : Fl), (fnd ps d path r w).length + 1 ≤ d.sz
  | .mk n a t q, path, r, w => by have := fnds_len ps q 0 path r w; simp only [fnd, Nd.sz]; omega
theorem fnds_len (ps : List Pk) : ∀ (l : List Nd) (i : Nat) (path : List Int) (r w : Fl), (fnds ps i l path r w).length ≤ Nd.szs l
  | [], _, _, _, _ => Nat.zero_le _
  | d :: l, i, path, r, w => by
    have h1 := fnd_len ps d (path ++ [(i : Int)]) (ends ps r w d) (far ps r w d)
    have h2 := fnds_len ps l (i + 1) path r w
    rw [fnds, List.length_append, Nd.szs]
    split
    · simp only [List.length_nil]; omega
    · rw [List.length_append]
      split <;> simp only [List.length_nil, List.length_cons] <;> omega
end
mutual
/-- what looser picks find -/
theorem fnd_sub (ps ps' : List Pk) (Rel : Fl → Fl → Fl → Fl → Prop)
    (hs : ∀ d r w r' w', d.name ≠ [] → Rel r w r' w' → Rel (ends ps r w d) (far ps r w d) (ends ps' r' w' d) (far ps' r' w' d) ∧ (ends ps r w d (ps.length - 1) = true → ends ps' r' w' d (ps'.length - 1) = true)) :
    ∀ (d : Nd) (path : List Int) (r w r' w' : Fl), Rel r w r' w' → ∀ q ∈ fnd ps d path r w, q ∈ fnd ps' d path r' w'
  | .mk n a t p, path, r, w, r', w', hr, q, hq => by rw [fnd] at hq ⊢; exact fnds_sub ps ps' Rel hs p 0 path r w r' w' hr q hq
theorem fnds_sub (ps ps' : List Pk) (Rel : Fl → Fl → Fl → Fl → Prop)
    (hs : ∀ d r w r' w', d.name ≠ [] → Rel r w r' w' → Rel (ends ps r w d) (far ps r w d) (ends ps' r' w' d) (far ps' r' w' d) ∧ (ends ps r w d (ps.length - 1) = true → ends ps' r' w' d (ps'.length - 1) = true)) :
    ∀ (l : List Nd) (i : Nat) (path : List Int) (r w r' w' : Fl), Rel r w r' w' → ∀ q ∈ fnds ps i l path r w, q ∈ fnds ps' i l path r' w'
  | [], _, _, _, _, _, _, _, q, hq => by simp [fnds] at hq
  | d :: l, i, path, r, w, r', w', hr, q, hq => by
    rw [fnds, List.mem_append] at hq ⊢
    rcases hq with hq | hq
    · left
      by_cases hn : d.name = []
      · simp [hn] at hq
      · rw [if_neg hn, List.mem_append] at hq ⊢
        obtain ⟨h1, h2⟩ := hs d r w r' w' hn hr
        rcases hq with hq | hq
        · left
          by_cases he : ends ps r w d (ps.length - 1) = true
          · rw [if_pos he] at hq; rw [if_pos (h2 he)]; exact hq
          · rw [if_neg he] at hq; cases hq
        · right
          exact fnd_sub ps ps' Rel hs d _ _ _ _ _ h1 q hq
    · right
      exact fnds_sub ps ps' Rel hs l _ _ _ _ _ _ hr q hq
end
mutual
theorem fnd_sl (ps : List Pk) : ∀ (d : Nd) (path : List Int) (r w : Fl), ∃ S, List.Sublist S (Nd.pths d) ∧ fnd ps d path r w = S.map (path ++ ·)
  | .mk n a t p, path, r, w => by rw [fnd, Nd.pths]; exact fnds_sl ps p 0 path r w
/-- what is found are paths, in their order -/
theorem fnds_sl (ps : List Pk) : ∀ (l : List Nd) (i : Nat) (path : List Int) (r w : Fl), ∃ S, List.Sublist S (Nd.pthsFrom i l) ∧ fnds ps i l path r w = S.map (path ++ ·)
  | [], _, _, _, _ => ⟨[], List.nil_sublist _, rfl⟩
  | d :: l, i, path, r, w => by
    obtain ⟨S1, h1, e1⟩ := fnd_sl ps d (path ++ [(i : Int)]) (ends ps r w d) (far ps r w d)
    obtain ⟨S2, h2, e2⟩ := fnds_sl ps l (i + 1) path r w
    rw [fnds, Nd.pthsFrom, e1, e2]
    have hm : List.Sublist (S1.map ((i : Int) :: ·)) (d.pths.map ((i : Int) :: ·)) := h1.map _
    have em : S1.map ((path ++ [(i : Int)]) ++ ·) = (S1.map ((i : Int) :: ·)).map (path ++ ·) := by
      rw [List.map_map]; congr 1; funext s; simp
    by_cases hn : d.name = []
    · rw [if_pos hn]
      exact ⟨S2, (h2.trans (List.sublist_append_right _ _)).trans (List.sublist_cons_self _ _), rfl⟩
    · rw [if_neg hn, em]
      split
      · exact ⟨[(i : Int)] :: (S1.map ((i : Int) :: ·) ++ S2), (hm.append h2).cons_cons _, by simp⟩
      · exact ⟨S1.map ((i : Int) :: ·) ++ S2, (hm.append h2).cons _, by simp⟩
end
mutual
theorem fnd_at (ps : List Pk) : ∀ (d : Nd) (path : List Int) (r w : Fl), ∀ q ∈ fnd ps d path r w, ∃ s e, q = path ++ s ∧ Nd.atP d.parts s e ∧ e.name ≠ [] ∧ fits (ps.getD (ps.length - 1) dfl) e = true
  | .mk n a t p, path, r, w, q, hq => by
    rw [fnd] at hq
    obtain ⟨j, s, e, h1, h2, h3⟩ := fnds_at ps p 0 path r w q hq
    exact ⟨(j : Int) :: s, e, by rw [h1, Nat.zero_add], h2, h3⟩
/-- the nodes that are found fit the last pick -/
theorem fnds_at (ps : List Pk) : ∀ (l : List Nd) (i : Nat) (path : List Int) (r w : Fl), ∀ q ∈ fnds ps i l path r w, ∃ (j : Nat) (s : List Int) (e : Nd), q = path ++ (((i + j : Nat) : Int) :: s) ∧ Nd.atP l ((j : Int) :: s) e ∧ e.name ≠ [] ∧ fits (ps.getD (ps.length - 1) dfl) e = true
  | [], _, _, _, _, q, hq => by simp [fnds] at hq
  | d :: l, i, path, r, w, q, hq => by
    rw [fnds, List.mem_append] at hq
    rcases hq with hq | hq
    · by_cases hn : d.name = []
      · simp [hn] at hq
      · rw [if_neg hn, List.mem_append] at hq
        rcases hq with hq | hq
        · by_cases he : ends ps r w d (ps.length - 1) = true
          · rw [if_pos he, List.mem_singleton] at hq
            refine ⟨0, [], d, by simpa using hq, ⟨0, rfl, by simp, .inl ⟨rfl, rfl⟩⟩, hn, ?_⟩
            simp only [ends, Bool.and_eq_true] at he; exact he.2
          · rw [if_neg he] at hq; cases hq
        · obtain ⟨s, e, h1, h3, h4⟩ := fnd_at ps d _ _ _ q hq
          refine ⟨0, s, e, by rw [h1, List.append_assoc]; rfl, ⟨0, rfl, by simp, .inr ⟨?_, by simpa using h3⟩⟩, h4⟩
          rintro rfl; exact h3.elim
    · obtain ⟨j, s, e, h1, ⟨k, hk, hlt, hx⟩, h5⟩ := fnds_at ps l (i + 1) path r w q hq
      refine ⟨j + 1, s, e, by rw [h1]; congr 3; omega, ⟨k + 1, by omega, by simp; omega, by simpa using hx⟩, h5⟩
end
/-- is a path right ahead of the other one, and part of it? -/
def around (x a : List Int) : Bool := decide (x.length < a.length) && decide (a.take x.length = x)
theorem around_miss (path s t : List Int) (i j : Int) (h : i ≠ j) : around (path ++ i :: s) (path ++ j :: t) = false := by
  cases hc : around (path ++ i :: s) (path ++ j :: t) with
  | false => rfl
  | true =>
    exfalso
    simp only [around, Bool.and_eq_true, decide_eq_true_eq] at hc
    have h1 := congrArg (·[path.length]?) hc.2
    simp at h1
    exact h h1.symm
theorem fnds_shape (ps : List Pk) (l : List Nd) (i : Nat) (path : List Int) (r w : Fl) : ∀ q ∈ fnds ps i l path r w, ∃ (j : Nat) (s : List Int), i ≤ j ∧ q = path ++ (j : Int) :: s := fun q hq => by
  obtain ⟨j, s, e, h1, _⟩ := fnds_at ps l i path r w q hq
  exact ⟨i + j, s, by omega, h1⟩
theorem fnd_shape (ps : List Pk) (d : Nd) (path : List Int) (r w : Fl) : ∀ q ∈ fnd ps d path r w, ∃ (j : Int) (s : List Int), q = path ++ j :: s := fun q hq => by
  rw [fnd_eq] at hq
  obtain ⟨j, s, _, h⟩ := fnds_shape ps _ _ _ _ _ q hq
  exact ⟨j, s, h⟩
mutual
theorem fnd_within (p q : Pk) (hq : q.deep = true) : ∀ (d : Nd) (path : List Int) (r w r1 w1 r2 w2 : Fl), fnd [p, q] d path r w = (fnd [q] d path r1 w1).filter fun a => w 0 || (fnd [p] d path r2 w2).any fun x => around x a
  | .mk _ _ _ l, path, r, w, r1, w1, r2, w2 => by rw [fnd, fnd, fnd]; exact fnds_within p q hq l 0 path r w r1 w1 r2 w2
theorem fnds_within (p q : Pk) (hq : q.deep = true) : ∀ (l : List Nd) (i : Nat) (path : List Int) (r w r1 w1 r2 w2 : Fl), fnds [p, q] i l path r w = (fnds [q] i l path r1 w1).filter fun a => w 0 || (fnds [p] i l path r2 w2).any fun x => around x a
  | [], _, _, _, _, _, _, _, _ => rfl
  | d :: l, i, path, r, w, r1, w1, r2, w2 => by
    have h2 := fnds_within p q hq l (i + 1) path r w r1 w1 r2 w2
    have h1 := fnd_within p q hq d (path ++ [(i : Int)]) (ends [p, q] r w d) (far [p, q] r w d) (ends [q] r1 w1 d) (far [q] r1 w1 d) (ends [p] r2 w2 d) (far [p] r2 w2 d)
    rw [fnds, fnds, fnds, h1, h2]
    rw [List.filter_append]
    have hC : ∀ a ∈ fnds [q] (i + 1) l path r1 w1, (w 0 || ((if d.name = [] then [] else (if ends [p] r2 w2 d ([p].length - 1) then [path ++ [(i : Int)]] else []) ++ fnd [p] d (path ++ [(i : Int)]) (ends [p] r2 w2 d) (far [p] r2 w2 d)) ++ fnds [p] (i + 1) l path r2 w2).any fun x => around x a) =
        (w 0 || (fnds [p] (i + 1) l path r2 w2).any fun x => around x a) := by
      intro a ha
      obtain ⟨j, s, hj, rfl⟩ := fnds_shape _ _ _ _ _ _ a ha
      rw [List.any_append]
      have : ((if d.name = [] then [] else (if ends [p] r2 w2 d ([p].length - 1) then [path ++ [(i : Int)]] else []) ++ fnd [p] d (path ++ [(i : Int)]) (ends [p] r2 w2 d) (far [p] r2 w2 d)).any fun x => around x (path ++ (j : Int) :: s)) = false := by
        rw [List.any_eq_false]
        intro x hx
        split at hx
        · cases hx
        · rw [List.mem_append] at hx
          rcases hx with hx | hx
          · split at hx
            · rw [List.mem_singleton] at hx; subst hx
              rw [around_miss path [] s i j (by omega)]; simp
            · cases hx
          · obtain ⟨j', s', rfl⟩ := fnd_shape _ _ _ _ _ x hx
            have := around_miss path (j' :: s') s i j (by omega)
            simp only [List.append_assoc, List.singleton_append]
            rw [this]; simp
      rw [this, Bool.false_or]
    rw [List.filter_congr hC]
    congr 1
    by_cases hn : d.name = []
    · simp [hn]
    · rw [if_neg hn, if_neg hn, if_neg hn, List.filter_append]
      have e1 : ends [p, q] r w d ([p, q].length - 1) = (w 0 && fits q d) := by simp [ends, ahead, hq]
      have e2 : ends [q] r1 w1 d ([q].length - 1) = fits q d := by simp [ends, ahead]
      have e3 : ends [p] r2 w2 d ([p].length - 1) = fits p d := by simp [ends, ahead]
      have e4 : far [p, q] r w d 0 = (w 0 || fits p d) := by simp [far, ends, ahead]
      rw [e1, e2, e3, e4]
      have hXC : ∀ s : List Int, ((fnds [p] (i + 1) l path r2 w2).any fun x => around x (path ++ (i : Int) :: s)) = false := by
        intro s
        rw [List.any_eq_false]
        intro x hx
        obtain ⟨j, s', hj, rfl⟩ := fnds_shape _ _ _ _ _ _ x hx
        rw [around_miss path s' s j i (by omega)]; simp
      congr 1
      · cases hf : fits q d with
        | false => simp
        | true =>
          rw [Bool.and_true, if_pos rfl, List.filter_cons, List.filter_nil]
          have : (((if fits p d = true then [path ++ [(i : Int)]] else []) ++ fnd [p] d (path ++ [(i : Int)]) (ends [p] r2 w2 d) (far [p] r2 w2 d) ++ fnds [p] (i + 1) l path r2 w2).any fun x => around x (path ++ [(i : Int)])) = false := by
            rw [List.any_append, hXC [], Bool.or_false, List.any_eq_false]
            intro x hx
            rw [List.mem_append] at hx
            rcases hx with hx | hx
            · split at hx
              · rw [List.mem_singleton] at hx; subst hx; simp [around]
              · cases hx
            · obtain ⟨j', s', rfl⟩ := fnd_shape _ _ _ _ _ x hx
              simp [around]
          rw [this, Bool.or_false]
      · refine List.filter_congr ?_
        intro a ha
        obtain ⟨j, s, rfl⟩ := fnd_shape _ _ _ _ _ a ha
        have := hXC (j :: s)
        rw [List.any_append, List.append_assoc, List.singleton_append, this, Bool.or_false, List.any_append, Bool.or_assoc]
        congr 1
        congr 1
        cases fits p d with
        | false => simp
        | true => simp [around, List.take_append, List.take_of_length_le (Nat.le_succ path.length)]
end
mutual
/-- elements; those of a name -/
def els : Nd → Nat
  | .mk _ _ _ l => elss l
def elss : List Nd → Nat
  | [] => 0
  | d :: l => (if d.name = [] then 0 else 1 + els d) + elss l
end
mutual
def nms (s : List UInt8) : Nd → Nat
  | .mk _ _ _ l => nmss s l
def nmss (s : List UInt8) : List Nd → Nat
  | [] => 0
  | d :: l => (if d.name = [] then 0 else (if d.name = s then 1 else 0) + nms s d) + nmss s l
end
mutual
theorem els_le : ∀ d : Nd, els d + 1 ≤ d.sz
  | .mk _ a _ l => by have := elss_le l; simp only [els, Nd.sz]; omega
theorem elss_le : ∀ l : List Nd, elss l ≤ Nd.szs l
  | [] => Nat.le_refl _
  | d :: l => by have := els_le d; have := elss_le l; simp only [elss, Nd.szs]; split <;> omega
end
mutual
theorem nms_le (s : List UInt8) : ∀ d : Nd, nms s d + 1 ≤ d.sz
  | .mk _ a _ l => by have := nmss_le s l; simp only [nms, Nd.sz]; omega
theorem nmss_le (s : List UInt8) : ∀ l : List Nd, nmss s l ≤ Nd.szs l
  | [] => Nat.le_refl _
  | d :: l => by have := nms_le s d; have := nmss_le s l; simp only [nmss, Nd.szs]; split <;> (try split) <;> omega
end
mutual
theorem fnd_star (p : Pk) (hp : p.name = [] ∧ p.attr = []) : ∀ (d : Nd) (path : List Int) (r w : Fl), (fnd [p] d path r w).length = els d
  | .mk _ _ _ l, path, r, w => by rw [fnd, els]; exact fnds_stars p hp l 0 path r w
theorem fnds_stars (p : Pk) (hp : p.name = [] ∧ p.attr = []) : ∀ (l : List Nd) (i : Nat) (path : List Int) (r w : Fl), (fnds [p] i l path r w).length = elss l
  | [], _, _, _, _ => rfl
  | d :: l, i, path, r, w => by
    have h1 := fnd_star p hp d (path ++ [(i : Int)]) (ends [p] r w d) (far [p] r w d)
    have h2 := fnds_stars p hp l (i + 1) path r w
    rw [fnds, List.length_append, elss, h2]
    by_cases hn : d.name = []
    · rw [if_pos hn, if_pos hn]; rfl
    · have : ends [p] r w d ([p].length - 1) = true := by simp [ends, ahead, fits, hp, hn]
      rw [if_neg hn, if_neg hn, List.length_append, this, h1, if_pos rfl]; rfl
end
mutual
theorem fnd_name (p : Pk) (hp : p.name ≠ [] ∧ p.attr = []) : ∀ (d : Nd) (path : List Int) (r w : Fl), (fnd [p] d path r w).length = nms p.name d
  | .mk _ _ _ l, path, r, w => by rw [fnd, nms]; exact fnds_name p hp l 0 path r w
theorem fnds_name (p : Pk) (hp : p.name ≠ [] ∧ p.attr = []) : ∀ (l : List Nd) (i : Nat) (path : List Int) (r w : Fl), (fnds [p] i l path r w).length = nmss p.name l
  | [], _, _, _, _ => rfl
  | d :: l, i, path, r, w => by
    have h1 := fnd_name p hp d (path ++ [(i : Int)]) (ends [p] r w d) (far [p] r w d)
    have h2 := fnds_name p hp l (i + 1) path r w
    rw [fnds, List.length_append, nmss, h2]
    by_cases hn : d.name = []
    · rw [if_pos hn, if_pos hn]; rfl
    · have : ends [p] r w d ([p].length - 1) = (d.name == p.name) := by
        by_cases he : d.name = p.name
        · simp [ends, ahead, fits, hp, hn, he]
        · have he' : ¬ p.name = d.name := fun h => he h.symm
          have e : fits p d = false := by
            unfold fits
            rw [show (d.name == []) = false by simpa using hn, show (p.name != []) = true by simpa using hp.1, show (p.name != d.name) = true by simpa using he']; rfl
          have e2 : (d.name == p.name) = false := by simpa using he
          rw [e2]
          simp [ends, ahead, e]
      rw [if_neg hn, if_neg hn, List.length_append, this, h1]
      congr 1
      congr 1
      by_cases he : d.name = p.name <;> simp [he]
end
abbrev oddS (s : List UInt8) : Bool := !(s == []) && !(nameOk s)
def odd (p : Pk) : Bool := oddS p.name || oddS p.attr
/-- picks that are no fault -/
structure ok (p : Pk) : Prop where
  n : p.name.length ≤ 1000
  a : p.attr.length ≤ 1000
  o : odd p = false
abbrev dp (p : Pk) : Pk := ⟨p.name, p.attr, true⟩
abbrev nn (p : Pk) : Pk := ⟨[], p.attr, p.deep⟩
mutual
theorem fnd_same' (q : Pk) : ∀ (d : Nd) (path : List Int) (r w r1 w1 : Fl), fnd [dp q] d path r w = fnd [q] d path r1 w1
  | .mk _ _ _ l, path, r, w, r1, w1 => by rw [fnd, fnd]; exact fnds_same' q l 0 path r w r1 w1
theorem fnds_same' (q : Pk) : ∀ (l : List Nd) (i : Nat) (path : List Int) (r w r1 w1 : Fl), fnds [dp q] i l path r w = fnds [q] i l path r1 w1
  | [], _, _, _, _, _, _ => rfl
  | d :: l, i, path, r, w, r1, w1 => by
    rw [fnds, fnds, fnd_same' q d _ _ _ (ends [q] r1 w1 d) (far [q] r1 w1 d), fnds_same' q l _ _ _ _ r1 w1]
    rfl
end
end Pk
def upto {α : Type} (f : α → α) (l : List α) (i : Nat) : List α := (l.take i).map f ++ l.drop i
section sl
variable {x : Cx} {g : Bool} {L : List (Tmp × Bool × AV)} {M : List ME} {ty T : TypeId} {o1 o2 : Operand}
theorem Ev.takesl {α : Type} {f : α → AV} {l : List α} {n k E bytes : Nat} {z : Value} {c : Int} (h1 : Ov g L o1 (.sl k (l.map f))) (hT : x.P.underlying T = some (.slice E)) (hE : Ty x.P E k bytes z) (h2 : Ov g L o2 (.lit (.int .i64 c))) (hc : c = (n : Int)) (hb : g = true → n ≤ l.length) :
    Ev x g L M (.slice T o1 none (some o2) none) ty (.sl k ((l.take n).map f)) := by
  subst hc
  have h := Ev.subsl (x := x) (M := M) (ty := ty) (lo := none) (hi := some o2) h1 hT hE rfl h2 (fun hg => ⟨Int.le_refl _, by omega, by have := hb hg; rw [List.length_map]; omega⟩)
  simpa [List.map_take] using h
theorem Ev.dropsl {α : Type} {f : α → AV} {l : List α} {n k E bytes : Nat} {z : Value} {c : Int} (h1 : Ov g L o1 (.sl k (l.map f))) (hT : x.P.underlying T = some (.slice E)) (hE : Ty x.P E k bytes z) (h2 : Ov g L o2 (.lit (.int .i64 c))) (hc : c = (n : Int)) (hb : g = true → n ≤ l.length) :
    Ev x g L M (.slice T o1 (some o2) none none) ty (.sl k ((l.drop n).map f)) := by
  subst hc
  have h := Ev.subsl (x := x) (M := M) (ty := ty) (lo := some o2) (hi := none) h1 hT hE h2 rfl (fun hg => ⟨by omega, by have := hb hg; rw [List.length_map]; omega, Int.le_refl _⟩)
  have e : (l.map f).take ((l.map f).length : Int).toNat = l.map f := List.take_of_length_le (by simp)
  rw [e] at h
  simpa [List.map_drop] using h
end sl
end Go.Vl
end

section
set_option linter.unusedVariables false
set_option linter.unusedSimpArgs false
set_option maxRecDepth 100000
namespace Go.Proofs.YtlglnmafddnmmaaDoor
open Go.Vl

namespace WMrkL
theorem ty9 : Ty Tryd.prog 9 1 16 (.string ⟨#[]⟩) := Ty.of (by kernel_rfl)
theorem ty49 : Ty Tryd.prog 49 2 40 (.agg #[.string ⟨#[]⟩, .slice none 0 0]) := Ty.of (by kernel_rfl)
theorem ag9 : IsAgg Tryd.prog 9 false := ⟨_, Tryd.underlying9, rfl⟩
theorem ag49 : IsAgg Tryd.prog 49 true := ⟨_, Tryd.underlying49, rfl⟩
theorem ni23 : NotInt Tryd.prog 23 := .inl ⟨_, Tryd.underlying23⟩
theorem c_CloneSO (es : List AV) (ho : ∀ e ∈ es, e.okc = true) (hl : es.length ≤ 1099511627776) : FnC Tryd.prog 60 [.sl 1 es] [] (fun r M => ∃ v, r = .lit v ∧ M = [.arr v 9 1 es]) :=  by
  refine FnC.mk Tryd.func60 (by kernel_rfl) rfl Tryd.ntmps60 rfl (fun w0 F => ?_)
  refine W.seq ?_
  refine W.region ?_
  refine W.q (Ev.assign .k) rfl ?_
  refine W.nil ?_
  refine W.then ?_
  refine W.seq ?_
  refine W.seq ?_
  refine W.region ?_
  refine W.q (Ev.move (.t rfl)) rfl ?_
  refine W.slnil (.t rfl) Tryd.underlying23 rfl (fun q hq => ?_)
  refine W.nil ?_
  refine W.then ?_
  refine W.cond (.t rfl) (fun hc_t4 => ?_) (fun hc_t4 => ?_)
  · refine W.seq ?_
    refine W.region ?_
    refine W.q (Ev.assign .k) rfl ?_
    refine W.nil ?_
    refine W.own_nil 9 1 ?_
    refine W.then ?_
    refine W.ret ?_
    refine W.then_ret ?_
    refine W.retn (M' := [.arr _ 9 1 _]) (rs := [.tmp 2]) (avs := [_]) Tryd.results60 ⟨rfl, trivial⟩ rfl (.refl _) ?_
    first | exact ⟨_, rfl, by rw [hq hc_t4]⟩ | exact ⟨_, rfl, rfl⟩
  · refine W.skip ?_
    refine W.then ?_
    refine W.seq ?_
    refine W.region ?_
    refine W.bso (es := []) Tryd.underlying23 ty9 trivial rfl (by decide) rfl rfl ?_
    intro v5
    refine W.q (Ev.move (.t rfl)) rfl ?_
    first | refine W.app 0 (.t rfl) rfl (.sl (.t rfl) (ho)) Tryd.underlying23 ni23 ty9 rfl rfl (by simp; omega) rfl ?_ | refine W.app 1 (.t rfl) rfl (.sl (.t rfl) (ho)) Tryd.underlying23 ni23 ty9 rfl rfl (by simp; omega) rfl ?_ | refine W.app 2 (.t rfl) rfl (.sl (.t rfl) (ho)) Tryd.underlying23 ni23 ty9 rfl rfl (by simp; omega) rfl ?_ | refine W.app 3 (.t rfl) rfl (.sl (.t rfl) (ho)) Tryd.underlying23 ni23 ty9 rfl rfl (by simp; omega) rfl ?_ | refine W.app 0 (.t rfl) rfl (.arr 0 (.t rfl) rfl (ho)) Tryd.underlying23 ni23 ty9 rfl rfl (by simp; omega) rfl ?_ | refine W.app 0 (.t rfl) rfl (.arr 1 (.t rfl) rfl (ho)) Tryd.underlying23 ni23 ty9 rfl rfl (by simp; omega) rfl ?_ | refine W.app 0 (.t rfl) rfl (.arr 2 (.t rfl) rfl (ho)) Tryd.underlying23 ni23 ty9 rfl rfl (by simp; omega) rfl ?_ | refine W.app 0 (.t rfl) rfl (.arr 3 (.t rfl) rfl (ho)) Tryd.underlying23 ni23 ty9 rfl rfl (by simp; omega) rfl ?_ | refine W.app 1 (.t rfl) rfl (.arr 0 (.t rfl) rfl (ho)) Tryd.underlying23 ni23 ty9 rfl rfl (by simp; omega) rfl ?_ | refine W.app 1 (.t rfl) rfl (.arr 1 (.t rfl) rfl (ho)) Tryd.underlying23 ni23 ty9 rfl rfl (by simp; omega) rfl ?_ | refine W.app 1 (.t rfl) rfl (.arr 2 (.t rfl) rfl (ho)) Tryd.underlying23 ni23 ty9 rfl rfl (by simp; omega) rfl ?_ | refine W.app 1 (.t rfl) rfl (.arr 3 (.t rfl) rfl (ho)) Tryd.underlying23 ni23 ty9 rfl rfl (by simp; omega) rfl ?_ | refine W.app 2 (.t rfl) rfl (.arr 0 (.t rfl) rfl (ho)) Tryd.underlying23 ni23 ty9 rfl rfl (by simp; omega) rfl ?_ | refine W.app 2 (.t rfl) rfl (.arr 1 (.t rfl) rfl (ho)) Tryd.underlying23 ni23 ty9 rfl rfl (by simp; omega) rfl ?_ | refine W.app 2 (.t rfl) rfl (.arr 2 (.t rfl) rfl (ho)) Tryd.underlying23 ni23 ty9 rfl rfl (by simp; omega) rfl ?_ | refine W.app 2 (.t rfl) rfl (.arr 3 (.t rfl) rfl (ho)) Tryd.underlying23 ni23 ty9 rfl rfl (by simp; omega) rfl ?_ | refine W.app 3 (.t rfl) rfl (.arr 0 (.t rfl) rfl (ho)) Tryd.underlying23 ni23 ty9 rfl rfl (by simp; omega) rfl ?_ | refine W.app 3 (.t rfl) rfl (.arr 1 (.t rfl) rfl (ho)) Tryd.underlying23 ni23 ty9 rfl rfl (by simp; omega) rfl ?_ | refine W.app 3 (.t rfl) rfl (.arr 2 (.t rfl) rfl (ho)) Tryd.underlying23 ni23 ty9 rfl rfl (by simp; omega) rfl ?_ | refine W.app 3 (.t rfl) rfl (.arr 3 (.t rfl) rfl (ho)) Tryd.underlying23 ni23 ty9 rfl rfl (by simp; omega) rfl ?_
    intro v7
    refine W.q (Ev.assign (.t rfl)) rfl ?_
    refine W.nil ?_
    refine W.then ?_
    refine W.ret ?_
    refine W.retn (M' := [.arr _ 9 1 _]) (rs := [.tmp 2]) (avs := [_]) Tryd.results60 ⟨rfl, trivial⟩ rfl (.refl _) ?_
    first | exact ⟨_, rfl, by rw [hq hc_t4]⟩ | exact ⟨_, rfl, rfl⟩

theorem c_IndexFuncS (l : List (List UInt8)) (g : Nat) (caps : List Value) (M0 : List ME) (p : (List UInt8) → Bool) (hg : ∀ d ∈ l, FnC Tryd.prog g ([AV.str d] ++ caps.map .lit) M0 (fun r M => r = .bool (p d) ∧ M = M0)) (hn : l.length ≤ 1099511627776) : FnC Tryd.prog 75 [.sl 1 (l.map AV.str), .lit (.func (.func g) #[] caps.toArray)] M0 (fun r M => r = .int (idxI p l) ∧ M = M0) :=  by
  refine FnC.mk Tryd.func75 (by kernel_rfl) rfl Tryd.ntmps75 rfl (fun w0 F => ?_)
  have hnl : (l.map AV.str).length = l.length := List.length_map ..
  refine W.seq ?_
  refine W.region ?_
  refine W.q (Ev.assign .k) rfl ?_
  refine W.nil ?_
  refine W.then ?_
  refine W.seq ?_
  refine W.seq ?_
  refine W.region ?_
  refine W.q (Ev.move (.t rfl)) rfl ?_
  first | refine W.q (Ev.lensl (.t rfl) Tryd.underlying23) rfl ?_ | refine W.q (Ev.lenar (i := 0) (.t rfl) rfl Tryd.underlying23) rfl ?_ | refine W.q (Ev.lenar (i := 1) (.t rfl) rfl Tryd.underlying23) rfl ?_ | refine W.q (Ev.lenar (i := 2) (.t rfl) rfl Tryd.underlying23) rfl ?_ | refine W.q (Ev.lenar (i := 3) (.t rfl) rfl Tryd.underlying23) rfl ?_
  refine W.q (Ev.move .k) rfl ?_
  refine W.nil ?_
  refine W.then ?_
  refine W.block ?_
  refine W.loop (D := []) (ι := Nat) (fun i => [(8, true, .int (i : Int)), (7, true, .int ((l.map AV.str).length : Int)), (0, true, .sl 1 (l.map AV.str)), (1, true, .lit (.func (.func g) #[] caps.toArray))]) (fun _ => M0) (fun i => i ≤ l.length ∧ ∀ d ∈ l.take i, p d = false) (fun i => l.length - i) 0 ⟨rfl, rfl, rfl, rfl, trivial⟩ (List.Perm.of_eq (List.append_nil _).symm) ⟨Nat.zero_le _, by simp⟩ ?_
  rintro i ⟨hi1, hi2⟩
  dsimp only at hi1 hi2 ⊢
  rcases (show i < l.length ∨ i = l.length from by omega) with hlt | hend
  · have hga := getD_mapG AV.str [] l i hlt
    refine W.seq ?_
    refine W.region ?_
    refine W.q (Ev.lti (.t rfl) (.t rfl)) rfl ?_
    refine W.nil ?_
    refine W.then ?_
    refine W.seq ?_
    refine W.is (t := 9) (g := true) (av' := .lit (.bool true)) rfl (congrArg (fun b => AV.lit (.bool b)) (by simp; omega)) ?_
    refine W.condT (.t rfl) ?_
    refine W.skip ?_
    refine W.then ?_
    refine W.seq ?_
    refine W.block ?_
    refine W.seq ?_
    refine W.region ?_
    refine W.q (Ev.move (.t rfl)) rfl ?_
    refine W.q (Ev.assign (.t rfl)) rfl ?_
    refine W.nil ?_
    refine W.then ?_
    refine W.seq ?_
    refine W.region ?_
    refine W.q (Ev.move (.t rfl)) rfl ?_
    refine W.q (Ev.move (.t rfl)) rfl ?_
    refine W.q (Ev.move (.t rfl)) rfl ?_
    refine W.q (Ev.at (E := 9) (.t rfl) (.t rfl) Tryd.underlying23 ty9 (fun _ => ⟨by omega, hga⟩) rfl rfl) rfl ?_
    first | refine W.q (Ev.lde1 (.t rfl) ag9) rfl ?_ | refine W.q (Ev.ldb1 0 (.t rfl) rfl ag9 rfl) rfl ?_ | refine W.q (Ev.ldb1 1 (.t rfl) rfl ag9 rfl) rfl ?_ | refine W.q (Ev.ldb1 2 (.t rfl) rfl ag9 rfl) rfl ?_ | refine W.q (Ev.ldb1 3 (.t rfl) rfl ag9 rfl) rfl ?_
    refine W.callv (caps := caps) (avs := [_]) (hg (l.getD i []) (getD_memG [] l i hlt)) (.t rfl) ⟨(.t rfl), trivial⟩ rfl ((List.Perm.of_eq (List.append_nil _).symm)) rfl ?_
    rintro _ M' ⟨rfl, hM⟩
    rw [hM, List.append_nil]
    refine W.nil ?_
    refine W.then ?_
    refine W.cond (.t rfl) (fun hc_t16 => ?_) (fun hc_t16 => ?_)
    · have hq := idxI_hit p [] l i hlt hi2 hc_t16
      refine W.seq ?_
      refine W.region ?_
      refine W.q (Ev.move (.t rfl)) rfl ?_
      refine W.q (Ev.assign (.t rfl)) rfl ?_
      refine W.nil ?_
      refine W.then ?_
      refine W.ret ?_
      refine W.blk_ret ?_
      refine W.then_ret ?_
      refine W.then_ret ?_
      refine W.blk_ret ?_
      refine W.then_ret ?_
      refine W.retn (M' := M0) (D := []) (rs := [.tmp 4]) (avs := [_]) Tryd.results75 ⟨rfl, trivial⟩ rfl (List.Perm.of_eq (List.append_nil _).symm) ?_
      exact ⟨congrArg AV.int (by rw [hq]), rfl⟩
    · have hq : p (l.getD i []) = false := hc_t16
      refine W.skip ?_
      refine W.blk_normal ?_
      refine W.then ?_
      refine W.region ?_
      first | refine W.q (Ev.add (.t rfl) .k (fun _ => by omega)) rfl ?_ | refine W.q (Ev.addw (.t rfl) .k) rfl ?_
      refine W.q (Ev.move (.t rfl)) rfl ?_
      refine W.nil ?_
      refine W.then ?_
      refine W.reach (D := []) (i + 1) ⟨rfl, rfl, rfl, rfl, trivial⟩ (List.Perm.of_eq (List.append_nil _).symm) ⟨⟨by omega, ?_⟩, by omega⟩
      rw [take_getDG [] l i hlt]
      intro d hd
      cases List.mem_append.1 hd with
      | inl h => exact hi2 d h
      | inr h => rw [List.mem_singleton.1 h]; exact hq
  · rw [List.take_of_length_le (by omega)] at hi2
    have hq := idxI_miss p l hi2
    refine W.seq ?_
    refine W.region ?_
    refine W.q (Ev.lti (.t rfl) (.t rfl)) rfl ?_
    refine W.nil ?_
    refine W.then ?_
    refine W.seq ?_
    refine W.is (t := 9) (g := true) (av' := .lit (.bool false)) rfl (congrArg (fun b => AV.lit (.bool b)) (by simp; omega)) ?_
    refine W.condF (.t rfl) ?_
    refine W.exit ?_
    refine W.then_exit ?_
    refine W.then_exit ?_
    refine W.blk_hit ?_
    refine W.then ?_
    refine W.seq ?_
    refine W.region ?_
    refine W.q (Ev.assign .k) rfl ?_
    refine W.nil ?_
    refine W.then ?_
    refine W.ret ?_
    refine W.retn (M' := M0) (D := []) (rs := [.tmp 4]) (avs := [_]) Tryd.results75 ⟨rfl, trivial⟩ rfl (List.Perm.of_eq (List.append_nil _).symm) ?_
    exact ⟨congrArg AV.int (by rw [hq]), rfl⟩

theorem c_ContainsFuncS (l : List (List UInt8)) (g : Nat) (caps : List Value) (M0 : List ME) (p : (List UInt8) → Bool) (hg : ∀ d ∈ l, FnC Tryd.prog g ([AV.str d] ++ caps.map .lit) M0 (fun r M => r = .bool (p d) ∧ M = M0)) (hn : l.length ≤ 1099511627776) : FnC Tryd.prog 54 [.sl 1 (l.map AV.str), .lit (.func (.func g) #[] caps.toArray)] M0 (fun r M => r = .bool (l.any p) ∧ M = M0) :=  by
  refine FnC.mk Tryd.func54 (by kernel_rfl) rfl Tryd.ntmps54 rfl (fun w0 F => ?_)
  refine W.seq ?_
  refine W.region ?_
  refine W.q (Ev.assign .k) rfl ?_
  refine W.nil ?_
  refine W.then ?_
  refine W.seq ?_
  refine W.region ?_
  refine W.q (Ev.move (.t rfl)) rfl ?_
  refine W.q (Ev.move (.t rfl)) rfl ?_
  refine W.call (c_IndexFuncS l g caps M0 p hg hn) ⟨(.t rfl), (.t rfl), trivial⟩ ((List.Perm.of_eq (List.append_nil _).symm)) rfl ?_
  rintro _ M' ⟨rfl, hM⟩
  rw [hM, List.append_nil]
  refine W.q (Ev.gei (.t rfl) .k) rfl ?_
  refine W.q (Ev.assign (.t rfl)) rfl ?_
  refine W.nil ?_
  refine W.then ?_
  refine W.ret ?_
  refine W.retn (M' := M0) (D := []) (rs := [.tmp 4]) (avs := [_]) Tryd.results54 ⟨rfl, trivial⟩ rfl (List.Perm.of_eq (List.append_nil _).symm) ?_
  exact ⟨congrArg AV.bool (idxI_any p l), rfl⟩

theorem c_IndexFuncN (l : List Rn) (g : Nat) (caps : List Value) (M0 : List ME) (p : Rn → Bool) (hg : ∀ d ∈ l, FnC Tryd.prog g ([rnav d] ++ caps.map .lit) M0 (fun r M => r = .bool (p d) ∧ M = M0)) (hn : l.length ≤ 1099511627776) : FnC Tryd.prog 44 [.sl 2 (l.map rnav), .lit (.func (.func g) #[] caps.toArray)] M0 (fun r M => r = .int (idxI p l) ∧ M = M0) :=  by
  refine FnC.mk Tryd.func44 (by kernel_rfl) rfl Tryd.ntmps44 rfl (fun w0 F => ?_)
  have hnl : (l.map rnav).length = l.length := List.length_map ..
  refine W.seq ?_
  refine W.region ?_
  refine W.q (Ev.assign .k) rfl ?_
  refine W.nil ?_
  refine W.then ?_
  refine W.seq ?_
  refine W.seq ?_
  refine W.region ?_
  refine W.q (Ev.move (.t rfl)) rfl ?_
  first | refine W.q (Ev.lensl (.t rfl) Tryd.underlying29) rfl ?_ | refine W.q (Ev.lenar (i := 0) (.t rfl) rfl Tryd.underlying29) rfl ?_ | refine W.q (Ev.lenar (i := 1) (.t rfl) rfl Tryd.underlying29) rfl ?_ | refine W.q (Ev.lenar (i := 2) (.t rfl) rfl Tryd.underlying29) rfl ?_ | refine W.q (Ev.lenar (i := 3) (.t rfl) rfl Tryd.underlying29) rfl ?_
  refine W.q (Ev.move .k) rfl ?_
  refine W.nil ?_
  refine W.then ?_
  refine W.block ?_
  refine W.loop (D := []) (ι := Nat) (fun i => [(8, true, .int (i : Int)), (7, true, .int ((l.map rnav).length : Int)), (0, true, .sl 2 (l.map rnav)), (1, true, .lit (.func (.func g) #[] caps.toArray))]) (fun _ => M0) (fun i => i ≤ l.length ∧ ∀ d ∈ l.take i, p d = false) (fun i => l.length - i) 0 ⟨rfl, rfl, rfl, rfl, trivial⟩ (List.Perm.of_eq (List.append_nil _).symm) ⟨Nat.zero_le _, by simp⟩ ?_
  rintro i ⟨hi1, hi2⟩
  dsimp only at hi1 hi2 ⊢
  rcases (show i < l.length ∨ i = l.length from by omega) with hlt | hend
  · have hga := getD_mapG rnav ([], []) l i hlt
    refine W.seq ?_
    refine W.region ?_
    refine W.q (Ev.lti (.t rfl) (.t rfl)) rfl ?_
    refine W.nil ?_
    refine W.then ?_
    refine W.seq ?_
    refine W.is (t := 9) (g := true) (av' := .lit (.bool true)) rfl (congrArg (fun b => AV.lit (.bool b)) (by simp; omega)) ?_
    refine W.condT (.t rfl) ?_
    refine W.skip ?_
    refine W.then ?_
    refine W.seq ?_
    refine W.block ?_
    refine W.seq ?_
    refine W.region ?_
    refine W.q (Ev.move (.t rfl)) rfl ?_
    refine W.q (Ev.assign (.t rfl)) rfl ?_
    refine W.nil ?_
    refine W.then ?_
    refine W.seq ?_
    refine W.region ?_
    refine W.q (Ev.move (.t rfl)) rfl ?_
    refine W.q (Ev.move (.t rfl)) rfl ?_
    refine W.q (Ev.move (.t rfl)) rfl ?_
    refine W.q (Ev.at (E := 49) (.t rfl) (.t rfl) Tryd.underlying29 ty49 (fun _ => ⟨by omega, hga⟩) rfl rfl) rfl ?_
    first | refine W.q (Ev.lden (.t rfl) ag49 ty49 rfl rfl) rfl ?_ | refine W.q (Ev.ldbn 0 (.t rfl) rfl ag49 ty49 rfl) rfl ?_ | refine W.q (Ev.ldbn 1 (.t rfl) rfl ag49 ty49 rfl) rfl ?_ | refine W.q (Ev.ldbn 2 (.t rfl) rfl ag49 ty49 rfl) rfl ?_ | refine W.q (Ev.ldbn 3 (.t rfl) rfl ag49 ty49 rfl) rfl ?_
    refine W.callv (caps := caps) (avs := [_]) (hg (l.getD i ([], [])) (getD_memG ([], []) l i hlt)) (.t rfl) ⟨(.t rfl), trivial⟩ rfl ((List.Perm.of_eq (List.append_nil _).symm)) rfl ?_
    rintro _ M' ⟨rfl, hM⟩
    rw [hM, List.append_nil]
    refine W.nil ?_
    refine W.then ?_
    refine W.cond (.t rfl) (fun hc_t16 => ?_) (fun hc_t16 => ?_)
    · have hq := idxI_hit p ([], []) l i hlt hi2 hc_t16
      refine W.seq ?_
      refine W.region ?_
      refine W.q (Ev.move (.t rfl)) rfl ?_
      refine W.q (Ev.assign (.t rfl)) rfl ?_
      refine W.nil ?_
      refine W.then ?_
      refine W.ret ?_
      refine W.blk_ret ?_
      refine W.then_ret ?_
      refine W.then_ret ?_
      refine W.blk_ret ?_
      refine W.then_ret ?_
      refine W.retn (M' := M0) (D := []) (rs := [.tmp 4]) (avs := [_]) Tryd.results44 ⟨rfl, trivial⟩ rfl (List.Perm.of_eq (List.append_nil _).symm) ?_
      exact ⟨congrArg AV.int (by rw [hq]), rfl⟩
    · have hq : p (l.getD i ([], [])) = false := hc_t16
      refine W.skip ?_
      refine W.blk_normal ?_
      refine W.then ?_
      refine W.region ?_
      first | refine W.q (Ev.add (.t rfl) .k (fun _ => by omega)) rfl ?_ | refine W.q (Ev.addw (.t rfl) .k) rfl ?_
      refine W.q (Ev.move (.t rfl)) rfl ?_
      refine W.nil ?_
      refine W.then ?_
      refine W.reach (D := []) (i + 1) ⟨rfl, rfl, rfl, rfl, trivial⟩ (List.Perm.of_eq (List.append_nil _).symm) ⟨⟨by omega, ?_⟩, by omega⟩
      rw [take_getDG ([], []) l i hlt]
      intro d hd
      cases List.mem_append.1 hd with
      | inl h => exact hi2 d h
      | inr h => rw [List.mem_singleton.1 h]; exact hq
  · rw [List.take_of_length_le (by omega)] at hi2
    have hq := idxI_miss p l hi2
    refine W.seq ?_
    refine W.region ?_
    refine W.q (Ev.lti (.t rfl) (.t rfl)) rfl ?_
    refine W.nil ?_
    refine W.then ?_
    refine W.seq ?_
    refine W.is (t := 9) (g := true) (av' := .lit (.bool false)) rfl (congrArg (fun b => AV.lit (.bool b)) (by simp; omega)) ?_
    refine W.condF (.t rfl) ?_
    refine W.exit ?_
    refine W.then_exit ?_
    refine W.then_exit ?_
    refine W.blk_hit ?_
    refine W.then ?_
    refine W.seq ?_
    refine W.region ?_
    refine W.q (Ev.assign .k) rfl ?_
    refine W.nil ?_
    refine W.then ?_
    refine W.ret ?_
    refine W.retn (M' := M0) (D := []) (rs := [.tmp 4]) (avs := [_]) Tryd.results44 ⟨rfl, trivial⟩ rfl (List.Perm.of_eq (List.append_nil _).symm) ?_
    exact ⟨congrArg AV.int (by rw [hq]), rfl⟩

theorem c_Equal (a b : List (List UInt8)) (ha : a.length ≤ 16777216) : FnP Tryd.prog 57 [.sl 1 (a.map AV.str), .sl 1 (b.map AV.str)] (.bool (decide (a = b))) :=  by
  refine FnC.mk Tryd.func57 (by kernel_rfl) rfl Tryd.ntmps57 rfl (fun w0 F => ?_)
  have hla : (a.map AV.str).length = a.length := List.length_map ..
  have hlb : (b.map AV.str).length = b.length := List.length_map ..
  refine W.seq ?_
  refine W.region ?_
  refine W.q (Ev.assign .k) rfl ?_
  refine W.nil ?_
  refine W.then ?_
  refine W.seq ?_
  refine W.seq ?_
  refine W.region ?_
  refine W.q (Ev.move (.t rfl)) rfl ?_
  first | refine W.q (Ev.lensl (.t rfl) Tryd.underlying23) rfl ?_ | refine W.q (Ev.lenar (i := 0) (.t rfl) rfl Tryd.underlying23) rfl ?_ | refine W.q (Ev.lenar (i := 1) (.t rfl) rfl Tryd.underlying23) rfl ?_ | refine W.q (Ev.lenar (i := 2) (.t rfl) rfl Tryd.underlying23) rfl ?_ | refine W.q (Ev.lenar (i := 3) (.t rfl) rfl Tryd.underlying23) rfl ?_
  refine W.q (Ev.move (.t rfl)) rfl ?_
  first | refine W.q (Ev.lensl (.t rfl) Tryd.underlying23) rfl ?_ | refine W.q (Ev.lenar (i := 0) (.t rfl) rfl Tryd.underlying23) rfl ?_ | refine W.q (Ev.lenar (i := 1) (.t rfl) rfl Tryd.underlying23) rfl ?_ | refine W.q (Ev.lenar (i := 2) (.t rfl) rfl Tryd.underlying23) rfl ?_ | refine W.q (Ev.lenar (i := 3) (.t rfl) rfl Tryd.underlying23) rfl ?_
  refine W.q (Ev.nei (.t rfl) (.t rfl)) rfl ?_
  refine W.nil ?_
  refine W.then ?_
  refine W.cond (.t rfl) (fun hc_t10 => ?_) (fun hc_t10 => ?_)
  · have hne : a ≠ b := by rintro rfl; simp at hc_t10
    refine W.seq ?_
    refine W.region ?_
    refine W.q (Ev.assign .k) rfl ?_
    refine W.nil ?_
    refine W.then ?_
    refine W.ret ?_
    refine W.then_ret ?_
    refine W.retn (M' := []) (rs := [.tmp 4]) (avs := [_]) Tryd.results57 ⟨rfl, trivial⟩ rfl (.refl _) ?_
    first | exact ⟨congrArg AV.bool (decide_eq_false hne).symm, rfl⟩ | exact ⟨congrArg AV.bool (decide_eq_true heq).symm, rfl⟩
  · have hlen : a.length = b.length := by simp at hc_t10; omega
    refine W.skip ?_
    refine W.then ?_
    refine W.seq ?_
    refine W.seq ?_
    refine W.region ?_
    refine W.q (Ev.move (.t rfl)) rfl ?_
    first | refine W.q (Ev.lensl (.t rfl) Tryd.underlying23) rfl ?_ | refine W.q (Ev.lenar (i := 0) (.t rfl) rfl Tryd.underlying23) rfl ?_ | refine W.q (Ev.lenar (i := 1) (.t rfl) rfl Tryd.underlying23) rfl ?_ | refine W.q (Ev.lenar (i := 2) (.t rfl) rfl Tryd.underlying23) rfl ?_ | refine W.q (Ev.lenar (i := 3) (.t rfl) rfl Tryd.underlying23) rfl ?_
    refine W.q (Ev.move .k) rfl ?_
    refine W.nil ?_
    refine W.then ?_
    refine W.block ?_
    refine W.loop (D := []) (ι := Nat) (fun i => [(13, true, .int (i : Int)), (12, true, .int ((a.map AV.str).length : Int)), (0, true, .sl 1 (a.map AV.str)), (1, true, .sl 1 (b.map AV.str))]) (fun _ => []) (fun i => i ≤ a.length ∧ ∀ j, j < i → a.getD j [] = b.getD j []) (fun i => a.length - i) 0 ⟨rfl, rfl, rfl, rfl, trivial⟩ (.refl _) ⟨Nat.zero_le _, by intro j hj; omega⟩ ?_
    rintro i ⟨hi1, hi2⟩
    dsimp only at hi1 hi2 ⊢
    rcases (show i < a.length ∨ i = a.length from by omega) with hlt | hend
    · have hga := getD_mapG AV.str [] a i hlt
      have hgb := getD_mapG AV.str [] b i (by omega)
      refine W.seq ?_
      refine W.region ?_
      refine W.q (Ev.lti (.t rfl) (.t rfl)) rfl ?_
      refine W.nil ?_
      refine W.then ?_
      refine W.seq ?_
      refine W.is (t := 14) (g := true) (av' := .lit (.bool true)) rfl (congrArg (fun b => AV.lit (.bool b)) (by simp; omega)) ?_
      refine W.condT (.t rfl) ?_
      refine W.skip ?_
      refine W.then ?_
      refine W.seq ?_
      refine W.block ?_
      refine W.seq ?_
      refine W.region ?_
      refine W.q (Ev.move (.t rfl)) rfl ?_
      refine W.q (Ev.assign (.t rfl)) rfl ?_
      refine W.nil ?_
      refine W.then ?_
      refine W.seq ?_
      refine W.drawn (by kernel_rfl) (by kernel_rfl) ?_
      refine DP.q (Ev.move (.t rfl)) rfl ?_
      refine DP.q (Ev.move (.t rfl)) rfl ?_
      refine DP.q (Ev.at (E := 9) (.t rfl) (.t rfl) Tryd.underlying23 ty9 (fun _ => ⟨by omega, hga⟩) rfl rfl) rfl ?_
      first | refine DP.q (Ev.lde1 (.t rfl) ag9) rfl ?_ | refine DP.q (Ev.ldb1 0 (.t rfl) rfl ag9 rfl) rfl ?_ | refine DP.q (Ev.ldb1 1 (.t rfl) rfl ag9 rfl) rfl ?_ | refine DP.q (Ev.ldb1 2 (.t rfl) rfl ag9 rfl) rfl ?_ | refine DP.q (Ev.ldb1 3 (.t rfl) rfl ag9 rfl) rfl ?_
      refine DP.q (Ev.move (.t rfl)) rfl ?_
      refine DP.q (Ev.move (.t rfl)) rfl ?_
      refine DP.q (Ev.at (E := 9) (.t rfl) (.t rfl) Tryd.underlying23 ty9 (fun _ => ⟨by omega, hgb⟩) rfl rfl) rfl ?_
      first | refine DP.q (Ev.lde1 (.t rfl) ag9) rfl ?_ | refine DP.q (Ev.ldb1 0 (.t rfl) rfl ag9 rfl) rfl ?_ | refine DP.q (Ev.ldb1 1 (.t rfl) rfl ag9 rfl) rfl ?_ | refine DP.q (Ev.ldb1 2 (.t rfl) rfl ag9 rfl) rfl ?_ | refine DP.q (Ev.ldb1 3 (.t rfl) rfl ag9 rfl) rfl ?_
      refine DP.q (Ev.nes (.t rfl) (.t rfl)) rfl ?_
      refine DP.nil ?_
      refine W.then ?_
      refine W.cond (.t rfl) (fun hc_t24 => ?_) (fun hc_t24 => ?_)
      · have hne : a ≠ b := by rintro rfl; simp at hc_t24
        refine W.seq ?_
        refine W.region ?_
        refine W.q (Ev.assign .k) rfl ?_
        refine W.nil ?_
        refine W.then ?_
        refine W.ret ?_
        refine W.blk_ret ?_
        refine W.then_ret ?_
        refine W.then_ret ?_
        refine W.blk_ret ?_
        refine W.then_ret ?_
        refine W.retn (M' := []) (rs := [.tmp 4]) (avs := [_]) Tryd.results57 ⟨rfl, trivial⟩ rfl (.refl _) ?_
        first | exact ⟨congrArg AV.bool (decide_eq_false hne).symm, rfl⟩ | exact ⟨congrArg AV.bool (decide_eq_true heq).symm, rfl⟩
      · have hsame : a.getD i [] = b.getD i [] := by simp only [Bool.not_eq_false', beq_iff_eq] at hc_t24; exact hc_t24
        refine W.skip ?_
        refine W.blk_normal ?_
        refine W.then ?_
        refine W.region ?_
        first | refine W.q (Ev.add (.t rfl) .k (fun _ => by omega)) rfl ?_ | refine W.q (Ev.addw (.t rfl) .k) rfl ?_
        refine W.q (Ev.move (.t rfl)) rfl ?_
        refine W.nil ?_
        refine W.then ?_
        refine W.reach (D := []) (i + 1) ⟨rfl, rfl, rfl, rfl, trivial⟩ (.refl _) ⟨⟨by omega, fun j hj => ?_⟩, by omega⟩
        rcases Nat.lt_or_ge j i with h | h
        · exact hi2 j h
        · obtain rfl : j = i := by omega
          exact hsame
    · have heq := list_eqG [] a b hlen (fun j hj => hi2 j (by omega))
      refine W.seq ?_
      refine W.region ?_
      refine W.q (Ev.lti (.t rfl) (.t rfl)) rfl ?_
      refine W.nil ?_
      refine W.then ?_
      refine W.seq ?_
      refine W.is (t := 14) (g := true) (av' := .lit (.bool false)) rfl (congrArg (fun b => AV.lit (.bool b)) (by simp; omega)) ?_
      refine W.condF (.t rfl) ?_
      refine W.exit ?_
      refine W.then_exit ?_
      refine W.then_exit ?_
      refine W.blk_hit ?_
      refine W.then ?_
      refine W.seq ?_
      refine W.region ?_
      refine W.q (Ev.assign .k) rfl ?_
      refine W.nil ?_
      refine W.then ?_
      refine W.ret ?_
      refine W.retn (M' := []) (rs := [.tmp 4]) (avs := [_]) Tryd.results57 ⟨rfl, trivial⟩ rfl (.refl _) ?_
      first | exact ⟨congrArg AV.bool (decide_eq_false hne).symm, rfl⟩ | exact ⟨congrArg AV.bool (decide_eq_true heq).symm, rfl⟩

end WMrkL

end Go.Proofs.YtlglnmafddnmmaaDoor
end

section
set_option linter.unusedVariables false
set_option linter.unusedSimpArgs false
namespace Go.Vl
namespace Nd
theorem tszs_mem {l : List Nd} {d : Nd} (h : d ∈ l) : d.tsz ≤ tszs l := by
  induction l with
  | nil => cases h
  | cons e l ih =>
    rw [tszs]
    rcases List.mem_cons.1 h with rfl | h
    · omega
    · have := ih h; omega
theorem at_tsz (l : List Nd) (i : Nat) (h : i < l.length) : (l.getD i dflt).tsz ≤ tszs l := tszs_mem (getD_memG dflt l i h)
theorem tszs_take (l : List Nd) (i : Nat) : tszs (l.take i) ≤ tszs l := by
  have := tszs_append (l.take i) (l.drop i); rw [List.take_append_drop] at this; omega
theorem szs_take (l : List Nd) (i : Nat) : szs (l.take i) ≤ szs l := by
  have := szs_append (l.take i) (l.drop i); rw [List.take_append_drop] at this; omega
theorem lastT_take (l : List Nd) (i : Nat) (h : i ≤ l.length) : lastT false (l.take i) = (decide ((0 : Int) < (i : Int)) && ((l.getD (i - 1) dflt).name == [])) := by
  rcases Nat.eq_zero_or_pos i with h0 | h0
  · subst h0; simp [lastT]
  · have e : i = (i - 1) + 1 := by omega
    have h1 : decide ((0 : Int) < (i : Int)) = true := decide_eq_true (by omega)
    rw [h1, Bool.true_and]
    conv => lhs; rw [e]
    rw [take_getDG dflt l (i - 1) (by omega), lastT_snoc]
/-- what the program asks of a node -/
theorem apt1_prog (d : Nd) (a b : Nat) (p : Bool) (ha : a = d.parts.length) (hb : b = d.attrs.length) :
    (((d.name == []) && ((((d.text == []) || decide ((0 : Int) < (a : Int))) || decide ((0 : Int) < (b : Int))) || p)) = true → apt1 p d = false) ∧
    (((d.name == []) && ((((d.text == []) || decide ((0 : Int) < (a : Int))) || decide ((0 : Int) < (b : Int))) || p)) = false → ((!(d.name == [])) && (!(d.text == []) || !(apts false d.parts))) = false → apt1 p d = true) ∧
    (((!(d.name == [])) && (!(d.text == []) || !(apts false d.parts))) = true → apt1 p d = false) := by
  subst ha; subst hb
  have e1 : decide ((0 : Int) < (d.parts.length : Int)) = !(d.parts.length == 0) := by
    rcases Nat.eq_zero_or_pos d.parts.length with h | h
    · rw [h]; rfl
    · rw [decide_eq_true (by omega), beq_eq_false_iff_ne.2 (by omega)]; rfl
  have e2 : decide ((0 : Int) < (d.attrs.length : Int)) = !(d.attrs.length == 0) := by
    rcases Nat.eq_zero_or_pos d.attrs.length with h | h
    · rw [h]; rfl
    · rw [decide_eq_true (by omega), beq_eq_false_iff_ne.2 (by omega)]; rfl
  rw [e1, e2, apt1]
  by_cases h : d.name = []
  · have h' : (d.name == []) = true := by simpa using h
    rw [if_pos h, h']
    generalize (d.text == []) = x; generalize (d.parts.length == 0) = y; generalize (d.attrs.length == 0) = z; generalize apts false d.parts = w
    revert x y z w p; decide
  · have h' : (d.name == []) = false := by simpa using h
    rw [if_neg h, h']
    generalize (d.text == []) = x; generalize apts false d.parts = w; generalize (d.parts.length == 0) = y; generalize (d.attrs.length == 0) = z
    revert x y z w p; decide
abbrev tx6 : List (List UInt8) := [[120], [97, 60, 98], [38, 97, 109, 112, 59], [121, 32, 122], [32], [60, 112, 62]]
abbrev vd2 : List (List UInt8) := [[98, 114], [105, 109, 103]]
abbrev el6 : List (List UInt8) := [[100, 105, 118], [98], [101, 109], [112], [97], [117, 108]]
abbrev vl5 : List (List UInt8) := [[], [120], [97, 34, 98, 38], [60], [104, 116, 116, 112, 58, 47, 47, 121]]
abbrev href : List UInt8 := [104, 114, 101, 102]
mutual
/-- what is drawn; k: not deeper than so; p: does a text stand ahead? -/
def dr : Nat → Nd → Prop
  | k, mk n a t q => (n = [] ∧ a = [] ∧ t ∈ tx6 ∧ q = []) ∨ (n ∈ vd2 ∧ a = [] ∧ t = [] ∧ q = []) ∨ (n ∈ el6 ∧ (a = [] ∨ ∃ v ∈ vl5, a = [(href, v)]) ∧ t = [] ∧ 2 ≤ k ∧ drs (k - 1) false q ∧ q.length ≤ 4)
def drs : Nat → Bool → List Nd → Prop
  | _, _, [] => True
  | k, p, d :: l => (d.name = [] → p = false) ∧ dr k d ∧ drs k (d.name == []) l
end
end Nd
namespace Rl
/-- rules that may be -/
structure ok (r : Rl) : Prop where
  n : nameOk r.name = true
  nl : r.name.length ≤ 1000
  a1 : 1 ≤ r.act
  a3 : r.act ≤ 3
  t : r.act = 1 → nameOk r.to = true
  tl : r.to.length ≤ 1000
  t0 : r.act ≠ 1 → r.to = []
structure oks (l : List Rl) : Prop where
  len : l.length ≤ 12
  all : ∀ r ∈ l, r.ok
  one : ∀ i, i < l.length → ((l.take i).any fun q => q.name == (l.getD i dfl).name) = false
abbrev nm6 : List (List UInt8) := [[100, 105, 118], [98], [101, 109], [112], [97], [117, 108]]
abbrev nm8 : List (List UInt8) := [[100, 105, 118], [98], [101, 109], [112], [97], [117, 108], [98, 114], [105, 109, 103]]
/-- rules of the first names -/
structure drawn (l : List Rl) : Prop where
  names : l.map (·.name) = nm6.take l.length
  all : ∀ r ∈ l, r.ok
abbrev tn (r : Rl) : Rl := ⟨r.name, r.act, if r.act = 1 then r.name else r.to⟩
/-- all elements left out -/
abbrev lv (l : List (List UInt8)) : List Rl := l.map fun s => ⟨s, 3, []⟩
/-- names that are kept -/
def kn (l : List Rl) : List (List UInt8) := (l.filter fun r => r.act == 1).map (·.to)
end Rl
end Go.Vl
end
