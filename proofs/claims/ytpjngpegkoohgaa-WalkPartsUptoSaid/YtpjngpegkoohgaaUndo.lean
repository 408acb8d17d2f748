/-
  Changes of trees, and what undoes them, without a program.
-/
import Derived.Test.YtpjngpegkoohgaaPut
set_option linter.unusedVariables false
set_option linter.unusedSimpArgs false
namespace Go.Vl
theorem ins_rep {α : Type} (es : List α) (e z : α) (i : Nat) (hi : i < es.length) :
    es.take i ++ e :: List.replicate (es.length - i) z = (es.take i ++ List.replicate (es.length + 1 - i) z).take i ++ [e] ++ (es.take i ++ List.replicate (es.length + 1 - i) z).drop (i + [e].length) := by
  have htl : (es.take i).length = i := by rw [List.length_take]; omega
  rw [List.take_append_of_le_length (by omega), List.take_of_length_le (l := es.take i) (by omega), List.drop_append, List.drop_of_length_le (l := es.take i) (by rw [htl]; exact Nat.le_add_right _ _), List.nil_append, htl, List.drop_replicate, Nat.add_sub_cancel_left, List.append_assoc]
  rw [show es.length + 1 - i - [e].length = es.length - i from by simp only [List.length_cons, List.length_nil]; omega]
  rfl
theorem ins_over {α : Type} (es : List α) (e : α) (R : List α) (i : Nat) (hi : i < es.length) (hR : R.length = es.length - i) :
    es.take i ++ e :: es.drop i = (es.take i ++ e :: R).take (i + 1) ++ es.drop i ++ (es.take i ++ e :: R).drop (i + 1 + (es.drop i).length) := by
  have htl : (es.take i).length = i := by rw [List.length_take]; omega
  have hdl : (es.drop i).length = es.length - i := List.length_drop ..
  rw [List.take_append, List.take_of_length_le (l := es.take i) (by omega), htl, Nat.add_sub_cancel_left, List.drop_of_length_le (l := es.take i ++ e :: R) (by rw [List.length_append, List.length_cons, hR, htl, hdl]; omega), List.append_nil, List.append_assoc]
  rfl
theorem ins_shift {α : Type} (es : List α) (e : α) (i : Nat) (hi : i < es.length) :
    es.take i ++ e :: es.drop i = (es.take (i + 1) ++ es.drop i).take i ++ [e] ++ (es.take (i + 1) ++ es.drop i).drop (i + [e].length) := by
  have htl : (es.take (i + 1)).length = i + 1 := by rw [List.length_take]; omega
  rw [List.take_append_of_le_length (by omega), List.take_take, Nat.min_eq_left (by omega), List.drop_append_of_le_length (by rw [htl]; exact Nat.le_refl _), List.drop_of_length_le (l := es.take (i + 1)) (by rw [htl]; exact Nat.le_refl _), List.nil_append, List.append_assoc]
  rfl
namespace Nd
/-- a path at which one may put -/
def plP : List Nd → List Int → Prop
  | _, [] => False
  | l, k :: p => ∃ i : Nat, k = (i : Int) ∧ ((p = [] ∧ i ≤ l.length) ∨ (p ≠ [] ∧ i < l.length ∧ (l.getD i dflt).name ≠ [] ∧ plP (l.getD i dflt).parts p))
/-- x put in at a path -/
def insP : List Nd → List Int → Nd → List Nd
  | l, [], _ => l
  | l, i :: p, x => if p = [] then l.take i.toNat ++ x :: l.drop i.toNat else l.set i.toNat (withP (l.getD i.toNat dflt) (insP (l.getD i.toNat dflt).parts p x))
/-- what is at a path is cut -/
def cutP : List Nd → List Int → List Nd
  | l, [] => l
  | l, i :: p => if p = [] then l.take i.toNat ++ l.drop (i.toNat + 1) else l.set i.toNat (withP (l.getD i.toNat dflt) (cutP (l.getD i.toNat dflt).parts p))
/-- what is at a path -/
def got : List Nd → List Int → Nd
  | _, [] => dflt
  | l, i :: p => if p = [] then l.getD i.toNat dflt else got (l.getD i.toNat dflt).parts p
theorem withP_eq (d : Nd) (q : List Nd) : withP d q = mk d.name d.attrs d.text q := rfl
theorem withP_withP (d : Nd) (q r : List Nd) : withP (withP d q) r = withP d r := rfl
theorem withP_self (d : Nd) : withP d d.parts = d := by cases d; rfl
theorem getD_lt (l : List Nd) (i : Nat) (h : i < l.length) : l.getD i dflt = l[i] := by
  rw [List.getD_eq_getElem?_getD, List.getElem?_eq_getElem h]; rfl
theorem set_getD_self (l : List Nd) (i : Nat) (h : i < l.length) : l.set i (l.getD i dflt) = l := by
  rw [getD_lt l i h]; exact List.set_getElem_self h
theorem ins_getD (l : List Nd) (i : Nat) (x : Nd) (h : i ≤ l.length) : (l.take i ++ x :: l.drop i).getD i dflt = x := by
  have hl : (l.take i).length = i := by rw [List.length_take]; omega
  rw [List.getD_eq_getElem?_getD, List.getElem?_append_right (by omega), hl, Nat.sub_self]; rfl
theorem ins_cut (l : List Nd) (i : Nat) (x : Nd) (h : i ≤ l.length) : (l.take i ++ x :: l.drop i).take i ++ (l.take i ++ x :: l.drop i).drop (i + 1) = l := by
  have hl : (l.take i).length = i := by rw [List.length_take]; omega
  rw [List.take_append_of_le_length (by omega), List.take_of_length_le (l := l.take i) (by omega), List.drop_append, List.drop_of_length_le (l := l.take i) (by omega), hl, Nat.add_sub_cancel_left]
  exact List.take_append_drop i l
theorem cut_ins (l : List Nd) (i : Nat) (h : i < l.length) : (l.take i ++ l.drop (i + 1)).take i ++ l.getD i dflt :: (l.take i ++ l.drop (i + 1)).drop i = l := by
  have hl : (l.take i).length = i := by rw [List.length_take]; omega
  rw [List.take_append_of_le_length (by omega), List.take_of_length_le (l := l.take i) (by omega), List.drop_append_of_le_length (by omega), List.drop_of_length_le (l := l.take i) (by omega), List.nil_append, getD_lt l i h, ← List.drop_eq_getElem_cons h]
  exact List.take_append_drop i l
theorem at_got : ∀ (p : List Int) (l : List Nd) (d : Nd), atP l p d → got l p = d
  | [], _, _, h => h.elim
  | k :: p, l, d, h => by
    obtain ⟨i, rfl, hi, hx⟩ := h
    rw [got, Int.toNat_natCast]
    rcases hx with ⟨rfl, hx⟩ | ⟨hp, hx⟩
    · rw [if_pos rfl]; exact hx
    · rw [if_neg hp]; exact at_got p _ d hx
/-- where something is, one may put -/
theorem pl_of_at : ∀ (p : List Int) (l : List Nd) (d : Nd), atP l p d → wfs l → plP l p
  | [], _, _, h, _ => h.elim
  | k :: p, l, d, h, hw => by
    obtain ⟨i, rfl, hi, hx⟩ := h
    have hwe := wfs_mem hw _ (getD_memG dflt l i hi)
    rw [wf_eq] at hwe
    rcases hx with ⟨rfl, hx⟩ | ⟨hp, hx⟩
    · exact ⟨i, rfl, .inl ⟨rfl, by omega⟩⟩
    · refine ⟨i, rfl, .inr ⟨hp, hi, ?_, pl_of_at p _ d hx hwe.2⟩⟩
      intro h
      rw [hwe.1 h] at hx
      cases p with
      | nil => exact hp rfl
      | cons a b => obtain ⟨j, _, hj, _⟩ := hx; simp at hj
theorem ins_at : ∀ (p : List Int) (l : List Nd) (x : Nd), plP l p → atP (insP l p x) p x ∧ cutP (insP l p x) p = l
  | [], _, _, h => h.elim
  | k :: p, l, x, h => by
    obtain ⟨i, rfl, hx⟩ := h
    rcases hx with ⟨rfl, hi⟩ | ⟨hp, hi, hn, hx⟩
    · refine ⟨⟨i, rfl, ?_, .inl ⟨rfl, ?_⟩⟩, ?_⟩
      · rw [insP, if_pos rfl, Int.toNat_natCast]; simp; omega
      · rw [insP, if_pos rfl, Int.toNat_natCast, ins_getD l i x hi]
      · rw [cutP, if_pos rfl, insP, if_pos rfl, Int.toNat_natCast, ins_cut l i x hi]
    · obtain ⟨h1, h2⟩ := ins_at p _ x hx
      refine ⟨⟨i, rfl, ?_, .inr ⟨hp, ?_⟩⟩, ?_⟩
      · rw [insP, if_neg hp, List.length_set]; exact hi
      · rw [insP, if_neg hp, Int.toNat_natCast, set_getD_eq _ _ _ hi]; exact h1
      · rw [cutP, if_neg hp, insP, if_neg hp, Int.toNat_natCast, set_getD_eq _ _ _ hi]
        rw [show (withP (l.getD i dflt) (insP (l.getD i dflt).parts p x)).parts = insP (l.getD i dflt).parts p x from rfl, h2, withP_withP, withP_self, List.set_set, set_getD_self l i hi]
theorem cut_at : ∀ (p : List Int) (l : List Nd) (d : Nd), atP l p d → wfs l → plP (cutP l p) p ∧ insP (cutP l p) p d = l
  | [], _, _, h, _ => h.elim
  | k :: p, l, d, h, hw => by
    obtain ⟨i, rfl, hi, hx⟩ := h
    have hwe := wfs_mem hw _ (getD_memG dflt l i hi)
    rw [wf_eq] at hwe
    rcases hx with ⟨rfl, hx⟩ | ⟨hp, hx⟩
    · refine ⟨⟨i, rfl, .inl ⟨rfl, ?_⟩⟩, ?_⟩
      · rw [cutP, if_pos rfl, Int.toNat_natCast]; simp; omega
      · rw [insP, if_pos rfl, cutP, if_pos rfl, Int.toNat_natCast, ← hx, cut_ins l i hi]
    · have hn : (l.getD i dflt).name ≠ [] := by
        intro h
        rw [hwe.1 h] at hx
        cases p with
        | nil => exact hp rfl
        | cons a b => obtain ⟨j, _, hj, _⟩ := hx; simp at hj
      obtain ⟨h1, h2⟩ := cut_at p _ d hx hwe.2
      refine ⟨⟨i, rfl, .inr ⟨hp, ?_, ?_, ?_⟩⟩, ?_⟩
      · rw [cutP, if_neg hp, List.length_set]; exact hi
      · rw [cutP, if_neg hp, Int.toNat_natCast, set_getD_eq _ _ _ hi]; exact hn
      · rw [cutP, if_neg hp, Int.toNat_natCast, set_getD_eq _ _ _ hi]; exact h1
      · rw [insP, if_neg hp, cutP, if_neg hp, Int.toNat_natCast, set_getD_eq _ _ _ hi]
        rw [show (withP (l.getD i dflt) (cutP (l.getD i dflt).parts p)).parts = cutP (l.getD i dflt).parts p from rfl, h2, withP_withP, withP_self, List.set_set, set_getD_self l i hi]
theorem set_at : ∀ (p : List Int) (l : List Nd) (d x : Nd), atP l p d → setP (setP l p x) p d = l
  | [], _, _, _, h => h.elim
  | k :: p, l, d, x, h => by
    obtain ⟨i, rfl, hi, hx⟩ := h
    rw [setP, setP, Int.toNat_natCast, set_getD_eq _ _ _ hi, List.set_set]
    rcases hx with ⟨rfl, hx⟩ | ⟨hp, hx⟩
    · rw [if_pos rfl, ← hx, set_getD_self l i hi]
    · rw [if_neg hp, if_neg hp, show (withP (l.getD i dflt) (setP (l.getD i dflt).parts p x)).parts = setP (l.getD i dflt).parts p x from rfl, set_at p _ d x hx, withP_withP, withP_self, set_getD_self l i hi]
/-! sizes, and nodes without a name -/
theorem szs_set (l : List Nd) : ∀ (i : Nat) (e : Nd), i < l.length → szs (l.set i e) + (l.getD i dflt).sz = szs l + e.sz := by
  induction l with
  | nil => intro i e h; simp at h
  | cons a l ih =>
    intro i e h
    cases i with
    | zero => simp [szs]; omega
    | succ i => have := ih i e (by simpa using h); simp only [List.set_cons_succ, szs, List.getD_cons_succ]; omega
theorem szs_td (l : List Nd) (i : Nat) : szs (l.take i) + szs (l.drop i) = szs l := by rw [← szs_append, List.take_append_drop]
theorem wfs_iff (l : List Nd) : wfs l ↔ ∀ d ∈ l, d.wf := by
  induction l with
  | nil => simp [wfs]
  | cons a l ih => simp [wfs, ih]
theorem wfs_set {l : List Nd} (h : wfs l) (i : Nat) (e : Nd) (he : e.wf) : wfs (l.set i e) := by
  rw [wfs_iff] at h ⊢
  intro d hd
  rcases List.mem_or_eq_of_mem_set hd with h' | h'
  · exact h d h'
  · rw [h']; exact he
theorem wf_withP {d : Nd} {q : List Nd} (hn : d.name ≠ []) (hq : wfs q) : (withP d q).wf := (wf_eq _).2 ⟨fun h => absurd h hn, hq⟩
theorem ins_ok : ∀ (p : List Int) (l : List Nd) (x : Nd), plP l p → wfs l → x.wf → wfs (insP l p x) ∧ szs (insP l p x) ≤ szs l + x.sz
  | [], _, _, h, _, _ => h.elim
  | k :: p, l, x, h, hw, hx0 => by
    obtain ⟨i, rfl, hx⟩ := h
    rcases hx with ⟨rfl, hi⟩ | ⟨hp, hi, hn, hx⟩
    · rw [insP, if_pos rfl, Int.toNat_natCast]
      refine ⟨?_, ?_⟩
      · rw [wfs_iff] at hw ⊢
        intro d hd
        rcases List.mem_append.1 hd with h | h
        · exact hw d (List.mem_of_mem_take h)
        · rcases List.mem_cons.1 h with h | h
          · rw [h]; exact hx0
          · exact hw d (List.mem_of_mem_drop h)
      · have := szs_td l i
        rw [szs_append]; simp only [szs]; omega
    · have hwe := wfs_mem hw _ (getD_memG dflt l i hi)
      rw [wf_eq] at hwe
      obtain ⟨h1, h2⟩ := ins_ok p _ x hx hwe.2 hx0
      rw [insP, if_neg hp, Int.toNat_natCast]
      refine ⟨wfs_set hw _ _ (wf_withP hn h1), ?_⟩
      have h3 := szs_set l i (withP (l.getD i dflt) (insP (l.getD i dflt).parts p x)) hi
      have h4 := sz_eq (l.getD i dflt)
      have h5 := sz_eq (withP (l.getD i dflt) (insP (l.getD i dflt).parts p x))
      simp only [attrs_mk, parts_mk] at h5
      omega
theorem cut_ok : ∀ (p : List Int) (l : List Nd) (d : Nd), atP l p d → wfs l → wfs (cutP l p) ∧ szs (cutP l p) ≤ szs l ∧ d.wf ∧ d.sz ≤ szs l
  | [], _, _, h, _ => h.elim
  | k :: p, l, d, h, hw => by
    obtain ⟨i, rfl, hi, hx⟩ := h
    have hwe := wfs_mem hw _ (getD_memG dflt l i hi)
    have hse := at_sz l i hi
    have hwe' := hwe
    rw [wf_eq] at hwe
    rcases hx with ⟨rfl, hx⟩ | ⟨hp, hx⟩
    · rw [cutP, if_pos rfl, Int.toNat_natCast]
      refine ⟨?_, ?_, by rw [← hx]; exact hwe', by rw [← hx]; exact hse⟩
      · rw [wfs_iff] at hw ⊢
        intro d hd
        rcases List.mem_append.1 hd with h | h
        · exact hw d (List.mem_of_mem_take h)
        · exact hw d (List.mem_of_mem_drop h)
      · have h1 := szs_td l i
        have h2 := szs_td (l.drop i) 1
        rw [List.drop_drop] at h2
        rw [szs_append]; omega
    · have hn : (l.getD i dflt).name ≠ [] := by
        intro h
        rw [hwe.1 h] at hx
        cases p with
        | nil => exact hp rfl
        | cons a b => obtain ⟨j, _, hj, _⟩ := hx; simp at hj
      obtain ⟨h1, h2, h6, h7⟩ := cut_ok p _ d hx hwe.2
      have h4 := sz_eq (l.getD i dflt)
      rw [cutP, if_neg hp, Int.toNat_natCast]
      refine ⟨wfs_set hw _ _ (wf_withP hn h1), ?_, h6, by omega⟩
      have h3 := szs_set l i (withP (l.getD i dflt) (cutP (l.getD i dflt).parts p)) hi
      have h5 := sz_eq (withP (l.getD i dflt) (cutP (l.getD i dflt).parts p))
      simp only [attrs_mk, parts_mk] at h5
      omega
theorem set_ok : ∀ (p : List Int) (l : List Nd) (d x : Nd), atP l p d → wfs l → x.wf → wfs (setP l p x)
  | [], _, _, _, h, _, _ => h.elim
  | k :: p, l, d, x, h, hw, hx0 => by
    obtain ⟨i, rfl, hi, hx⟩ := h
    have hwe := wfs_mem hw _ (getD_memG dflt l i hi)
    rw [wf_eq] at hwe
    rw [setP, Int.toNat_natCast]
    rcases hx with ⟨rfl, hx⟩ | ⟨hp, hx⟩
    · rw [if_pos rfl]; exact wfs_set hw _ _ hx0
    · have hn : (l.getD i dflt).name ≠ [] := by
        intro h
        rw [hwe.1 h] at hx
        cases p with
        | nil => exact hp rfl
        | cons a b => obtain ⟨j, _, hj, _⟩ := hx; simp at hj
      rw [if_neg hp]
      exact wfs_set hw _ _ (wf_withP hn (set_ok p _ d x hx hwe.2 hx0))
end Nd
/-! lists of changes -/
def Ch.app (l : List Nd) (c : Ch) : List Nd := if c.kind = 1 then Nd.insP l c.path c.node else if c.kind = 2 then Nd.cutP l c.path else Nd.setP l c.path c.node
def Ch.back (l : List Nd) (c : Ch) : Ch := if c.kind = 1 then ⟨2, c.path, Nd.dflt⟩ else if c.kind = 2 then ⟨1, c.path, Nd.got l c.path⟩ else ⟨3, c.path, Nd.got l c.path⟩
structure Ch.ok (B : Nat) (l : List Nd) (c : Ch) : Prop where
  sz : Nd.szs l ≤ B
  wf : Nd.wfs l
  nsz : c.node.sz ≤ B
  nwf : c.node.wf
  len : c.path.length ≤ B
  kind : (c.kind = 1 ∧ Nd.plP l c.path) ∨ (c.kind = 2 ∧ c.node = Nd.dflt ∧ ∃ d, Nd.atP l c.path d) ∨ (c.kind = 3 ∧ ∃ d, Nd.atP l c.path d)
theorem Ch.back_ok {B : Nat} {l : List Nd} {c : Ch} (h : Ch.ok B l c) (hs : Nd.szs (c.app l) ≤ B) (hB : Nd.dflt.sz ≤ B) : Ch.ok B (c.app l) (c.back l) ∧ (c.back l).app (c.app l) = l ∧ (c.back l).back (c.app l) = c := by
  obtain ⟨k, p, x⟩ := c
  have hw0 : Nd.dflt.wf := (Nd.wf_eq _).2 ⟨fun _ => rfl, trivial⟩
  rcases h.kind with ⟨hk, hp⟩ | ⟨hk, hx, d, hd⟩ | ⟨hk, d, hd⟩
  · simp only at hk hp; subst hk
    obtain ⟨h1, h2⟩ := Nd.ins_at p l x hp
    have h3 := Nd.ins_ok p l x hp h.wf h.nwf
    refine ⟨⟨hs, h3.1, hB, hw0, h.len, .inr (.inl ⟨rfl, rfl, x, h1⟩)⟩, h2, ?_⟩
    show Ch.mk 1 p (Nd.got (Nd.insP l p x) p) = _
    rw [Nd.at_got p _ x h1]
  · simp only at hk hx hd; subst hk; subst hx
    obtain ⟨h1, h2⟩ := Nd.cut_at p l d hd h.wf
    obtain ⟨h3, h4, h5, h6⟩ := Nd.cut_ok p l d hd h.wf
    have hg := Nd.at_got p l d hd
    have hsz := h.sz
    refine ⟨⟨hs, h3, by show (Nd.got l p).sz ≤ B; rw [hg]; omega, by show (Nd.got l p).wf; rw [hg]; exact h5, h.len, .inl ⟨rfl, h1⟩⟩, ?_, rfl⟩
    show Nd.insP (Nd.cutP l p) p (Nd.got l p) = l
    rw [hg]; exact h2
  · simp only at hk hd; subst hk
    have h1 := Nd.setP_at p l d x hd
    obtain ⟨_, _, h5, h6⟩ := Nd.cut_ok p l d hd h.wf
    have hg := Nd.at_got p l d hd
    have hsz := h.sz
    refine ⟨⟨hs, Nd.set_ok p l d x hd h.wf h.nwf, by show (Nd.got l p).sz ≤ B; rw [hg]; omega, by show (Nd.got l p).wf; rw [hg]; exact h5, h.len, .inr (.inr ⟨rfl, x, h1⟩)⟩, ?_, ?_⟩
    · show Nd.setP (Nd.setP l p x) p (Nd.got l p) = l
      rw [hg]; exact Nd.set_at p l d x hd
    · show Ch.mk 3 p (Nd.got (Nd.setP l p x) p) = _
      rw [Nd.at_got p _ x h1]
theorem Ch.app_ok {B : Nat} {l : List Nd} {c : Ch} (h : Ch.ok B l c) : Nd.wfs (c.app l) ∧ Nd.szs (c.app l) ≤ Nd.szs l + c.node.sz := by
  obtain ⟨k, p, x⟩ := c
  rcases h.kind with ⟨hk, hp⟩ | ⟨hk, hx, d, hd⟩ | ⟨hk, d, hd⟩
  · simp only at hk hp; subst hk; exact Nd.ins_ok p l x hp h.wf h.nwf
  · simp only at hk hd; subst hk
    have h1 := Nd.cut_ok p l d hd h.wf
    exact ⟨h1.1, by have := h1.2.1; show Nd.szs (Nd.cutP l p) ≤ _; omega⟩
  · simp only at hk hd; subst hk
    exact ⟨Nd.set_ok p l d x hd h.wf h.nwf, Nd.setP_szs p l d x hd⟩
def Ch.run : List Nd → List Ch → List Nd
  | l, [] => l
  | l, c :: cs => Ch.run (c.app l) cs
def Ch.oks (B : Nat) : List Nd → List Ch → Prop
  | l, [] => Nd.szs l ≤ B ∧ Nd.wfs l
  | l, c :: cs => Ch.ok B l c ∧ Ch.oks B (c.app l) cs
def Ch.backs : List Nd → List Ch → List Ch
  | _, [] => []
  | l, c :: cs => c.back l :: Ch.backs (c.app l) cs
theorem Ch.run_append : ∀ (a b : List Ch) (l : List Nd), Ch.run l (a ++ b) = Ch.run (Ch.run l a) b
  | [], b, l => rfl
  | c :: a, b, l => Ch.run_append a b (c.app l)
theorem Ch.oks_head {B : Nat} {l : List Nd} : ∀ {cs : List Ch}, Ch.oks B l cs → Nd.szs l ≤ B ∧ Nd.wfs l
  | [], h => h
  | _ :: _, h => ⟨h.1.sz, h.1.wf⟩
theorem Ch.oks_append {B : Nat} : ∀ (a b : List Ch) (l : List Nd), Ch.oks B l (a ++ b) ↔ Ch.oks B l a ∧ Ch.oks B (Ch.run l a) b
  | [], b, l => ⟨fun h => ⟨Ch.oks_head h, h⟩, fun h => h.2⟩
  | c :: a, b, l => by
    show (Ch.ok B l c ∧ Ch.oks B (c.app l) (a ++ b)) ↔ (Ch.ok B l c ∧ Ch.oks B (c.app l) a) ∧ Ch.oks B (Ch.run (c.app l) a) b
    rw [Ch.oks_append a b (c.app l), and_assoc]
theorem Ch.backs_append : ∀ (a b : List Ch) (l : List Nd), Ch.backs l (a ++ b) = Ch.backs l a ++ Ch.backs (Ch.run l a) b
  | [], b, l => rfl
  | c :: a, b, l => by rw [List.cons_append, Ch.backs, Ch.backs, Ch.backs_append a b]; rfl
theorem Ch.backs_len : ∀ (cs : List Ch) (l : List Nd), (Ch.backs l cs).length = cs.length
  | [], _ => rfl
  | c :: cs, l => by rw [Ch.backs, List.length_cons, List.length_cons, Ch.backs_len cs]
/-- WHAT IS UNDONE IS UNDONE -/
theorem Ch.undo {B : Nat} (hB : Nd.dflt.sz ≤ B) : ∀ (cs : List Ch) (l : List Nd), Ch.oks B l cs → Ch.oks B (Ch.run l cs) (Ch.backs l cs).reverse ∧ Ch.run (Ch.run l cs) (Ch.backs l cs).reverse = l ∧ (Ch.backs (Ch.run l cs) (Ch.backs l cs).reverse).reverse = cs
  | [], l, h => ⟨h, rfl, rfl⟩
  | c :: cs, l, h => by
    obtain ⟨h1, h2, h3⟩ := Ch.undo hB cs (c.app l) h.2
    obtain ⟨h4, h5, h6⟩ := Ch.back_ok h.1 (Ch.oks_head h.2).1 hB
    have hr : Ch.run l (c :: cs) = Ch.run (c.app l) cs := rfl
    rw [hr, Ch.backs, List.reverse_cons]
    refine ⟨?_, ?_, ?_⟩
    · rw [Ch.oks_append, h2]
      exact ⟨h1, h4, by rw [h5]; exact ⟨h.1.sz, h.1.wf⟩⟩
    · rw [Ch.run_append, h2]; exact h5
    · rw [Ch.backs_append, h2, List.reverse_append]
      show [(c.back l).back (c.app l)].reverse ++ _ = _
      rw [h6, h3]; rfl
/-- a step of many -/
theorem Ch.oks_step {B : Nat} : ∀ (cs : List Ch) (l : List Nd) (i : Nat), Ch.oks B l cs → i < cs.length → Ch.ok B (Ch.run l (cs.take i)) (cs.getD i Ch.dfl) ∧ Ch.run l (cs.take (i + 1)) = (cs.getD i Ch.dfl).app (Ch.run l (cs.take i)) ∧ (Ch.backs l cs).getD i Ch.dfl = (cs.getD i Ch.dfl).back (Ch.run l (cs.take i))
  | [], _, _, _, h => by simp at h
  | c :: cs, l, 0, h, _ => ⟨h.1, rfl, rfl⟩
  | c :: cs, l, i + 1, h, hi => by
    have := Ch.oks_step cs (c.app l) i h.2 (by simpa using hi)
    exact this
theorem Ch.backs_row (cs : List Ch) (l : List Nd) : (List.range cs.length).map (fun j => (Ch.backs l cs).getD j Ch.dfl) = Ch.backs l cs := by
  have hl := Ch.backs_len cs l
  apply List.ext_getElem
  · simp [hl]
  · intro j h1 h2
    simp [List.getD_eq_getElem?_getD, h2]
/-- the first i and the last i elements have changed places -/
def rvc (cs : List Ch) (i : Nat) : List Ch := (List.range cs.length).map fun k => if k < i ∨ cs.length ≤ k + i then cs.getD (cs.length - 1 - k) Ch.dfl else cs.getD k Ch.dfl
theorem rvc_len (cs : List Ch) (i : Nat) : (rvc cs i).length = cs.length := by simp [rvc]
theorem rvc_get (cs : List Ch) (i k : Nat) (hk : k < cs.length) : (rvc cs i)[k]? = some (if k < i ∨ cs.length ≤ k + i then cs.getD (cs.length - 1 - k) Ch.dfl else cs.getD k Ch.dfl) := by
  rw [rvc, List.getElem?_map, List.getElem?_range hk]; rfl
theorem rvc_zero (cs : List Ch) : rvc cs 0 = cs := by
  apply List.ext_getElem?
  intro k
  by_cases hk : k < cs.length
  · rw [rvc_get cs 0 k hk, if_neg (by omega), List.getD_eq_getElem?_getD, List.getElem?_eq_getElem hk]; rfl
  · rw [List.getElem?_eq_none (by rw [rvc_len]; omega), List.getElem?_eq_none (by omega)]
theorem rvc_done (cs : List Ch) (i : Nat) (h : cs.length ≤ 2 * i + 1) : rvc cs i = cs.reverse := by
  apply List.ext_getElem?
  intro k
  by_cases hk : k < cs.length
  · rw [rvc_get cs i k hk, List.getElem?_reverse hk]
    by_cases hc : k < i ∨ cs.length ≤ k + i
    · rw [if_pos hc, List.getD_eq_getElem?_getD, List.getElem?_eq_getElem (show cs.length - 1 - k < cs.length by omega)]; rfl
    · have : k = cs.length - 1 - k := by omega
      rw [if_neg hc, ← this, List.getD_eq_getElem?_getD, List.getElem?_eq_getElem hk]; rfl
  · rw [List.getElem?_eq_none (by rw [rvc_len]; omega), List.getElem?_eq_none (by rw [List.length_reverse]; omega)]
theorem rvc_step (cs : List Ch) (i : Nat) (h : 2 * i + 1 < cs.length) : rvc cs (i + 1) = ((rvc cs i).set i ((rvc cs i).getD (cs.length - 1 - i) Ch.dfl)).set (cs.length - 1 - i) ((rvc cs i).getD i Ch.dfl) := by
  have e1 : (rvc cs i).getD (cs.length - 1 - i) Ch.dfl = cs.getD (cs.length - 1 - i) Ch.dfl := by
    rw [List.getD_eq_getElem?_getD, rvc_get cs i _ (by omega), if_neg (by omega)]; rfl
  have e2 : (rvc cs i).getD i Ch.dfl = cs.getD i Ch.dfl := by
    rw [List.getD_eq_getElem?_getD, rvc_get cs i _ (by omega), if_neg (by omega)]; rfl
  rw [e1, e2]
  apply List.ext_getElem?
  intro k
  by_cases hk : k < cs.length
  · rw [rvc_get cs (i + 1) k hk, List.getElem?_set, List.getElem?_set, rvc_get cs i k hk]
    simp only [List.length_set, rvc_len]
    by_cases h1 : cs.length - 1 - i = k
    · subst h1
      rw [if_pos rfl, if_pos (by omega), if_pos (by omega), show cs.length - 1 - (cs.length - 1 - i) = i from by omega]
    · rw [if_neg h1]
      by_cases h2 : i = k
      · subst h2
        rw [if_pos rfl, if_pos (by omega), if_pos (by omega)]
      · rw [if_neg h2]
        by_cases h3 : k < i ∨ cs.length ≤ k + i
        · rw [if_pos h3, if_pos (by omega)]
        · rw [if_neg h3, if_neg (by omega)]
  · rw [List.getElem?_eq_none (by rw [rvc_len]; omega), List.getElem?_eq_none (by simp only [List.length_set, rvc_len]; omega)]
/-- what tells of a change that is drawn -/
structure Tn where
  kind : Int
  path : Int
  node : List Int
abbrev tnv (t : Tn) : AV := .agg [.int t.kind, .int t.path, .sl 1 (t.node.map AV.int)]
theorem sum_take {α : Type} (f : α → Nat) (l : List α) (i : Nat) (d : α) (h : i < l.length) : ((l.take (i + 1)).map f).sum = ((l.take i).map f).sum + f (l.getD i d) := by
  rw [List.take_add_one, List.getElem?_eq_getElem h, List.map_append, List.sum_append, List.getD_eq_getElem?_getD, List.getElem?_eq_getElem h]
  simp
theorem sum_le {α : Type} (f : α → Nat) (l : List α) (i : Nat) : ((l.take i).map f).sum ≤ (l.map f).sum := by
  have : l.map f = (l.take i).map f ++ (l.drop i).map f := by rw [← List.map_append, List.take_append_drop]
  rw [this, List.sum_append]; omega
end Go.Vl
