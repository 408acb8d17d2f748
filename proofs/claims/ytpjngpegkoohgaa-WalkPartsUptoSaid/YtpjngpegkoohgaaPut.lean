/-
  The first nodes of a tree, in the order of the document: put in one by one they give the tree.
-/
import Derived.Test.YtpjngpegkoohgaaChange
set_option linter.unusedVariables false
set_option linter.unusedSimpArgs false
namespace Go.Vl
namespace Nd
/-- the first m nodes of trees -/
def tk : Nat → List Nd → List Nd
  | 0, _ => []
  | _ + 1, [] => []
  | m + 1, d :: l => withP d (tk m d.parts) :: tk (m - cnts d.parts) l
termination_by _ l => szs l
decreasing_by
  · have := sz_eq d; simp only [szs]; omega
  · have := sz_eq d; simp only [szs]; omega
theorem tk_zero (l : List Nd) : tk 0 l = [] := by rw [tk]
theorem tk_nil (m : Nat) : tk m [] = [] := by cases m <;> rw [tk]
theorem tk_cons (m : Nat) (d : Nd) (l : List Nd) : tk (m + 1) (d :: l) = withP d (tk m d.parts) :: tk (m - cnts d.parts) l := by rw [tk]
theorem withP_parts (d : Nd) : withP d d.parts = d := by cases d; rfl
theorem tk_full : ∀ (l : List Nd) (m : Nat), cnts l ≤ m → tk m l = l
  | [], m, _ => tk_nil m
  | d :: l, m, h => by
    simp only [cnts, cnt_eq] at h
    obtain ⟨k, rfl⟩ : ∃ k, m = k + 1 := ⟨m - 1, by omega⟩
    rw [tk_cons, tk_full d.parts k (by omega), withP_parts, tk_full l (k - cnts d.parts) (by omega)]
termination_by l => szs l
decreasing_by
  · have := sz_eq d; simp only [szs]; omega
  · have := sz_eq d; simp only [szs]; omega
theorem tk_szs : ∀ (m : Nat) (l : List Nd), szs (tk m l) ≤ szs l
  | 0, l => by rw [tk_zero]; simp [szs]
  | m + 1, [] => by rw [tk_nil]; exact Nat.le_refl _
  | m + 1, d :: l => by
    have h1 := tk_szs m d.parts
    have h2 := tk_szs (m - cnts d.parts) l
    have h3 := sz_eq d
    have h4 := sz_eq (withP d (tk m d.parts))
    simp only [attrs_mk, parts_mk] at h4
    rw [tk_cons]
    simp only [szs]
    omega
termination_by _ l => szs l
decreasing_by
  · have := sz_eq d; simp only [szs]; omega
  · have := sz_eq d; simp only [szs]; omega
theorem getD_mid (A : List Nd) (e : Nd) (l : List Nd) : (A ++ e :: l).getD A.length dflt = e := by
  rw [List.getD_eq_getElem?_getD, List.getElem?_append_right (Nat.le_refl _), Nat.sub_self]; rfl
theorem put_tk : ∀ (l A : List Nd) (m : Nat) (p : List Int) (d : Nd), wfs l → (pthsFrom A.length l)[m]? = some p → atP (A ++ l) p d →
    endP (A ++ tk m l) p ∧ putP (A ++ tk m l) p (withP d []) = A ++ tk (m + 1) l
  | [], A, m, p, d, _, h, _ => by simp [pthsFrom] at h
  | e :: l, A, 0, p, d, hw, h, ha => by
    rw [pthsFrom, List.getElem?_cons_zero] at h
    obtain rfl := Option.some.inj h
    obtain ⟨i, hi, hlt, hx⟩ := ha
    obtain rfl : A.length = i := by omega
    rcases hx with ⟨_, hx⟩ | ⟨hx, _⟩
    · rw [getD_mid] at hx
      subst hx
      rw [tk_zero, List.append_nil]
      refine ⟨⟨A.length, rfl, .inl ⟨rfl, rfl⟩⟩, ?_⟩
      rw [putP, if_pos rfl, tk_cons, tk_zero, Nat.zero_sub, tk_zero]
    · exact absurd rfl hx
  | e :: l, A, m + 1, p, d, hw, h, ha => by
    rw [pthsFrom, List.getElem?_cons_succ] at h
    have hpl : (e.pths.map fun q => (A.length : Int) :: q).length = cnts e.parts := by rw [List.length_map, pths_eq, pthsFrom_len]
    obtain ⟨hwe, hwl⟩ : e.wf ∧ wfs l := hw
    rw [wf_eq] at hwe
    by_cases hm : m < cnts e.parts
    · rw [List.getElem?_append_left (by rw [hpl]; exact hm), List.getElem?_map, pths_eq] at h
      obtain ⟨q, hq, rfl⟩ := Option.map_eq_some_iff.1 h
      have hqm : q ∈ pthsFrom 0 e.parts := List.mem_of_getElem? hq
      have hq0 : q ≠ [] := by
        obtain ⟨i, r, hr, _⟩ := mem_paths e.parts 0 q hqm
        rw [hr]; simp
      obtain ⟨i, hi, hlt, hx⟩ := ha
      obtain rfl : A.length = i := by omega
      rcases hx with ⟨hx, _⟩ | ⟨_, hx⟩
      · exact absurd hx hq0
      · rw [getD_mid] at hx
        obtain ⟨h1, h2⟩ := put_tk e.parts [] m q d hwe.2 hq hx
        rw [List.nil_append] at h1 h2
        rw [List.nil_append] at h2
        have e1 : tk (m + 1) (e :: l) = [withP e (tk m e.parts)] := by rw [tk_cons, show m - cnts e.parts = 0 from by omega, tk_zero]
        have e2 : tk (m + 1 + 1) (e :: l) = [withP e (tk (m + 1) e.parts)] := by rw [tk_cons, show m + 1 - cnts e.parts = 0 from by omega, tk_zero]
        have hn : e.name ≠ [] := fun h0 => by rw [hwe.1 h0] at hm; simp [cnts] at hm
        rw [e1, e2]
        refine ⟨⟨A.length, rfl, .inr ⟨hq0, by simp, ?_, ?_⟩⟩, ?_⟩
        · rw [getD_mid]; exact hn
        · rw [getD_mid]; exact h1
        · rw [putP, if_neg hq0, Int.toNat_natCast, getD_mid]
          rw [show (withP e (tk m e.parts)).parts = tk m e.parts from rfl, h2]
          rw [List.set_append_right _ _ (Nat.le_refl _), Nat.sub_self]
          rfl
    · rw [List.getElem?_append_right (by rw [hpl]; omega), hpl] at h
      have e1 : tk (m + 1) (e :: l) = e :: tk (m - cnts e.parts) l := by rw [tk_cons, tk_full e.parts m (by omega), withP_parts]
      have e2 : tk (m + 1 + 1) (e :: l) = e :: tk (m - cnts e.parts + 1) l := by rw [tk_cons, tk_full e.parts (m + 1) (by omega), withP_parts, show m + 1 - cnts e.parts = m - cnts e.parts + 1 from by omega]
      have h' := put_tk l (A ++ [e]) (m - cnts e.parts) p d hwl (by rw [List.length_append]; exact h) (by rw [List.append_assoc]; exact ha)
      rw [e1, e2]
      rw [List.append_assoc, List.append_assoc] at h'
      exact h'
termination_by l => szs l
decreasing_by
  · have := sz_eq e; simp only [szs]; omega
  · have := sz_eq e; simp only [szs]; omega
end Nd
open Go Go.Sem
/-- nil in a box stands for the row of no element -/
theorem W.nilBox {x : Cx} {L : List (Tmp × Bool × AV)} {M A B : List ME} {R : Act → World → Prop} {b T : Nat} {cs cs' : List AV} (hM : M = A ++ ME.box b T cs :: B) (hc : NilL cs cs') (next : W x L (A ++ ME.box b T cs' :: B) R) : W x L M R := by
  intro a w hs
  subst hM
  have hbl : bl (A ++ ME.box b T cs' :: B) = bl (A ++ ME.box b T cs :: B) := by simp [bl, ME.blks]
  refine next a w ⟨hs.defers, hs.size, ?_, ⟨by rw [hbl]; exact hs.mem.nodup, by rw [hbl]; exact hs.mem.apart, ?_⟩, by rw [hbl]; exact hs.fr, hs.old⟩
  · rw [hbl]; exact hs.slots
  · rw [hbl]
    intro m hm
    rcases List.mem_append.1 hm with h | h
    · exact hs.mem.holds m (List.mem_append_left _ h)
    · rcases List.mem_cons.1 h with rfl | h
      · obtain ⟨cur, h1, h2⟩ := hs.mem.holds (ME.box b T cs) (List.mem_append_right _ List.mem_cons_self)
        exact ⟨cur, h1, hc.rep h2⟩
      · exact hs.mem.holds m (List.mem_append_right _ (List.mem_cons_of_mem _ h))
end Go.Vl
