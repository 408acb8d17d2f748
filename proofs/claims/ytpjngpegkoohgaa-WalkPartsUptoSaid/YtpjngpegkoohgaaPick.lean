/-
  Selectors, without a program.
-/
import Derived.Test.YtpjngpegkoohgaaCallG
set_option linter.unusedVariables false
set_option linter.unusedSimpArgs false
namespace Go.Vl
structure Pk where
  name : List UInt8
  attr : List UInt8
  deep : Bool
abbrev kav (p : Pk) : AV := .agg [.str p.name, .str p.attr, .bool p.deep]
namespace Pk
abbrev dfl : Pk := ⟨[], [], false⟩
def fits (p : Pk) (d : Nd) : Bool := !(d.name == [] || (p.name != [] && p.name != d.name)) && (p.attr == [] || d.attrs.any fun a => a.1 == p.attr)
abbrev Fl := Nat → Bool
abbrev row (n : Nat) (f : Fl) : AV := .sl 1 ((List.range n).map fun k => AV.bool (f k))
def ahead (ps : List Pk) (r w : Fl) (k : Nat) : Bool := (k == 0 || ((ps.getD k dfl).deep && w (k - 1))) || (!(ps.getD k dfl).deep && r (k - 1))
def ends (ps : List Pk) (r w : Fl) (d : Nd) (k : Nat) : Bool := ahead ps r w k && fits (ps.getD k dfl) d
def far (ps : List Pk) (r w : Fl) (d : Nd) (k : Nat) : Bool := w k || ends ps r w d k
mutual
/-- the paths that are found within a node, among nodes -/
def fnd (ps : List Pk) : Nd → List Int → Fl → Fl → List (List Int)
  | .mk n a t q, path, r, w => fnds ps 0 q path r w
def fnds (ps : List Pk) : Nat → List Nd → List Int → Fl → Fl → List (List Int)
  | _, [], _, _, _ => []
  | i, d :: l, path, r, w =>
    (if d.name = [] then [] else (if ends ps r w d (ps.length - 1) then [path ++ [(i : Int)]] else []) ++ fnd ps d (path ++ [(i : Int)]) (ends ps r w d) (far ps r w d)) ++ fnds ps (i + 1) l path r w
end
theorem fnd_eq (ps : List Pk) (d : Nd) (path : List Int) (r w : Fl) : fnd ps d path r w = fnds ps 0 d.parts path r w := by cases d; rfl
theorem fnds_append (ps : List Pk) (path : List Int) (r w : Fl) (l m : List Nd) : ∀ k, fnds ps k (l ++ m) path r w = fnds ps k l path r w ++ fnds ps (k + l.length) m path r w := by
  induction l with
  | nil => intro k; simp [fnds]
  | cons d l ih => intro k; rw [List.cons_append, fnds, fnds, ih, List.append_assoc]; simp [Nat.add_assoc, Nat.add_comm 1]
theorem fnds_snoc (ps : List Pk) (path : List Int) (r w : Fl) (l : List Nd) (i : Nat) (h : i < l.length) : fnds ps 0 (l.take (i + 1)) path r w = fnds ps 0 (l.take i) path r w ++
    (if (l.getD i Nd.dflt).name = [] then [] else (if ends ps r w (l.getD i Nd.dflt) (ps.length - 1) then [path ++ [(i : Int)]] else []) ++ fnds ps 0 (l.getD i Nd.dflt).parts (path ++ [(i : Int)]) (ends ps r w (l.getD i Nd.dflt)) (far ps r w (l.getD i Nd.dflt))) := by
  rw [take_getDG Nd.dflt l i h, fnds_append, fnds, fnds, List.append_nil, fnd_eq]
  have : (l.take i).length = i := by rw [List.length_take]; omega
  rw [this, Nat.zero_add]
mutual
theorem fnd_len (ps : List Pk) : ∀ (d : Nd) (path : List Int) (r w : Fl), (fnd ps d path r w).length + 1 ≤ d.sz
  | .mk n a t q, path, r, w => by have := fnds_len ps q 0 path r w; simp only [fnd, Nd.sz]; omega
theorem fnds_len (ps : List Pk) : ∀ (l : List Nd) (i : Nat) (path : List Int) (r w : Fl), (fnds ps i l path r w).length ≤ Nd.szs l
  | [], _, _, _, _ => Nat.zero_le _
  | d :: l, i, path, r, w => by
    have h1 := fnd_len ps d (path ++ [(i : Int)]) (ends ps r w d) (far ps r w d)
    have h2 := fnds_len ps l (i + 1) path r w
    rw [fnds, List.length_append, Nd.szs]
    split
    · simp only [List.length_nil]; omega
    · rw [List.length_append]
      split <;> simp only [List.length_nil, List.length_cons] <;> omega
end
mutual
/-- what looser picks find -/
theorem fnd_sub (ps ps' : List Pk) (Rel : Fl → Fl → Fl → Fl → Prop)
    (hs : ∀ d r w r' w', d.name ≠ [] → Rel r w r' w' → Rel (ends ps r w d) (far ps r w d) (ends ps' r' w' d) (far ps' r' w' d) ∧ (ends ps r w d (ps.length - 1) = true → ends ps' r' w' d (ps'.length - 1) = true)) :
    ∀ (d : Nd) (path : List Int) (r w r' w' : Fl), Rel r w r' w' → ∀ q ∈ fnd ps d path r w, q ∈ fnd ps' d path r' w'
  | .mk n a t p, path, r, w, r', w', hr, q, hq => by rw [fnd] at hq ⊢; exact fnds_sub ps ps' Rel hs p 0 path r w r' w' hr q hq
theorem fnds_sub (ps ps' : List Pk) (Rel : Fl → Fl → Fl → Fl → Prop)
    (hs : ∀ d r w r' w', d.name ≠ [] → Rel r w r' w' → Rel (ends ps r w d) (far ps r w d) (ends ps' r' w' d) (far ps' r' w' d) ∧ (ends ps r w d (ps.length - 1) = true → ends ps' r' w' d (ps'.length - 1) = true)) :
    ∀ (l : List Nd) (i : Nat) (path : List Int) (r w r' w' : Fl), Rel r w r' w' → ∀ q ∈ fnds ps i l path r w, q ∈ fnds ps' i l path r' w'
  | [], _, _, _, _, _, _, _, q, hq => by simp [fnds] at hq
  | d :: l, i, path, r, w, r', w', hr, q, hq => by
    rw [fnds, List.mem_append] at hq ⊢
    rcases hq with hq | hq
    · left
      by_cases hn : d.name = []
      · simp [hn] at hq
      · rw [if_neg hn, List.mem_append] at hq ⊢
        obtain ⟨h1, h2⟩ := hs d r w r' w' hn hr
        rcases hq with hq | hq
        · left
          by_cases he : ends ps r w d (ps.length - 1) = true
          · rw [if_pos he] at hq; rw [if_pos (h2 he)]; exact hq
          · rw [if_neg he] at hq; cases hq
        · right
          exact fnd_sub ps ps' Rel hs d _ _ _ _ _ h1 q hq
    · right
      exact fnds_sub ps ps' Rel hs l _ _ _ _ _ _ hr q hq
end
/-- the last pick alone -/
theorem fnds_last (ps : List Pk) (last : Pk) (h : ∀ d, fits (ps.getD (ps.length - 1) dfl) d = true → fits last d = true) (l : List Nd) (path : List Int) (r w r' w' : Fl) :
    ∀ q ∈ fnds ps 0 l path r w, q ∈ fnds [last] 0 l path r' w' := by
  refine fnds_sub ps [last] (fun _ _ _ _ => True) ?_ l 0 path r w r' w' trivial
  intro d r w r' w' hn _
  refine ⟨trivial, fun he => ?_⟩
  simp only [ends, Bool.and_eq_true] at he
  simp [ends, ahead, h d he.2]
/-- looser picks -/
theorem fnds_deep (ps ps' : List Pk) (hl : ps'.length = ps.length) (hd : ∀ k, k < ps'.length → (ps'.getD k dfl).deep = true) (hf : ∀ k d, k < ps.length → fits (ps.getD k dfl) d = true → fits (ps'.getD k dfl) d = true) (hne : 0 < ps.length)
    (l : List Nd) (path : List Int) (n : Nat) : ∀ q ∈ fnds ps 0 l path (fun _ => false) (fun _ => false), q ∈ fnds ps' 0 l path (fun _ => false) (fun _ => false) := by
  refine fnds_sub ps ps' (fun r w _ w' => ∀ k, k < ps.length → (r k = true → w' k = true) ∧ (w k = true → w' k = true)) ?_ l 0 path _ _ _ _ (by simp)
  intro d r w r' w' hn hr
  have key : ∀ k, k < ps.length → ends ps r w d k = true → ends ps' r' w' d k = true := by
    intro k hk he
    simp only [ends, Bool.and_eq_true] at he ⊢
    refine ⟨?_, hf k d hk he.2⟩
    have h1 := he.1
    have h2 := hd k (by omega)
    rcases Nat.eq_zero_or_pos k with h0 | h0
    · simp [ahead, h0]
    · have h3 := hr (k - 1) (by omega)
      simp only [ahead, Bool.or_eq_true, Bool.and_eq_true] at h1 ⊢
      rcases h1 with (h1 | h1) | h1
      · have := eq_of_beq h1; omega
      · exact .inl (.inr ⟨h2, h3.2 h1.2⟩)
      · exact .inl (.inr ⟨h2, h3.1 h1.2⟩)
  refine ⟨fun k hk => ⟨fun h => ?_, fun h => ?_⟩, fun h => by rw [hl]; exact key _ (by omega) h⟩
  · simp only [far, Bool.or_eq_true]; exact .inr (key k hk h)
  · simp only [far, Bool.or_eq_true] at h ⊢
    rcases h with h | h
    · exact .inl ((hr k hk).2 h)
    · exact .inr (key k hk h)
mutual
theorem fnd_sl (ps : List Pk) : ∀ (d : Nd) (path : List Int) (r w : Fl), ∃ S, List.Sublist S (Nd.pths d) ∧ fnd ps d path r w = S.map (path ++ ·)
  | .mk n a t p, path, r, w => by rw [fnd, Nd.pths]; exact fnds_sl ps p 0 path r w
/-- what is found are paths, in their order -/
theorem fnds_sl (ps : List Pk) : ∀ (l : List Nd) (i : Nat) (path : List Int) (r w : Fl), ∃ S, List.Sublist S (Nd.pthsFrom i l) ∧ fnds ps i l path r w = S.map (path ++ ·)
  | [], _, _, _, _ => ⟨[], List.nil_sublist _, rfl⟩
  | d :: l, i, path, r, w => by
    obtain ⟨S1, h1, e1⟩ := fnd_sl ps d (path ++ [(i : Int)]) (ends ps r w d) (far ps r w d)
    obtain ⟨S2, h2, e2⟩ := fnds_sl ps l (i + 1) path r w
    rw [fnds, Nd.pthsFrom, e1, e2]
    have hm : List.Sublist (S1.map ((i : Int) :: ·)) (d.pths.map ((i : Int) :: ·)) := h1.map _
    have em : S1.map ((path ++ [(i : Int)]) ++ ·) = (S1.map ((i : Int) :: ·)).map (path ++ ·) := by
      rw [List.map_map]; congr 1; funext s; simp
    by_cases hn : d.name = []
    · rw [if_pos hn]
      exact ⟨S2, (h2.trans (List.sublist_append_right _ _)).trans (List.sublist_cons_self _ _), rfl⟩
    · rw [if_neg hn, em]
      split
      · exact ⟨[(i : Int)] :: (S1.map ((i : Int) :: ·) ++ S2), (hm.append h2).cons_cons _, by simp⟩
      · exact ⟨S1.map ((i : Int) :: ·) ++ S2, (hm.append h2).cons _, by simp⟩
end
mutual
theorem fnd_at (ps : List Pk) : ∀ (d : Nd) (path : List Int) (r w : Fl), ∀ q ∈ fnd ps d path r w, ∃ s e, q = path ++ s ∧ Nd.atP d.parts s e ∧ e.name ≠ [] ∧ fits (ps.getD (ps.length - 1) dfl) e = true
  | .mk n a t p, path, r, w, q, hq => by
    rw [fnd] at hq
    obtain ⟨j, s, e, h1, h2, h3⟩ := fnds_at ps p 0 path r w q hq
    exact ⟨(j : Int) :: s, e, by rw [h1, Nat.zero_add], h2, h3⟩
/-- the nodes that are found fit the last pick -/
theorem fnds_at (ps : List Pk) : ∀ (l : List Nd) (i : Nat) (path : List Int) (r w : Fl), ∀ q ∈ fnds ps i l path r w, ∃ (j : Nat) (s : List Int) (e : Nd), q = path ++ (((i + j : Nat) : Int) :: s) ∧ Nd.atP l ((j : Int) :: s) e ∧ e.name ≠ [] ∧ fits (ps.getD (ps.length - 1) dfl) e = true
  | [], _, _, _, _, q, hq => by simp [fnds] at hq
  | d :: l, i, path, r, w, q, hq => by
    rw [fnds, List.mem_append] at hq
    rcases hq with hq | hq
    · by_cases hn : d.name = []
      · simp [hn] at hq
      · rw [if_neg hn, List.mem_append] at hq
        rcases hq with hq | hq
        · by_cases he : ends ps r w d (ps.length - 1) = true
          · rw [if_pos he, List.mem_singleton] at hq
            refine ⟨0, [], d, by simpa using hq, ⟨0, rfl, by simp, .inl ⟨rfl, rfl⟩⟩, hn, ?_⟩
            simp only [ends, Bool.and_eq_true] at he; exact he.2
          · rw [if_neg he] at hq; cases hq
        · obtain ⟨s, e, h1, h3, h4⟩ := fnd_at ps d _ _ _ q hq
          refine ⟨0, s, e, by rw [h1, List.append_assoc]; rfl, ⟨0, rfl, by simp, .inr ⟨?_, by simpa using h3⟩⟩, h4⟩
          rintro rfl; exact h3.elim
    · obtain ⟨j, s, e, h1, ⟨k, hk, hlt, hx⟩, h5⟩ := fnds_at ps l (i + 1) path r w q hq
      refine ⟨j + 1, s, e, by rw [h1]; congr 3; omega, ⟨k + 1, by omega, by simp; omega, by simpa using hx⟩, h5⟩
end
theorem fnds_ord (ps : List Pk) (l : List Nd) (r w : Fl) : (fnds ps 0 l [] r w).Pairwise (fun a b => Nd.bfr a b = true) := by
  obtain ⟨S, h, e⟩ := fnds_sl ps l 0 [] r w
  rw [e]
  have : S.map (fun s => [] ++ s) = S := by simp
  rw [this]
  exact (Nd.pthsFrom_ord l 0).sublist h
/-- is a path right ahead of the other one, and part of it? -/
def around (x a : List Int) : Bool := decide (x.length < a.length) && decide (a.take x.length = x)
theorem around_miss (path s t : List Int) (i j : Int) (h : i ≠ j) : around (path ++ i :: s) (path ++ j :: t) = false := by
  cases hc : around (path ++ i :: s) (path ++ j :: t) with
  | false => rfl
  | true =>
    exfalso
    simp only [around, Bool.and_eq_true, decide_eq_true_eq] at hc
    have h1 := congrArg (·[path.length]?) hc.2
    simp at h1
    exact h h1.symm
theorem fnds_shape (ps : List Pk) (l : List Nd) (i : Nat) (path : List Int) (r w : Fl) : ∀ q ∈ fnds ps i l path r w, ∃ (j : Nat) (s : List Int), i ≤ j ∧ q = path ++ (j : Int) :: s := fun q hq => by
  obtain ⟨j, s, e, h1, _⟩ := fnds_at ps l i path r w q hq
  exact ⟨i + j, s, by omega, h1⟩
theorem fnd_shape (ps : List Pk) (d : Nd) (path : List Int) (r w : Fl) : ∀ q ∈ fnd ps d path r w, ∃ (j : Int) (s : List Int), q = path ++ j :: s := fun q hq => by
  rw [fnd_eq] at hq
  obtain ⟨j, s, _, h⟩ := fnds_shape ps _ _ _ _ _ q hq
  exact ⟨j, s, h⟩
mutual
theorem fnd_within (p q : Pk) (hq : q.deep = true) : ∀ (d : Nd) (path : List Int) (r w r1 w1 r2 w2 : Fl), fnd [p, q] d path r w = (fnd [q] d path r1 w1).filter fun a => w 0 || (fnd [p] d path r2 w2).any fun x => around x a
  | .mk _ _ _ l, path, r, w, r1, w1, r2, w2 => by rw [fnd, fnd, fnd]; exact fnds_within p q hq l 0 path r w r1 w1 r2 w2
theorem fnds_within (p q : Pk) (hq : q.deep = true) : ∀ (l : List Nd) (i : Nat) (path : List Int) (r w r1 w1 r2 w2 : Fl), fnds [p, q] i l path r w = (fnds [q] i l path r1 w1).filter fun a => w 0 || (fnds [p] i l path r2 w2).any fun x => around x a
  | [], _, _, _, _, _, _, _, _ => rfl
  | d :: l, i, path, r, w, r1, w1, r2, w2 => by
    have h2 := fnds_within p q hq l (i + 1) path r w r1 w1 r2 w2
    have h1 := fnd_within p q hq d (path ++ [(i : Int)]) (ends [p, q] r w d) (far [p, q] r w d) (ends [q] r1 w1 d) (far [q] r1 w1 d) (ends [p] r2 w2 d) (far [p] r2 w2 d)
    rw [fnds, fnds, fnds, h1, h2]
    rw [List.filter_append]
    have hC : ∀ a ∈ fnds [q] (i + 1) l path r1 w1, (w 0 || ((if d.name = [] then [] else (if ends [p] r2 w2 d ([p].length - 1) then [path ++ [(i : Int)]] else []) ++ fnd [p] d (path ++ [(i : Int)]) (ends [p] r2 w2 d) (far [p] r2 w2 d)) ++ fnds [p] (i + 1) l path r2 w2).any fun x => around x a) =
        (w 0 || (fnds [p] (i + 1) l path r2 w2).any fun x => around x a) := by
      intro a ha
      obtain ⟨j, s, hj, rfl⟩ := fnds_shape _ _ _ _ _ _ a ha
      rw [List.any_append]
      have : ((if d.name = [] then [] else (if ends [p] r2 w2 d ([p].length - 1) then [path ++ [(i : Int)]] else []) ++ fnd [p] d (path ++ [(i : Int)]) (ends [p] r2 w2 d) (far [p] r2 w2 d)).any fun x => around x (path ++ (j : Int) :: s)) = false := by
        rw [List.any_eq_false]
        intro x hx
        split at hx
        · cases hx
        · rw [List.mem_append] at hx
          rcases hx with hx | hx
          · split at hx
            · rw [List.mem_singleton] at hx; subst hx
              rw [around_miss path [] s i j (by omega)]; simp
            · cases hx
          · obtain ⟨j', s', rfl⟩ := fnd_shape _ _ _ _ _ x hx
            have := around_miss path (j' :: s') s i j (by omega)
            simp only [List.append_assoc, List.singleton_append]
            rw [this]; simp
      rw [this, Bool.false_or]
    rw [List.filter_congr hC]
    congr 1
    by_cases hn : d.name = []
    · simp [hn]
    · rw [if_neg hn, if_neg hn, if_neg hn, List.filter_append]
      have e1 : ends [p, q] r w d ([p, q].length - 1) = (w 0 && fits q d) := by simp [ends, ahead, hq]
      have e2 : ends [q] r1 w1 d ([q].length - 1) = fits q d := by simp [ends, ahead]
      have e3 : ends [p] r2 w2 d ([p].length - 1) = fits p d := by simp [ends, ahead]
      have e4 : far [p, q] r w d 0 = (w 0 || fits p d) := by simp [far, ends, ahead]
      rw [e1, e2, e3, e4]
      have hXC : ∀ s : List Int, ((fnds [p] (i + 1) l path r2 w2).any fun x => around x (path ++ (i : Int) :: s)) = false := by
        intro s
        rw [List.any_eq_false]
        intro x hx
        obtain ⟨j, s', hj, rfl⟩ := fnds_shape _ _ _ _ _ _ x hx
        rw [around_miss path s' s j i (by omega)]; simp
      congr 1
      · cases hf : fits q d with
        | false => simp
        | true =>
          rw [Bool.and_true, if_pos rfl, List.filter_cons, List.filter_nil]
          have : (((if fits p d = true then [path ++ [(i : Int)]] else []) ++ fnd [p] d (path ++ [(i : Int)]) (ends [p] r2 w2 d) (far [p] r2 w2 d) ++ fnds [p] (i + 1) l path r2 w2).any fun x => around x (path ++ [(i : Int)])) = false := by
            rw [List.any_append, hXC [], Bool.or_false, List.any_eq_false]
            intro x hx
            rw [List.mem_append] at hx
            rcases hx with hx | hx
            · split at hx
              · rw [List.mem_singleton] at hx; subst hx; simp [around]
              · cases hx
            · obtain ⟨j', s', rfl⟩ := fnd_shape _ _ _ _ _ x hx
              simp [around]
          rw [this, Bool.or_false]
      · refine List.filter_congr ?_
        intro a ha
        obtain ⟨j, s, rfl⟩ := fnd_shape _ _ _ _ _ a ha
        have := hXC (j :: s)
        rw [List.any_append, List.append_assoc, List.singleton_append, this, Bool.or_false, List.any_append, Bool.or_assoc]
        congr 1
        congr 1
        cases fits p d with
        | false => simp
        | true => simp [around, List.take_append, List.take_of_length_le (Nat.le_succ path.length)]
end
mutual
/-- elements; those of a name -/
def els : Nd → Nat
  | .mk _ _ _ l => elss l
def elss : List Nd → Nat
  | [] => 0
  | d :: l => (if d.name = [] then 0 else 1 + els d) + elss l
end
theorem els_eq (d : Nd) : els d = elss d.parts := by cases d; rfl
mutual
def nms (s : List UInt8) : Nd → Nat
  | .mk _ _ _ l => nmss s l
def nmss (s : List UInt8) : List Nd → Nat
  | [] => 0
  | d :: l => (if d.name = [] then 0 else (if d.name = s then 1 else 0) + nms s d) + nmss s l
end
theorem nms_eq (s : List UInt8) (d : Nd) : nms s d = nmss s d.parts := by cases d; rfl
mutual
theorem els_le : ∀ d : Nd, els d + 1 ≤ d.sz
  | .mk _ a _ l => by have := elss_le l; simp only [els, Nd.sz]; omega
theorem elss_le : ∀ l : List Nd, elss l ≤ Nd.szs l
  | [] => Nat.le_refl _
  | d :: l => by have := els_le d; have := elss_le l; simp only [elss, Nd.szs]; split <;> omega
end
mutual
theorem nms_le (s : List UInt8) : ∀ d : Nd, nms s d + 1 ≤ d.sz
  | .mk _ a _ l => by have := nmss_le s l; simp only [nms, Nd.sz]; omega
theorem nmss_le (s : List UInt8) : ∀ l : List Nd, nmss s l ≤ Nd.szs l
  | [] => Nat.le_refl _
  | d :: l => by have := nms_le s d; have := nmss_le s l; simp only [nmss, Nd.szs]; split <;> (try split) <;> omega
end
theorem elss_append (l m : List Nd) : elss (l ++ m) = elss l + elss m := by
  induction l with
  | nil => simp [elss]
  | cons d l ih => rw [List.cons_append, elss, elss, ih]; omega
theorem nmss_append (s : List UInt8) (l m : List Nd) : nmss s (l ++ m) = nmss s l + nmss s m := by
  induction l with
  | nil => simp [nmss]
  | cons d l ih => rw [List.cons_append, nmss, nmss, ih]; omega
theorem elss_snoc (l : List Nd) (i : Nat) (h : i < l.length) : elss (l.take (i + 1)) = elss (l.take i) + (if (l.getD i Nd.dflt).name = [] then 0 else 1 + elss (l.getD i Nd.dflt).parts) := by
  rw [take_getDG Nd.dflt l i h, elss_append, elss, elss, els_eq]; rfl
theorem nmss_snoc (s : List UInt8) (l : List Nd) (i : Nat) (h : i < l.length) : nmss s (l.take (i + 1)) = nmss s (l.take i) + (if (l.getD i Nd.dflt).name = [] then 0 else (if (l.getD i Nd.dflt).name = s then 1 else 0) + nmss s (l.getD i Nd.dflt).parts) := by
  rw [take_getDG Nd.dflt l i h, nmss_append, nmss, nmss, nms_eq]; rfl
mutual
theorem fnd_star (p : Pk) (hp : p.name = [] ∧ p.attr = []) : ∀ (d : Nd) (path : List Int) (r w : Fl), (fnd [p] d path r w).length = els d
  | .mk _ _ _ l, path, r, w => by rw [fnd, els]; exact fnds_stars p hp l 0 path r w
theorem fnds_stars (p : Pk) (hp : p.name = [] ∧ p.attr = []) : ∀ (l : List Nd) (i : Nat) (path : List Int) (r w : Fl), (fnds [p] i l path r w).length = elss l
  | [], _, _, _, _ => rfl
  | d :: l, i, path, r, w => by
    have h1 := fnd_star p hp d (path ++ [(i : Int)]) (ends [p] r w d) (far [p] r w d)
    have h2 := fnds_stars p hp l (i + 1) path r w
    rw [fnds, List.length_append, elss, h2]
    by_cases hn : d.name = []
    · rw [if_pos hn, if_pos hn]; rfl
    · have : ends [p] r w d ([p].length - 1) = true := by simp [ends, ahead, fits, hp, hn]
      rw [if_neg hn, if_neg hn, List.length_append, this, h1, if_pos rfl]; rfl
end
mutual
theorem fnd_name (p : Pk) (hp : p.name ≠ [] ∧ p.attr = []) : ∀ (d : Nd) (path : List Int) (r w : Fl), (fnd [p] d path r w).length = nms p.name d
  | .mk _ _ _ l, path, r, w => by rw [fnd, nms]; exact fnds_name p hp l 0 path r w
theorem fnds_name (p : Pk) (hp : p.name ≠ [] ∧ p.attr = []) : ∀ (l : List Nd) (i : Nat) (path : List Int) (r w : Fl), (fnds [p] i l path r w).length = nmss p.name l
  | [], _, _, _, _ => rfl
  | d :: l, i, path, r, w => by
    have h1 := fnd_name p hp d (path ++ [(i : Int)]) (ends [p] r w d) (far [p] r w d)
    have h2 := fnds_name p hp l (i + 1) path r w
    rw [fnds, List.length_append, nmss, h2]
    by_cases hn : d.name = []
    · rw [if_pos hn, if_pos hn]; rfl
    · have : ends [p] r w d ([p].length - 1) = (d.name == p.name) := by
        by_cases he : d.name = p.name
        · simp [ends, ahead, fits, hp, hn, he]
        · have he' : ¬ p.name = d.name := fun h => he h.symm
          have e : fits p d = false := by
            unfold fits
            rw [show (d.name == []) = false by simpa using hn, show (p.name != []) = true by simpa using hp.1, show (p.name != d.name) = true by simpa using he']; rfl
          have e2 : (d.name == p.name) = false := by simpa using he
          rw [e2]
          simp [ends, ahead, e]
      rw [if_neg hn, if_neg hn, List.length_append, this, h1]
      congr 1
      congr 1
      by_cases he : d.name = p.name <;> simp [he]
end
abbrev oddS (s : List UInt8) : Bool := !(s == []) && !(nameOk s)
def odd (p : Pk) : Bool := oddS p.name || oddS p.attr
/-- picks that are no fault -/
structure ok (p : Pk) : Prop where
  n : p.name.length ≤ 1000
  a : p.attr.length ≤ 1000
  o : odd p = false
theorem odd_none (l : List Pk) (h : ∀ p ∈ l, p.ok) : l.any odd = false := any_take_false odd l fun p hp => (h p hp).o
theorem ends_row0 (m : Nat) (f : Fl) : List.replicate m (AV.bool false) = rowB m (fun j => decide (j < 0) && f j) := by
  rw [rowB_rep]; exact rowB_congr m _ _ (fun k _ => by simp)
theorem ends_row (m k : Nat) (f : Fl) : (rowB m (fun j => decide (j < k) && f j)).set k (AV.bool (f k)) = rowB m (fun j => decide (j < k + 1) && f j) := by
  rw [rowB_set]
  refine rowB_congr m _ _ (fun j _ => ?_)
  by_cases h : j = k
  · subst h; simp
  · have : (j < k + 1) = (j < k) := by rw [eq_iff_iff]; omega
    simp [h, this]
theorem ends_rowN (m : Nat) (f : Fl) : rowB m (fun j => decide (j < m) && f j) = rowB m f := rowB_congr m _ _ (fun j h => by simp [h])
theorem far_row0 (m : Nat) (f g : Fl) : rowB m g = rowB m (fun j => if j < 0 then f j else g j) := rowB_congr m _ _ (fun j h => by simp)
theorem far_row (m k : Nat) (f g : Fl) : (rowB m (fun j => if j < k then f j else g j)).set k (AV.bool (f k)) = rowB m (fun j => if j < k + 1 then f j else g j) := by
  rw [rowB_set]
  refine rowB_congr m _ _ (fun j _ => ?_)
  by_cases h : j = k
  · subst h; simp
  · have : (j < k + 1) = (j < k) := by rw [eq_iff_iff]; omega
    simp [h, this]
theorem far_rowN (m : Nat) (f g : Fl) : rowB m (fun j => if j < m then f j else g j) = rowB m f := rowB_congr m _ _ (fun j h => by simp [h])
theorem fnds_deepL (ps : List Pk) (l : List Nd) (r w : Fl) : ∀ q ∈ fnds ps 0 l [] r w, q.length ≤ Nd.szs l := by
  obtain ⟨S, h, e⟩ := fnds_sl ps l 0 [] r w
  intro q hq
  rw [e, List.mem_map] at hq
  obtain ⟨s, hs, rfl⟩ := hq
  exact Nd.pthsFrom_deep l 0 _ (h.subset hs)
theorem fnds_at0 (ps : List Pk) (l : List Nd) (r w : Fl) : ∀ q ∈ fnds ps 0 l [] r w, ∃ e, Nd.atP l q e ∧ e.name ≠ [] ∧ fits (ps.getD (ps.length - 1) dfl) e = true := by
  intro q hq
  obtain ⟨j, s, e, h1, h2, h3⟩ := fnds_at ps l 0 [] r w q hq
  rw [List.nil_append, Nat.zero_add] at h1
  exact ⟨e, h1 ▸ h2, h3⟩
theorem fnds_ordD (ps : List Pk) (l : List Nd) (r w : Fl) (i : Nat) (h : i < (fnds ps 0 l [] r w).length) (h0 : 0 < i) : Nd.bfr ((fnds ps 0 l [] r w).getD (i - 1) []) ((fnds ps 0 l [] r w).getD i []) = true := by
  have := List.pairwise_iff_getElem.1 (fnds_ord ps l r w) (i - 1) i (by omega) h (by omega)
  rw [List.getD_eq_getElem?_getD, List.getD_eq_getElem?_getD, List.getElem?_eq_getElem h, List.getElem?_eq_getElem (by omega)]
  exact this
abbrev dp (p : Pk) : Pk := ⟨p.name, p.attr, true⟩
abbrev nn (p : Pk) : Pk := ⟨[], p.attr, p.deep⟩
theorem ok_dp (p : Pk) (h : p.ok) : (dp p).ok := ⟨h.n, h.a, h.o⟩
theorem ok_nn (p : Pk) (h : p.ok) : (nn p).ok := ⟨Nat.zero_le _, h.a, by have := h.o; simp only [odd, Bool.or_eq_false_iff] at this ⊢; exact ⟨rfl, this.2⟩⟩
theorem fits_dp (p : Pk) (d : Nd) : fits (dp p) d = fits p d := rfl
theorem fits_nn (p : Pk) (d : Nd) (h : fits p d = true) : fits (nn p) d = true := by
  simp only [fits, Bool.and_eq_true] at h ⊢
  refine ⟨?_, h.2⟩
  have h1 := h.1
  simp only [Bool.not_eq_true', Bool.or_eq_false_iff] at h1 ⊢
  exact ⟨h1.1, rfl⟩
theorem getD_mapP (f : Pk → Pk) (l : List Pk) (k : Nat) (h : k < l.length) : (l.map f).getD k dfl = f (l.getD k dfl) := by
  rw [List.getD_eq_getElem?_getD, List.getD_eq_getElem?_getD, List.getElem?_map, List.getElem?_eq_getElem h]; rfl
theorem deep_1 (ps : List Pk) (h0 : 0 < ps.length) (l : List Nd) : ∀ q ∈ fnds ps 0 l [] (fun _ => false) (fun _ => false), q ∈ fnds (ps.map dp) 0 l [] (fun _ => false) (fun _ => false) :=
  fnds_deep ps (ps.map dp) (List.length_map ..) (fun k hk => by rw [getD_mapP dp ps k (by simpa using hk)]) (fun k d hk h => by rw [getD_mapP dp ps k hk]; exact h) h0 l [] 0
theorem deep_2 (ps : List Pk) (h0 : 0 < ps.length) (l : List Nd) : ∀ q ∈ fnds (ps.map dp) 0 l [] (fun _ => false) (fun _ => false), q ∈ fnds ((ps.map dp).map nn) 0 l [] (fun _ => false) (fun _ => false) :=
  fnds_deep (ps.map dp) ((ps.map dp).map nn) (List.length_map ..) (fun k hk => by rw [getD_mapP nn _ k (by simpa using hk)]; show ((ps.map dp).getD k dfl).deep = true; rw [getD_mapP dp ps k (by simpa using hk)]) (fun k d hk h => by rw [getD_mapP nn _ k hk]; exact fits_nn _ d h) (by simpa using h0) l [] 0
mutual
theorem fnd_same' (q : Pk) : ∀ (d : Nd) (path : List Int) (r w r1 w1 : Fl), fnd [dp q] d path r w = fnd [q] d path r1 w1
  | .mk _ _ _ l, path, r, w, r1, w1 => by rw [fnd, fnd]; exact fnds_same' q l 0 path r w r1 w1
theorem fnds_same' (q : Pk) : ∀ (l : List Nd) (i : Nat) (path : List Int) (r w r1 w1 : Fl), fnds [dp q] i l path r w = fnds [q] i l path r1 w1
  | [], _, _, _, _, _, _ => rfl
  | d :: l, i, path, r, w, r1, w1 => by
    rw [fnds, fnds, fnd_same' q d _ _ _ (ends [q] r1 w1 d) (far [q] r1 w1 d), fnds_same' q l _ _ _ _ r1 w1]
    rfl
end
theorem fnds_same (q : Pk) (l : List Nd) : fnds [dp q] 0 l [] (fun _ => false) (fun _ => false) = fnds [q] 0 l [] (fun _ => false) (fun _ => false) := fnds_same' q l 0 [] _ _ _ _
theorem getD_ends (m k : Nat) (f : Fl) (h : k < m) : (rowB m f)[k]? = some (AV.bool (f k)) := rowB_at m f k h
end Pk
def upto {α : Type} (f : α → α) (l : List α) (i : Nat) : List α := (l.take i).map f ++ l.drop i
theorem upto_len {α : Type} (f : α → α) (l : List α) (i : Nat) (h : i ≤ l.length) : (upto f l i).length = l.length := by simp [upto]; omega
theorem upto_zero {α : Type} (f : α → α) (l : List α) : upto f l 0 = l := by simp [upto]
theorem upto_end {α : Type} (f : α → α) (l : List α) : upto f l l.length = l.map f := by simp [upto]
theorem upto_at {α : Type} (f : α → α) (z : α) (enc : α → AV) (l : List α) (i : Nat) (h : i < l.length) : ((upto f l i).map enc)[i]? = some (enc (l.getD i z)) := by
  rw [List.getElem?_map, upto, List.getElem?_append_right (by simp; omega)]
  have : i - ((l.take i).map f).length = 0 := by simp; omega
  rw [this, drop_getDG z l i h]; rfl
theorem upto_set {α : Type} (f : α → α) (z : α) (enc : α → AV) (l : List α) (i : Nat) (h : i < l.length) : ((upto f l i).map enc).set i (enc (f (l.getD i z))) = (upto f l (i + 1)).map enc := by
  have hl : ((l.take i).map f).length = i := by simp; omega
  rw [upto, upto, drop_getDG z l i h, List.map_append, List.map_cons, List.set_append_right _ _ (by rw [List.length_map, hl]; omega), List.length_map, hl, Nat.sub_self, List.set_cons_zero, take_getDG z l i h]
  simp
section sl
variable {x : Cx} {g : Bool} {L : List (Tmp × Bool × AV)} {M : List ME} {ty T : TypeId} {o1 o2 : Operand}
theorem Ev.takesl {α : Type} {f : α → AV} {l : List α} {n k E bytes : Nat} {z : Value} {c : Int} (h1 : Ov g L o1 (.sl k (l.map f))) (hT : x.P.underlying T = some (.slice E)) (hE : Ty x.P E k bytes z) (h2 : Ov g L o2 (.lit (.int .i64 c))) (hc : c = (n : Int)) (hb : g = true → n ≤ l.length) :
    Ev x g L M (.slice T o1 none (some o2) none) ty (.sl k ((l.take n).map f)) := by
  subst hc
  have h := Ev.subsl (x := x) (M := M) (ty := ty) (lo := none) (hi := some o2) h1 hT hE rfl h2 (fun hg => ⟨Int.le_refl _, by omega, by have := hb hg; rw [List.length_map]; omega⟩)
  simpa [List.map_take] using h
theorem Ev.dropsl {α : Type} {f : α → AV} {l : List α} {n k E bytes : Nat} {z : Value} {c : Int} (h1 : Ov g L o1 (.sl k (l.map f))) (hT : x.P.underlying T = some (.slice E)) (hE : Ty x.P E k bytes z) (h2 : Ov g L o2 (.lit (.int .i64 c))) (hc : c = (n : Int)) (hb : g = true → n ≤ l.length) :
    Ev x g L M (.slice T o1 (some o2) none none) ty (.sl k ((l.drop n).map f)) := by
  subst hc
  have h := Ev.subsl (x := x) (M := M) (ty := ty) (lo := some o2) (hi := none) h1 hT hE h2 rfl (fun hg => ⟨by omega, by have := hb hg; rw [List.length_map]; omega, Int.le_refl _⟩)
  have e : (l.map f).take ((l.map f).length : Int).toNat = l.map f := List.take_of_length_le (by simp)
  rw [e] at h
  simpa [List.map_drop] using h
end sl
end Go.Vl
