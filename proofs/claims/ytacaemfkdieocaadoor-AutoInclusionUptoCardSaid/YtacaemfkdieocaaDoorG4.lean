/-
  Merged: CallG Pick Base WConts WMay Map ArrV Wid Moore.
-/
import Derived.Test.YtacaemfkdieocaaDoorG3
import Derived.Test.YtacaemfkdieocaaDoorRows
import Derived.MapKept

section
set_option linter.unusedVariables false
set_option linter.unusedSimpArgs false
set_option linter.unusedSectionVars false
namespace Go.Vl
open Go Go.Sem
section callg
variable {x : Cx} {L : List (Tmp × Bool × AV)} {M : List ME} {ops : Array Oper} {Q : Exit → Act → World → Prop} {rest : List Oper}
theorem W.callg {f : FuncId} {d : Tmp} {fo : Operand} {caps : List Value} {os : List Operand} {ats : Array TypeId} {ty : TypeId} {pos : String} {aft : Array Edge} {avs avs' : List AV} {r : AV} {Min Mr : List ME} {j : Nat} {want : Bool} {t : Tmp} {gb b G : Bool}
    (hj : (ops[j]?).bind (·.dst) = some t) (hl : look L t = some (gb, .lit (.bool b))) (hG : G = (gb && (b == want)))
    (hc : G = true → FnC x.P f avs' Min (fun r' M' => r' = r ∧ M' = Min)) (hfo : G = true → Ov true L fo (.lit (.func (.func f) #[] caps.toArray))) (ha : G = true → ArgsOv L os avs) (he : avs' = avs ++ caps.map .lit) (hM : List.Perm M (Min ++ Mr)) (hd : Nat.blt d x.n = true)
    (next : W x ((d, G, r) :: L) M (wpList x.P ops Q rest)) :
    W x L M (wpList x.P ops Q (⟨some d, .call ⟨.value fo, os.toArray, ats⟩, ty, pos, aft, some (j, want)⟩ :: rest)) := by
  intro a w hs
  have hw := guard_of (d := some d) (op := .call ⟨.value fo, os.toArray, ats⟩) (ty := ty) (pos := pos) (aft := aft) (want := want) hj hl hs
  rw [← hG] at hw
  cases hGv : G with
  | true =>
    have h := W.callv (ops := ops) (Q := Q) (rest := rest) (ats := ats) (ty := ty) (pos := pos) (aft := aft) (hc hGv) (hfo hGv) (ha hGv) he hM hd (fun r' M' hp => by
      obtain ⟨rfl, rfl⟩ := hp
      rw [hGv] at next
      exact W.perm hM.symm next) a w hs
    unfold wpList at h ⊢
    rw [if_pos (by rw [hw, hGv])]
    rw [if_pos (by simp [Region.wanted])] at h
    exact h
  | false =>
    refine wpList_cons_skip (by rw [hw, hGv]) ?_
    rw [hGv] at next
    exact next _ _ (hs.put hd false r undef (by simp) (fun _ => rfl))
theorem W.callgT {f : FuncId} {d : Tmp} {fo : Operand} {caps : List Value} {os : List Operand} {ats : Array TypeId} {ty : TypeId} {pos : String} {aft : Array Edge} {avs avs' : List AV} {r : AV} {Min Mr : List ME} {j : Nat} {t : Tmp} {b : Bool}
    (hj : (ops[j]?).bind (·.dst) = some t) (hl : look L t = some (true, .lit (.bool b)))
    (hc : (b) = true → FnC x.P f avs' Min (fun r' M' => r' = r ∧ M' = Min)) (hfo : (b) = true → Ov true L fo (.lit (.func (.func f) #[] caps.toArray))) (ha : (b) = true → ArgsOv L os avs) (he : avs' = avs ++ caps.map .lit) (hM : List.Perm M (Min ++ Mr)) (hd : Nat.blt d x.n = true)
    (next : W x ((d, b, r) :: L) M (wpList x.P ops Q rest)) :
    W x L M (wpList x.P ops Q (⟨some d, .call ⟨.value fo, os.toArray, ats⟩, ty, pos, aft, some (j, true)⟩ :: rest)) :=
  W.callg hj hl (by simp) hc hfo ha he hM hd next
theorem W.callgF {f : FuncId} {d : Tmp} {fo : Operand} {caps : List Value} {os : List Operand} {ats : Array TypeId} {ty : TypeId} {pos : String} {aft : Array Edge} {avs avs' : List AV} {r : AV} {Min Mr : List ME} {j : Nat} {t : Tmp} {b : Bool}
    (hj : (ops[j]?).bind (·.dst) = some t) (hl : look L t = some (true, .lit (.bool b)))
    (hc : (!b) = true → FnC x.P f avs' Min (fun r' M' => r' = r ∧ M' = Min)) (hfo : (!b) = true → Ov true L fo (.lit (.func (.func f) #[] caps.toArray))) (ha : (!b) = true → ArgsOv L os avs) (he : avs' = avs ++ caps.map .lit) (hM : List.Perm M (Min ++ Mr)) (hd : Nat.blt d x.n = true)
    (next : W x ((d, !b, r) :: L) M (wpList x.P ops Q rest)) :
    W x L M (wpList x.P ops Q (⟨some d, .call ⟨.value fo, os.toArray, ats⟩, ty, pos, aft, some (j, false)⟩ :: rest)) :=
  W.callg hj hl (by simp) hc hfo ha he hM hd next
end callg
/-- AN ARRAY OF THE CALL's OWN IS WRITTEN NO MORE; what else is known of the slots stays. -/
theorem W.freezeA {x : Cx} {L : List (Tmp × Bool × AV)} {M : List ME} {R : Act → World → Prop} {v : Value} {T k : Nat} {es : List AV} {L' : List (Tmp × Bool × AV)} {M1 M2 D : List ME} (hM : List.Perm M (ME.arr v T k es :: (M1 ++ D))) (hL : FSub v k es L L') (hM2 : FrzMs v k es M1 M2) (h : W x (L' ++ L) M2 R) : W x L M R := by
  intro a w hs
  have h1 : St x L' M2 a w := W.freeze (x := x) (R := fun a w => St x L' M2 a w) hM hL hM2 (fun a w hs => hs) a w hs
  have hp2 : List.Perm M (M1 ++ (ME.arr v T k es :: D)) := hM.trans (List.perm_middle.symm)
  have h2 : St x L M1 a w := by
    obtain ⟨hm, hk, hsub⟩ := hs.mem.sub hp2
    exact ⟨hs.defers, hs.size, fun t g av hl => ⟨fun hg => ((hs.slots t g av hl).1 hg).keep hk, (hs.slots t g av hl).2⟩, hm, hs.fr.sub hsub, hs.old⟩
  refine h a w ⟨h1.defers, h1.size, ?_, h1.mem, h1.fr, h1.old⟩
  intro t g av hl
  rw [look_append] at hl
  cases hx : look L' t with
  | some p => rw [hx, Option.some_or] at hl; obtain rfl := Option.some.inj hl; exact h1.slots t g av hx
  | none =>
    rw [hx, Option.none_or] at hl
    have := h2.slots t g av hl
    rw [hM2.bl]
    exact this
/-- a row by a function of the place -/
abbrev rowB (n : Nat) (f : Nat → Bool) : List AV := (List.range n).map fun k => AV.bool (f k)
theorem rowB_len (n : Nat) (f : Nat → Bool) : (rowB n f).length = n := by simp
theorem rowB_at (n : Nat) (f : Nat → Bool) (k : Nat) (h : k < n) : (rowB n f)[k]? = some (AV.bool (f k)) := by
  rw [List.getElem?_map, List.getElem?_range h]; rfl
theorem rowB_set (n : Nat) (f : Nat → Bool) (k : Nat) (b : Bool) : (rowB n f).set k (AV.bool b) = rowB n (fun j => if j = k then b else f j) := by
  apply List.ext_getElem?
  intro j
  rw [List.getElem?_set]
  by_cases hj : j < n
  · rw [rowB_at n _ j hj]
    by_cases e : k = j
    · subst e; simp [hj]
    · have e' : ¬ j = k := fun h => e h.symm
      simp [e, e', hj]
  · have h1 : ∀ g : Nat → Bool, (rowB n g)[j]? = none := fun g => List.getElem?_eq_none (by simp; omega)
    rw [h1]
    split
    · rename_i e; subst e; simp [hj]
    · exact (h1 _).symm
theorem rowB_congr (n : Nat) (f g : Nat → Bool) (h : ∀ k, k < n → f k = g k) : rowB n f = rowB n g := by
  refine List.map_congr_left ?_
  intro k hk
  rw [h k (List.mem_range.1 hk)]
theorem rowB_rep (n : Nat) : List.replicate n (AV.bool false) = rowB n (fun _ => false) := by
  simp [rowB, List.map_const']
theorem okc_rowB (n : Nat) (f : Nat → Bool) : ∀ e ∈ rowB n f, e.okc = true := by
  intro e he
  obtain ⟨d, _, rfl⟩ := List.mem_map.1 he
  rfl
theorem okc_ints (l : List Int) : ∀ e ∈ l.map AV.int, e.okc = true := by
  intro e he
  obtain ⟨d, _, rfl⟩ := List.mem_map.1 he
  rfl
/-- the first place where it holds, or -1 -/
def idxI {α : Type} (p : α → Bool) : List α → Int
  | [] => -1
  | a :: l => if p a then 0 else if idxI p l < 0 then -1 else idxI p l + 1
theorem idxI_any {α : Type} (p : α → Bool) : ∀ l : List α, decide (0 ≤ idxI p l) = l.any p
  | [] => rfl
  | a :: l => by
    have ih := idxI_any p l
    rw [List.any_cons, ← ih, idxI]
    cases h : p a with
    | true => simp
    | false =>
      rw [if_neg (by simp), Bool.false_or]
      split <;> simp <;> omega
theorem idxI_ge {α : Type} (p : α → Bool) : ∀ l : List α, -1 ≤ idxI p l
  | [] => by simp [idxI]
  | a :: l => by have := idxI_ge p l; rw [idxI]; split <;> (try split) <;> omega
theorem idxI_miss {α : Type} (p : α → Bool) : ∀ l : List α, (∀ d ∈ l, p d = false) → idxI p l = -1
  | [], _ => rfl
  | a :: l, h => by rw [idxI, h a (by simp), idxI_miss p l (fun d hd => h d (by simp [hd]))]; simp
theorem idxI_hit {α : Type} (p : α → Bool) (z : α) : ∀ (l : List α) (i : Nat), i < l.length → (∀ d ∈ l.take i, p d = false) → p (l.getD i z) = true → idxI p l = i
  | [], i, h, _, _ => by simp at h
  | a :: l, 0, _, _, h => by
    have h' : p a = true := by simpa using h
    simp [idxI, h']
  | a :: l, i + 1, h1, h2, h3 => by
    have ih := idxI_hit p z l i (by simpa using h1) (fun d hd => h2 d (by simp [hd])) (by simpa using h3)
    rw [idxI, h2 a (by simp), ih]
    simp
    omega
/-- is a text a name? -/
def nameCh (r : Int) : Bool := ((decide (97 ≤ r) && decide (r ≤ 122)) || (decide (48 ≤ r) && decide (r ≤ 57))) || r == 45
def nameOk (s : List UInt8) : Bool := !(((s == [] || decide ((12 : Int) < (s.length : Int))) || decide (((s.getD 0 0).toNat : Int) < 97)) || decide ((122 : Int) < ((s.getD 0 0).toNat : Int))) && !((runes s).any fun r => !(nameCh (r : Int)))
end Go.Vl
end

section
set_option linter.unusedVariables false
set_option linter.unusedSimpArgs false
namespace Go.Vl
structure Pk where
  name : List UInt8
  attr : List UInt8
  deep : Bool
abbrev kav (p : Pk) : AV := .agg [.str p.name, .str p.attr, .bool p.deep]
namespace Pk
abbrev dfl : Pk := ⟨[], [], false⟩
def fits (p : Pk) (d : Nd) : Bool := !(d.name == [] || (p.name != [] && p.name != d.name)) && (p.attr == [] || d.attrs.any fun a => a.1 == p.attr)
abbrev Fl := Nat → Bool
abbrev row (n : Nat) (f : Fl) : AV := .sl 1 ((List.range n).map fun k => AV.bool (f k))
def ahead (ps : List Pk) (r w : Fl) (k : Nat) : Bool := (k == 0 || ((ps.getD k dfl).deep && w (k - 1))) || (!(ps.getD k dfl).deep && r (k - 1))
def ends (ps : List Pk) (r w : Fl) (d : Nd) (k : Nat) : Bool := ahead ps r w k && fits (ps.getD k dfl) d
def far (ps : List Pk) (r w : Fl) (d : Nd) (k : Nat) : Bool := w k || ends ps r w d k
mutual
/-- the paths that are found within a node, among nodes -/
def fnd (ps : List Pk) : Nd → List Int → Fl → Fl → List (List Int)
  | .mk n a t q, path, r, w => fnds ps 0 q path r w
def fnds (ps : List Pk) : Nat → List Nd → List Int → Fl → Fl → List (List Int)
  | _, [], _, _, _ => []
  | i, d :: l, path, r, w =>
    (if d.name = [] then [] else (if ends ps r w d (ps.length - 1) then [path ++ [(i : Int)]] else []) ++ fnd ps d (path ++ [(i : Int)]) (ends ps r w d) (far ps r w d)) ++ fnds ps (i + 1) l path r w
end
theorem fnd_eq (ps : List Pk) (d : Nd) (path : List Int) (r w : Fl) : fnd ps d path r w = fnds ps 0 d.parts path r w := by cases d; rfl
mutual
theorem fnd_len (ps : List Pk) : ∀ (d : Nd) (path : List Int) (r w : Fl), (fnd ps d path r w).length + 1 ≤ d.sz
  | .mk n a t q, path, r, w => by have := fnds_len ps q 0 path r w; simp only [fnd, Nd.sz]; omega
theorem fnds_len (ps : List Pk) : ∀ (l : List Nd) (i : Nat) (path : List Int) (r w : Fl), (fnds ps i l path r w).length ≤ Nd.szs l
  | [], _, _, _, _ => Nat.zero_le _
  | d :: l, i, path, r, w => by
    have h1 := fnd_len ps d (path ++ [(i : Int)]) (ends ps r w d) (far ps r w d)
    have h2 := fnds_len ps l (i + 1) path r w
    rw [fnds, List.length_append, Nd.szs]
    split
    · simp only [List.length_nil]; omega
    · rw [List.length_append]
      split <;> simp only [List.length_nil, List.length_cons] <;> omega
end
mutual
/-- what looser picks find -/
theorem fnd_sub (ps ps' : List Pk) (Rel : Fl → Fl → Fl → Fl → Prop)
    (hs : ∀ d r w r' w', d.name ≠ [] → Rel r w r' w' → Rel (ends ps r w d) (far ps r w d) (ends ps' r' w' d) (far ps' r' w' d) ∧ (ends ps r w d (ps.length - 1) = true → ends ps' r' w' d (ps'.length - 1) = true)) :
    ∀ (d : Nd) (path : List Int) (r w r' w' : Fl), Rel r w r' w' → ∀ q ∈ fnd ps d path r w, q ∈ fnd ps' d path r' w'
  | .mk n a t p, path, r, w, r', w', hr, q, hq => by rw [fnd] at hq ⊢; exact fnds_sub ps ps' Rel hs p 0 path r w r' w' hr q hq
theorem fnds_sub (ps ps' : List Pk) (Rel : Fl → Fl → Fl → Fl → Prop)
    (hs : ∀ d r w r' w', d.name ≠ [] → Rel r w r' w' → Rel (ends ps r w d) (far ps r w d) (ends ps' r' w' d) (far ps' r' w' d) ∧ (ends ps r w d (ps.length - 1) = true → ends ps' r' w' d (ps'.length - 1) = true)) :
    ∀ (l : List Nd) (i : Nat) (path : List Int) (r w r' w' : Fl), Rel r w r' w' → ∀ q ∈ fnds ps i l path r w, q ∈ fnds ps' i l path r' w'
  | [], _, _, _, _, _, _, _, q, hq => by simp [fnds] at hq
  | d :: l, i, path, r, w, r', w', hr, q, hq => by
    rw [fnds, List.mem_append] at hq ⊢
    rcases hq with hq | hq
    · left
      by_cases hn : d.name = []
      · simp [hn] at hq
      · rw [if_neg hn, List.mem_append] at hq ⊢
        obtain ⟨h1, h2⟩ := hs d r w r' w' hn hr
        rcases hq with hq | hq
        · left
          by_cases he : ends ps r w d (ps.length - 1) = true
          · rw [if_pos he] at hq; rw [if_pos (h2 he)]; exact hq
          · rw [if_neg he] at hq; cases hq
        · right
          exact fnd_sub ps ps' Rel hs d _ _ _ _ _ h1 q hq
    · right
      exact fnds_sub ps ps' Rel hs l _ _ _ _ _ _ hr q hq
end
mutual
theorem fnd_sl (ps : List Pk) : ∀ (d : Nd) (path : List Int) (r w : Fl), ∃ S, List.Sublist S (Nd.pths d) ∧ fnd ps d path r w = S.map (path ++ ·)
  | .mk n a t p, path, r, w => by rw [fnd, Nd.pths]; exact fnds_sl ps p 0 path r w
/-- what is found are paths, in their order -/
theorem fnds_sl (ps : List Pk) : ∀ (l : List Nd) (i : Nat) (path : List Int) (r w : Fl), ∃ S, List.Sublist S (Nd.pthsFrom i l) ∧ fnds ps i l path r w = S.map (path ++ ·)
  | [], _, _, _, _ => ⟨[], List.nil_sublist _, rfl⟩
  | d :: l, i, path, r, w => by
    obtain ⟨S1, h1, e1⟩ := fnd_sl ps d (path ++ [(i : Int)]) (ends ps r w d) (far ps r w d)
    obtain ⟨S2, h2, e2⟩ := fnds_sl ps l (i + 1) path r w
    rw [fnds, Nd.pthsFrom, e1, e2]
    have hm : List.Sublist (S1.map ((i : Int) :: ·)) (d.pths.map ((i : Int) :: ·)) := h1.map _
    have em : S1.map ((path ++ [(i : Int)]) ++ ·) = (S1.map ((i : Int) :: ·)).map (path ++ ·) := by
      rw [List.map_map]; congr 1; funext s; simp
    by_cases hn : d.name = []
    · rw [if_pos hn]
      exact ⟨S2, (h2.trans (List.sublist_append_right _ _)).trans (List.sublist_cons_self _ _), rfl⟩
    · rw [if_neg hn, em]
      split
      · exact ⟨[(i : Int)] :: (S1.map ((i : Int) :: ·) ++ S2), (hm.append h2).cons_cons _, by simp⟩
      · exact ⟨S1.map ((i : Int) :: ·) ++ S2, (hm.append h2).cons _, by simp⟩
end
mutual
theorem fnd_at (ps : List Pk) : ∀ (d : Nd) (path : List Int) (r w : Fl), ∀ q ∈ fnd ps d path r w, ∃ s e, q = path ++ s ∧ Nd.atP d.parts s e ∧ e.name ≠ [] ∧ fits (ps.getD (ps.length - 1) dfl) e = true
  | .mk n a t p, path, r, w, q, hq => by
    rw [fnd] at hq
    obtain ⟨j, s, e, h1, h2, h3⟩ := fnds_at ps p 0 path r w q hq
    exact ⟨(j : Int) :: s, e, by rw [h1, Nat.zero_add], h2, h3⟩
/-- the nodes that are found fit the last pick -/
theorem fnds_at (ps : List Pk) : ∀ (l : List Nd) (i : Nat) (path : List Int) (r w : Fl), ∀ q ∈ fnds ps i l path r w, ∃ (j : Nat) (s : List Int) (e : Nd), q = path ++ (((i + j : Nat) : Int) :: s) ∧ Nd.atP l ((j : Int) :: s) e ∧ e.name ≠ [] ∧ fits (ps.getD (ps.length - 1) dfl) e = true
  | [], _, _, _, _, q, hq => by simp [fnds] at hq
  | d :: l, i, path, r, w, q, hq => by
    rw [fnds, List.mem_append] at hq
    rcases hq with hq | hq
    · by_cases hn : d.name = []
      · simp [hn] at hq
      · rw [if_neg hn, List.mem_append] at hq
        rcases hq with hq | hq
        · by_cases he : ends ps r w d (ps.length - 1) = true
          · rw [if_pos he, List.mem_singleton] at hq
            refine ⟨0, [], d, by simpa using hq, ⟨0, rfl, by simp, .inl ⟨rfl, rfl⟩⟩, hn, ?_⟩
            simp only [ends, Bool.and_eq_true] at he; exact he.2
          · rw [if_neg he] at hq; cases hq
        · obtain ⟨s, e, h1, h3, h4⟩ := fnd_at ps d _ _ _ q hq
          refine ⟨0, s, e, by rw [h1, List.append_assoc]; rfl, ⟨0, rfl, by simp, .inr ⟨?_, by simpa using h3⟩⟩, h4⟩
          rintro rfl; exact h3.elim
    · obtain ⟨j, s, e, h1, ⟨k, hk, hlt, hx⟩, h5⟩ := fnds_at ps l (i + 1) path r w q hq
      refine ⟨j + 1, s, e, by rw [h1]; congr 3; omega, ⟨k + 1, by omega, by simp; omega, by simpa using hx⟩, h5⟩
end
/-- is a path right ahead of the other one, and part of it? -/
def around (x a : List Int) : Bool := decide (x.length < a.length) && decide (a.take x.length = x)
theorem around_miss (path s t : List Int) (i j : Int) (h : i ≠ j) : around (path ++ i :: s) (path ++ j :: t) = false := by
  cases hc : around (path ++ i :: s) (path ++ j :: t) with
  | false => rfl
  | true =>
    exfalso
    simp only [around, Bool.and_eq_true, decide_eq_true_eq] at hc
    have h1 := congrArg (·[path.length]?) hc.2
    simp at h1
    exact h h1.symm
theorem fnds_shape (ps : List Pk) (l : List Nd) (i : Nat) (path : List Int) (r w : Fl) : ∀ q ∈ fnds ps i l path r w, ∃ (j : Nat) (s : List Int), i ≤ j ∧ q = path ++ (j : Int) :: s := fun q hq => by
  obtain ⟨j, s, e, h1, _⟩ := fnds_at ps l i path r w q hq
  exact ⟨i + j, s, by omega, h1⟩
theorem fnd_shape (ps : List Pk) (d : Nd) (path : List Int) (r w : Fl) : ∀ q ∈ fnd ps d path r w, ∃ (j : Int) (s : List Int), q = path ++ j :: s := fun q hq => by
  rw [fnd_eq] at hq
  obtain ⟨j, s, _, h⟩ := fnds_shape ps _ _ _ _ _ q hq
  exact ⟨j, s, h⟩
mutual
theorem fnd_within (p q : Pk) (hq : q.deep = true) : ∀ (d : Nd) (path : List Int) (r w r1 w1 r2 w2 : Fl), fnd [p, q] d path r w = (fnd [q] d path r1 w1).filter fun a => w 0 || (fnd [p] d path r2 w2).any fun x => around x a
  | .mk _ _ _ l, path, r, w, r1, w1, r2, w2 => by rw [fnd, fnd, fnd]; exact fnds_within p q hq l 0 path r w r1 w1 r2 w2
theorem fnds_within (p q : Pk) (hq : q.deep = true) : ∀ (l : List Nd) (i : Nat) (path : List Int) (r w r1 w1 r2 w2 : Fl), fnds [p, q] i l path r w = (fnds [q] i l path r1 w1).filter fun a => w 0 || (fnds [p] i l path r2 w2).any fun x => around x a
  | [], _, _, _, _, _, _, _, _ => rfl
  | d :: l, i, path, r, w, r1, w1, r2, w2 => by
    have h2 := fnds_within p q hq l (i + 1) path r w r1 w1 r2 w2
    have h1 := fnd_within p q hq d (path ++ [(i : Int)]) (ends [p, q] r w d) (far [p, q] r w d) (ends [q] r1 w1 d) (far [q] r1 w1 d) (ends [p] r2 w2 d) (far [p] r2 w2 d)
    rw [fnds, fnds, fnds, h1, h2]
    rw [List.filter_append]
    have hC : ∀ a ∈ fnds [q] (i + 1) l path r1 w1, (w 0 || ((if d.name = [] then [] else (if ends [p] r2 w2 d ([p].length - 1) then [path ++ [(i : Int)]] else []) ++ fnd [p] d (path ++ [(i : Int)]) (ends [p] r2 w2 d) (far [p] r2 w2 d)) ++ fnds [p] (i + 1) l path r2 w2).any fun x => around x a) =
        (w 0 || (fnds [p] (i + 1) l path r2 w2).any fun x => around x a) := by
      intro a ha
      obtain ⟨j, s, hj, rfl⟩ := fnds_shape _ _ _ _ _ _ a ha
      rw [List.any_append]
      have : ((if d.name = [] then [] else (if ends [p] r2 w2 d ([p].length - 1) then [path ++ [(i : Int)]] else []) ++ fnd [p] d (path ++ [(i : Int)]) (ends [p] r2 w2 d) (far [p] r2 w2 d)).any fun x => around x (path ++ (j : Int) :: s)) = false := by
        rw [List.any_eq_false]
        intro x hx
        split at hx
        · cases hx
        · rw [List.mem_append] at hx
          rcases hx with hx | hx
          · split at hx
            · rw [List.mem_singleton] at hx; subst hx
              rw [around_miss path [] s i j (by omega)]; simp
            · cases hx
          · obtain ⟨j', s', rfl⟩ := fnd_shape _ _ _ _ _ x hx
            have := around_miss path (j' :: s') s i j (by omega)
            simp only [List.append_assoc, List.singleton_append]
            rw [this]; simp
      rw [this, Bool.false_or]
    rw [List.filter_congr hC]
    congr 1
    by_cases hn : d.name = []
    · simp [hn]
    · rw [if_neg hn, if_neg hn, if_neg hn, List.filter_append]
      have e1 : ends [p, q] r w d ([p, q].length - 1) = (w 0 && fits q d) := by simp [ends, ahead, hq]
      have e2 : ends [q] r1 w1 d ([q].length - 1) = fits q d := by simp [ends, ahead]
      have e3 : ends [p] r2 w2 d ([p].length - 1) = fits p d := by simp [ends, ahead]
      have e4 : far [p, q] r w d 0 = (w 0 || fits p d) := by simp [far, ends, ahead]
      rw [e1, e2, e3, e4]
      have hXC : ∀ s : List Int, ((fnds [p] (i + 1) l path r2 w2).any fun x => around x (path ++ (i : Int) :: s)) = false := by
        intro s
        rw [List.any_eq_false]
        intro x hx
        obtain ⟨j, s', hj, rfl⟩ := fnds_shape _ _ _ _ _ _ x hx
        rw [around_miss path s' s j i (by omega)]; simp
      congr 1
      · cases hf : fits q d with
        | false => simp
        | true =>
          rw [Bool.and_true, if_pos rfl, List.filter_cons, List.filter_nil]
          have : (((if fits p d = true then [path ++ [(i : Int)]] else []) ++ fnd [p] d (path ++ [(i : Int)]) (ends [p] r2 w2 d) (far [p] r2 w2 d) ++ fnds [p] (i + 1) l path r2 w2).any fun x => around x (path ++ [(i : Int)])) = false := by
            rw [List.any_append, hXC [], Bool.or_false, List.any_eq_false]
            intro x hx
            rw [List.mem_append] at hx
            rcases hx with hx | hx
            · split at hx
              · rw [List.mem_singleton] at hx; subst hx; simp [around]
              · cases hx
            · obtain ⟨j', s', rfl⟩ := fnd_shape _ _ _ _ _ x hx
              simp [around]
          rw [this, Bool.or_false]
      · refine List.filter_congr ?_
        intro a ha
        obtain ⟨j, s, rfl⟩ := fnd_shape _ _ _ _ _ a ha
        have := hXC (j :: s)
        rw [List.any_append, List.append_assoc, List.singleton_append, this, Bool.or_false, List.any_append, Bool.or_assoc]
        congr 1
        congr 1
        cases fits p d with
        | false => simp
        | true => simp [around, List.take_append, List.take_of_length_le (Nat.le_succ path.length)]
end
mutual
/-- elements; those of a name -/
def els : Nd → Nat
  | .mk _ _ _ l => elss l
def elss : List Nd → Nat
  | [] => 0
  | d :: l => (if d.name = [] then 0 else 1 + els d) + elss l
end
mutual
def nms (s : List UInt8) : Nd → Nat
  | .mk _ _ _ l => nmss s l
def nmss (s : List UInt8) : List Nd → Nat
  | [] => 0
  | d :: l => (if d.name = [] then 0 else (if d.name = s then 1 else 0) + nms s d) + nmss s l
end
mutual
theorem els_le : ∀ d : Nd, els d + 1 ≤ d.sz
  | .mk _ a _ l => by have := elss_le l; simp only [els, Nd.sz]; omega
theorem elss_le : ∀ l : List Nd, elss l ≤ Nd.szs l
  | [] => Nat.le_refl _
  | d :: l => by have := els_le d; have := elss_le l; simp only [elss, Nd.szs]; split <;> omega
end
mutual
theorem nms_le (s : List UInt8) : ∀ d : Nd, nms s d + 1 ≤ d.sz
  | .mk _ a _ l => by have := nmss_le s l; simp only [nms, Nd.sz]; omega
theorem nmss_le (s : List UInt8) : ∀ l : List Nd, nmss s l ≤ Nd.szs l
  | [] => Nat.le_refl _
  | d :: l => by have := nms_le s d; have := nmss_le s l; simp only [nmss, Nd.szs]; split <;> (try split) <;> omega
end
mutual
theorem fnd_star (p : Pk) (hp : p.name = [] ∧ p.attr = []) : ∀ (d : Nd) (path : List Int) (r w : Fl), (fnd [p] d path r w).length = els d
  | .mk _ _ _ l, path, r, w => by rw [fnd, els]; exact fnds_stars p hp l 0 path r w
theorem fnds_stars (p : Pk) (hp : p.name = [] ∧ p.attr = []) : ∀ (l : List Nd) (i : Nat) (path : List Int) (r w : Fl), (fnds [p] i l path r w).length = elss l
  | [], _, _, _, _ => rfl
  | d :: l, i, path, r, w => by
    have h1 := fnd_star p hp d (path ++ [(i : Int)]) (ends [p] r w d) (far [p] r w d)
    have h2 := fnds_stars p hp l (i + 1) path r w
    rw [fnds, List.length_append, elss, h2]
    by_cases hn : d.name = []
    · rw [if_pos hn, if_pos hn]; rfl
    · have : ends [p] r w d ([p].length - 1) = true := by simp [ends, ahead, fits, hp, hn]
      rw [if_neg hn, if_neg hn, List.length_append, this, h1, if_pos rfl]; rfl
end
mutual
theorem fnd_name (p : Pk) (hp : p.name ≠ [] ∧ p.attr = []) : ∀ (d : Nd) (path : List Int) (r w : Fl), (fnd [p] d path r w).length = nms p.name d
  | .mk _ _ _ l, path, r, w => by rw [fnd, nms]; exact fnds_name p hp l 0 path r w
theorem fnds_name (p : Pk) (hp : p.name ≠ [] ∧ p.attr = []) : ∀ (l : List Nd) (i : Nat) (path : List Int) (r w : Fl), (fnds [p] i l path r w).length = nmss p.name l
  | [], _, _, _, _ => rfl
  | d :: l, i, path, r, w => by
    have h1 := fnd_name p hp d (path ++ [(i : Int)]) (ends [p] r w d) (far [p] r w d)
    have h2 := fnds_name p hp l (i + 1) path r w
    rw [fnds, List.length_append, nmss, h2]
    by_cases hn : d.name = []
    · rw [if_pos hn, if_pos hn]; rfl
    · have : ends [p] r w d ([p].length - 1) = (d.name == p.name) := by
        by_cases he : d.name = p.name
        · simp [ends, ahead, fits, hp, hn, he]
        · have he' : ¬ p.name = d.name := fun h => he h.symm
          have e : fits p d = false := by
            unfold fits
            rw [show (d.name == []) = false by simpa using hn, show (p.name != []) = true by simpa using hp.1, show (p.name != d.name) = true by simpa using he']; rfl
          have e2 : (d.name == p.name) = false := by simpa using he
          rw [e2]
          simp [ends, ahead, e]
      rw [if_neg hn, if_neg hn, List.length_append, this, h1]
      congr 1
      congr 1
      by_cases he : d.name = p.name <;> simp [he]
end
abbrev oddS (s : List UInt8) : Bool := !(s == []) && !(nameOk s)
def odd (p : Pk) : Bool := oddS p.name || oddS p.attr
/-- picks that are no fault -/
structure ok (p : Pk) : Prop where
  n : p.name.length ≤ 1000
  a : p.attr.length ≤ 1000
  o : odd p = false
abbrev dp (p : Pk) : Pk := ⟨p.name, p.attr, true⟩
abbrev nn (p : Pk) : Pk := ⟨[], p.attr, p.deep⟩
mutual
theorem fnd_same' (q : Pk) : ∀ (d : Nd) (path : List Int) (r w r1 w1 : Fl), fnd [dp q] d path r w = fnd [q] d path r1 w1
  | .mk _ _ _ l, path, r, w, r1, w1 => by rw [fnd, fnd]; exact fnds_same' q l 0 path r w r1 w1
theorem fnds_same' (q : Pk) : ∀ (l : List Nd) (i : Nat) (path : List Int) (r w r1 w1 : Fl), fnds [dp q] i l path r w = fnds [q] i l path r1 w1
  | [], _, _, _, _, _, _ => rfl
  | d :: l, i, path, r, w, r1, w1 => by
    rw [fnds, fnds, fnd_same' q d _ _ _ (ends [q] r1 w1 d) (far [q] r1 w1 d), fnds_same' q l _ _ _ _ r1 w1]
    rfl
end
end Pk
def upto {α : Type} (f : α → α) (l : List α) (i : Nat) : List α := (l.take i).map f ++ l.drop i
section sl
variable {x : Cx} {g : Bool} {L : List (Tmp × Bool × AV)} {M : List ME} {ty T : TypeId} {o1 o2 : Operand}
end sl
end Go.Vl
end

section
set_option linter.unusedVariables false
set_option linter.unusedSimpArgs false
set_option maxRecDepth 100000
namespace Go.Proofs.YtacaemfkdieocaaDoor
open Go.Vl

namespace Base

theorem tmod_neg (a n : Int) (hn : 0 < n) (h : a.tmod n < 0) : a.tmod n + n = a % n := by
  have h1 := Int.tmod_eq_emod (a := a) (b := n)
  have h2 := Int.emod_nonneg a (by omega : n ≠ 0)
  have h3 := Int.emod_lt_of_pos a hn
  have h4 : (n.natAbs : Int) = n := by omega
  rw [h1] at h ⊢
  split at h <;> split <;> omega
theorem tmod_nonneg (a n : Int) (hn : 0 < n) (h : ¬ a.tmod n < 0) : a.tmod n = a % n := by
  have h1 := Int.tmod_eq_emod (a := a) (b := n)
  have h2 := Int.emod_nonneg a (by omega : n ≠ 0)
  have h3 := Int.emod_lt_of_pos a hn
  have h4 : (n.natAbs : Int) = n := by omega
  rw [h1] at h ⊢
  split at h <;> split <;> omega
theorem tmod_gt (a n : Int) (hn : 0 < n) : -n < a.tmod n ∧ a.tmod n < n := by
  have h1 := Int.tmod_eq_emod (a := a) (b := n)
  have h2 := Int.emod_nonneg a (by omega : n ≠ 0)
  have h3 := Int.emod_lt_of_pos a hn
  have h4 : (n.natAbs : Int) = n := by omega
  rw [h1]
  split <;> omega

theorem c_Picked (a n : Int) (hn : 0 < n) (hb : n ≤ 4611686018427387904) : FnP Tryd.prog 12 [.int a, .int n] (.int (a % n)) :=  by
  refine FnC.mk Tryd.func12 (by kernel_rfl) rfl Tryd.ntmps12 rfl (fun w0 F => ?_)
  have htm := tmod_gt a n hn
  refine W.seq ?_
  refine W.region ?_
  refine W.q (Ev.assign .k) rfl ?_
  refine W.nil ?_
  refine W.then ?_
  refine W.seq ?_
  refine W.region ?_
  refine W.q (Ev.move (.t rfl)) rfl ?_
  refine W.q (Ev.move (.t rfl)) rfl ?_
  first | refine W.q (Ev.rem (.t rfl) (.t rfl) (fun _ => by decide)) rfl ?_ | refine W.q (Ev.rem (.t rfl) (.t rfl) (fun _ => by omega)) rfl ?_
  refine W.q (Ev.assign (.t rfl)) rfl ?_
  refine W.nil ?_
  refine W.then ?_
  refine W.seq ?_
  refine W.seq ?_
  refine W.region ?_
  refine W.q (Ev.move (.t rfl)) rfl ?_
  refine W.q (Ev.lti (.t rfl) .k) rfl ?_
  refine W.nil ?_
  refine W.then ?_
  refine W.cond (.t rfl) (fun hc_t9 => ?_) (fun hc_t9 => ?_)
  · have h9 := of_decide_eq_true hc_t9
    refine W.seq ?_
    refine W.region ?_
    refine W.q (Ev.move (.t rfl)) rfl ?_
    refine W.q (Ev.move (.t rfl)) rfl ?_
    first | refine W.q (Ev.add (.t rfl) (.t rfl) (fun _ => by omega)) rfl ?_ | refine W.q (Ev.addw (.t rfl) (.t rfl)) rfl ?_
    refine W.q (Ev.assign (.t rfl)) rfl ?_
    refine W.nil ?_
    refine W.then ?_
    refine W.ret ?_
    refine W.then_ret ?_
    refine W.retn (M' := []) (rs := [.tmp 4]) (avs := [_]) Tryd.results12 ⟨rfl, trivial⟩ rfl (.refl _) ?_
    exact ⟨congrArg AV.int (by first | exact (tmod_neg a n hn h9).symm ▸ rfl | exact tmod_nonneg a n hn h9), rfl⟩
  · have h9 := of_decide_eq_false hc_t9
    refine W.skip ?_
    refine W.then ?_
    refine W.seq ?_
    refine W.region ?_
    refine W.q (Ev.move (.t rfl)) rfl ?_
    refine W.q (Ev.assign (.t rfl)) rfl ?_
    refine W.nil ?_
    refine W.then ?_
    refine W.ret ?_
    refine W.retn (M' := []) (rs := [.tmp 4]) (avs := [_]) Tryd.results12 ⟨rfl, trivial⟩ rfl (.refl _) ?_
    exact ⟨congrArg AV.int (by first | exact (tmod_neg a n hn h9).symm ▸ rfl | exact tmod_nonneg a n hn h9), rfl⟩

end Base

end Go.Proofs.YtacaemfkdieocaaDoor
end

section
set_option linter.unusedVariables false
set_option linter.unusedSimpArgs false
set_option maxRecDepth 100000
namespace Go.Proofs.YtacaemfkdieocaaDoor
open Go.Vl

namespace WConts
theorem ty3 : Ty Tryd.prog 3 1 8 (.int .i64 0) := Ty.of (by kernel_rfl)
theorem ty22 : Ty Tryd.prog 22 1 24 (.slice none 0 0) := Ty.of (by kernel_rfl)
theorem ag3 : IsAgg Tryd.prog 3 false := ⟨_, Tryd.underlying3, rfl⟩
theorem ag22 : IsAgg Tryd.prog 22 false := ⟨_, Tryd.underlying22, rfl⟩
theorem c_IndexFuncI (l : List Int) (g : Nat) (caps : List Value) (M0 : List ME) (p : Int → Bool) (hg : ∀ d ∈ l, FnC Tryd.prog g ([AV.int d] ++ caps.map .lit) M0 (fun r M => r = .bool (p d) ∧ M = M0)) (hn : l.length ≤ 1099511627776) : FnC Tryd.prog 47 [.sl 1 (l.map AV.int), .lit (.func (.func g) #[] caps.toArray)] M0 (fun r M => r = .int (idxI p l) ∧ M = M0) :=  by
  refine FnC.mk Tryd.func47 (by kernel_rfl) rfl Tryd.ntmps47 rfl (fun w0 F => ?_)
  have hnl : (l.map AV.int).length = l.length := List.length_map ..
  refine W.seq ?_
  refine W.region ?_
  refine W.q (Ev.assign .k) rfl ?_
  refine W.nil ?_
  refine W.then ?_
  refine W.seq ?_
  refine W.seq ?_
  refine W.region ?_
  refine W.q (Ev.move (.t rfl)) rfl ?_
  (refine W.q (Ev.lensl (.t rfl) Tryd.underlying22) rfl ?_)
  refine W.q (Ev.move .k) rfl ?_
  refine W.nil ?_
  refine W.then ?_
  refine W.block ?_
  refine W.loop (D := []) (ι := Nat) (fun i => [(8, true, .int (i : Int)), (7, true, .int ((l.map AV.int).length : Int)), (0, true, .sl 1 (l.map AV.int)), (1, true, .lit (.func (.func g) #[] caps.toArray))]) (fun _ => M0) (fun i => i ≤ l.length ∧ ∀ d ∈ l.take i, p d = false) (fun i => l.length - i) 0 ⟨rfl, rfl, rfl, rfl, trivial⟩ (List.Perm.of_eq (List.append_nil _).symm) ⟨Nat.zero_le _, by simp⟩ ?_
  rintro i ⟨hi1, hi2⟩
  dsimp only at hi1 hi2 ⊢
  rcases (show i < l.length ∨ i = l.length from by omega) with hlt | hend
  · have hga := getD_mapG AV.int 0 l i hlt
    refine W.seq ?_
    refine W.region ?_
    refine W.q (Ev.lti (.t rfl) (.t rfl)) rfl ?_
    refine W.nil ?_
    refine W.then ?_
    refine W.seq ?_
    refine W.is (t := 9) (g := true) (av' := .lit (.bool true)) rfl (congrArg (fun b => AV.lit (.bool b)) (by simp; omega)) ?_
    refine W.condT (.t rfl) ?_
    refine W.skip ?_
    refine W.then ?_
    refine W.seq ?_
    refine W.block ?_
    refine W.seq ?_
    refine W.region ?_
    refine W.q (Ev.move (.t rfl)) rfl ?_
    refine W.q (Ev.assign (.t rfl)) rfl ?_
    refine W.nil ?_
    refine W.then ?_
    refine W.seq ?_
    refine W.region ?_
    refine W.q (Ev.move (.t rfl)) rfl ?_
    refine W.q (Ev.move (.t rfl)) rfl ?_
    refine W.q (Ev.move (.t rfl)) rfl ?_
    refine W.q (Ev.at (E := 3) (.t rfl) (.t rfl) Tryd.underlying22 ty3 (fun _ => ⟨by omega, hga⟩) rfl rfl) rfl ?_
    (refine W.q (Ev.lde1 (.t rfl) ag3) rfl ?_)
    refine W.callv (caps := caps) (avs := [_]) (hg (l.getD i 0) (getD_memG 0 l i hlt)) (.t rfl) ⟨(.t rfl), trivial⟩ rfl ((List.Perm.of_eq (List.append_nil _).symm)) rfl ?_
    rintro _ M' ⟨rfl, hM⟩
    rw [hM, List.append_nil]
    refine W.nil ?_
    refine W.then ?_
    refine W.cond (.t rfl) (fun hc_t16 => ?_) (fun hc_t16 => ?_)
    · have hq := idxI_hit p 0 l i hlt hi2 hc_t16
      refine W.seq ?_
      refine W.region ?_
      refine W.q (Ev.move (.t rfl)) rfl ?_
      refine W.q (Ev.assign (.t rfl)) rfl ?_
      refine W.nil ?_
      refine W.then ?_
      refine W.ret ?_
      refine W.blk_ret ?_
      refine W.then_ret ?_
      refine W.then_ret ?_
      refine W.blk_ret ?_
      refine W.then_ret ?_
      refine W.retn (M' := M0) (D := []) (rs := [.tmp 4]) (avs := [_]) Tryd.results47 ⟨rfl, trivial⟩ rfl (List.Perm.of_eq (List.append_nil _).symm) ?_
      exact ⟨congrArg AV.int (by rw [hq]), rfl⟩
    · have hq : p (l.getD i 0) = false := hc_t16
      refine W.skip ?_
      refine W.blk_normal ?_
      refine W.then ?_
      refine W.region ?_
      (refine W.q (Ev.add (.t rfl) .k (fun _ => by omega)) rfl ?_)
      refine W.q (Ev.move (.t rfl)) rfl ?_
      refine W.nil ?_
      refine W.then ?_
      refine W.reach (D := []) (i + 1) ⟨rfl, rfl, rfl, rfl, trivial⟩ (List.Perm.of_eq (List.append_nil _).symm) ⟨⟨by omega, ?_⟩, by omega⟩
      rw [take_getDG 0 l i hlt]
      intro d hd
      cases List.mem_append.1 hd with
      | inl h => exact hi2 d h
      | inr h => rw [List.mem_singleton.1 h]; exact hq
  · rw [List.take_of_length_le (by omega)] at hi2
    have hq := idxI_miss p l hi2
    refine W.seq ?_
    refine W.region ?_
    refine W.q (Ev.lti (.t rfl) (.t rfl)) rfl ?_
    refine W.nil ?_
    refine W.then ?_
    refine W.seq ?_
    refine W.is (t := 9) (g := true) (av' := .lit (.bool false)) rfl (congrArg (fun b => AV.lit (.bool b)) (by simp; omega)) ?_
    refine W.condF (.t rfl) ?_
    refine W.exit ?_
    refine W.then_exit ?_
    refine W.then_exit ?_
    refine W.blk_hit ?_
    refine W.then ?_
    refine W.seq ?_
    refine W.region ?_
    refine W.q (Ev.assign .k) rfl ?_
    refine W.nil ?_
    refine W.then ?_
    refine W.ret ?_
    refine W.retn (M' := M0) (D := []) (rs := [.tmp 4]) (avs := [_]) Tryd.results47 ⟨rfl, trivial⟩ rfl (List.Perm.of_eq (List.append_nil _).symm) ?_
    exact ⟨congrArg AV.int (by rw [hq]), rfl⟩

theorem c_ContainsFuncI (l : List Int) (g : Nat) (caps : List Value) (M0 : List ME) (p : Int → Bool) (hg : ∀ d ∈ l, FnC Tryd.prog g ([AV.int d] ++ caps.map .lit) M0 (fun r M => r = .bool (p d) ∧ M = M0)) (hn : l.length ≤ 1099511627776) : FnC Tryd.prog 31 [.sl 1 (l.map AV.int), .lit (.func (.func g) #[] caps.toArray)] M0 (fun r M => r = .bool (l.any p) ∧ M = M0) :=  by
  refine FnC.mk Tryd.func31 (by kernel_rfl) rfl Tryd.ntmps31 rfl (fun w0 F => ?_)
  refine W.seq ?_
  refine W.region ?_
  refine W.q (Ev.assign .k) rfl ?_
  refine W.nil ?_
  refine W.then ?_
  refine W.seq ?_
  refine W.region ?_
  refine W.q (Ev.move (.t rfl)) rfl ?_
  refine W.q (Ev.move (.t rfl)) rfl ?_
  refine W.call (c_IndexFuncI l g caps M0 p hg hn) ⟨(.t rfl), (.t rfl), trivial⟩ ((List.Perm.of_eq (List.append_nil _).symm)) rfl ?_
  rintro _ M' ⟨rfl, hM⟩
  rw [hM, List.append_nil]
  refine W.q (Ev.gei (.t rfl) .k) rfl ?_
  refine W.q (Ev.assign (.t rfl)) rfl ?_
  refine W.nil ?_
  refine W.then ?_
  refine W.ret ?_
  refine W.retn (M' := M0) (D := []) (rs := [.tmp 4]) (avs := [_]) Tryd.results31 ⟨rfl, trivial⟩ rfl (List.Perm.of_eq (List.append_nil _).symm) ?_
  exact ⟨congrArg AV.bool (idxI_any p l), rfl⟩

theorem c_IndexFuncR (l : List (List Int)) (g : Nat) (caps : List Value) (M0 : List ME) (p : (List Int) → Bool) (hg : ∀ d ∈ l, FnC Tryd.prog g ([pav d] ++ caps.map .lit) M0 (fun r M => r = .bool (p d) ∧ M = M0)) (hn : l.length ≤ 1099511627776) : FnC Tryd.prog 46 [.sl 1 (l.map pav), .lit (.func (.func g) #[] caps.toArray)] M0 (fun r M => r = .int (idxI p l) ∧ M = M0) :=  by
  refine FnC.mk Tryd.func46 (by kernel_rfl) rfl Tryd.ntmps46 rfl (fun w0 F => ?_)
  have hnl : (l.map pav).length = l.length := List.length_map ..
  refine W.seq ?_
  refine W.region ?_
  refine W.q (Ev.assign .k) rfl ?_
  refine W.nil ?_
  refine W.then ?_
  refine W.seq ?_
  refine W.seq ?_
  refine W.region ?_
  refine W.q (Ev.move (.t rfl)) rfl ?_
  (refine W.q (Ev.lensl (.t rfl) Tryd.underlying25) rfl ?_)
  refine W.q (Ev.move .k) rfl ?_
  refine W.nil ?_
  refine W.then ?_
  refine W.block ?_
  refine W.loop (D := []) (ι := Nat) (fun i => [(8, true, .int (i : Int)), (7, true, .int ((l.map pav).length : Int)), (0, true, .sl 1 (l.map pav)), (1, true, .lit (.func (.func g) #[] caps.toArray))]) (fun _ => M0) (fun i => i ≤ l.length ∧ ∀ d ∈ l.take i, p d = false) (fun i => l.length - i) 0 ⟨rfl, rfl, rfl, rfl, trivial⟩ (List.Perm.of_eq (List.append_nil _).symm) ⟨Nat.zero_le _, by simp⟩ ?_
  rintro i ⟨hi1, hi2⟩
  dsimp only at hi1 hi2 ⊢
  rcases (show i < l.length ∨ i = l.length from by omega) with hlt | hend
  · have hga := getD_mapG pav [] l i hlt
    refine W.seq ?_
    refine W.region ?_
    refine W.q (Ev.lti (.t rfl) (.t rfl)) rfl ?_
    refine W.nil ?_
    refine W.then ?_
    refine W.seq ?_
    refine W.is (t := 9) (g := true) (av' := .lit (.bool true)) rfl (congrArg (fun b => AV.lit (.bool b)) (by simp; omega)) ?_
    refine W.condT (.t rfl) ?_
    refine W.skip ?_
    refine W.then ?_
    refine W.seq ?_
    refine W.block ?_
    refine W.seq ?_
    refine W.region ?_
    refine W.q (Ev.move (.t rfl)) rfl ?_
    refine W.q (Ev.assign (.t rfl)) rfl ?_
    refine W.nil ?_
    refine W.then ?_
    refine W.seq ?_
    refine W.region ?_
    refine W.q (Ev.move (.t rfl)) rfl ?_
    refine W.q (Ev.move (.t rfl)) rfl ?_
    refine W.q (Ev.move (.t rfl)) rfl ?_
    refine W.q (Ev.at (E := 22) (.t rfl) (.t rfl) Tryd.underlying25 ty22 (fun _ => ⟨by omega, hga⟩) rfl rfl) rfl ?_
    (refine W.q (Ev.lde1 (.t rfl) ag22) rfl ?_)
    refine W.callv (caps := caps) (avs := [_]) (hg (l.getD i []) (getD_memG [] l i hlt)) (.t rfl) ⟨(.t rfl), trivial⟩ rfl ((List.Perm.of_eq (List.append_nil _).symm)) rfl ?_
    rintro _ M' ⟨rfl, hM⟩
    rw [hM, List.append_nil]
    refine W.nil ?_
    refine W.then ?_
    refine W.cond (.t rfl) (fun hc_t16 => ?_) (fun hc_t16 => ?_)
    · have hq := idxI_hit p [] l i hlt hi2 hc_t16
      refine W.seq ?_
      refine W.region ?_
      refine W.q (Ev.move (.t rfl)) rfl ?_
      refine W.q (Ev.assign (.t rfl)) rfl ?_
      refine W.nil ?_
      refine W.then ?_
      refine W.ret ?_
      refine W.blk_ret ?_
      refine W.then_ret ?_
      refine W.then_ret ?_
      refine W.blk_ret ?_
      refine W.then_ret ?_
      refine W.retn (M' := M0) (D := []) (rs := [.tmp 4]) (avs := [_]) Tryd.results46 ⟨rfl, trivial⟩ rfl (List.Perm.of_eq (List.append_nil _).symm) ?_
      exact ⟨congrArg AV.int (by rw [hq]), rfl⟩
    · have hq : p (l.getD i []) = false := hc_t16
      refine W.skip ?_
      refine W.blk_normal ?_
      refine W.then ?_
      refine W.region ?_
      (refine W.q (Ev.add (.t rfl) .k (fun _ => by omega)) rfl ?_)
      refine W.q (Ev.move (.t rfl)) rfl ?_
      refine W.nil ?_
      refine W.then ?_
      refine W.reach (D := []) (i + 1) ⟨rfl, rfl, rfl, rfl, trivial⟩ (List.Perm.of_eq (List.append_nil _).symm) ⟨⟨by omega, ?_⟩, by omega⟩
      rw [take_getDG [] l i hlt]
      intro d hd
      cases List.mem_append.1 hd with
      | inl h => exact hi2 d h
      | inr h => rw [List.mem_singleton.1 h]; exact hq
  · rw [List.take_of_length_le (by omega)] at hi2
    have hq := idxI_miss p l hi2
    refine W.seq ?_
    refine W.region ?_
    refine W.q (Ev.lti (.t rfl) (.t rfl)) rfl ?_
    refine W.nil ?_
    refine W.then ?_
    refine W.seq ?_
    refine W.is (t := 9) (g := true) (av' := .lit (.bool false)) rfl (congrArg (fun b => AV.lit (.bool b)) (by simp; omega)) ?_
    refine W.condF (.t rfl) ?_
    refine W.exit ?_
    refine W.then_exit ?_
    refine W.then_exit ?_
    refine W.blk_hit ?_
    refine W.then ?_
    refine W.seq ?_
    refine W.region ?_
    refine W.q (Ev.assign .k) rfl ?_
    refine W.nil ?_
    refine W.then ?_
    refine W.ret ?_
    refine W.retn (M' := M0) (D := []) (rs := [.tmp 4]) (avs := [_]) Tryd.results46 ⟨rfl, trivial⟩ rfl (List.Perm.of_eq (List.append_nil _).symm) ?_
    exact ⟨congrArg AV.int (by rw [hq]), rfl⟩

theorem c_ContainsFuncR (l : List (List Int)) (g : Nat) (caps : List Value) (M0 : List ME) (p : (List Int) → Bool) (hg : ∀ d ∈ l, FnC Tryd.prog g ([pav d] ++ caps.map .lit) M0 (fun r M => r = .bool (p d) ∧ M = M0)) (hn : l.length ≤ 1099511627776) : FnC Tryd.prog 29 [.sl 1 (l.map pav), .lit (.func (.func g) #[] caps.toArray)] M0 (fun r M => r = .bool (l.any p) ∧ M = M0) :=  by
  refine FnC.mk Tryd.func29 (by kernel_rfl) rfl Tryd.ntmps29 rfl (fun w0 F => ?_)
  refine W.seq ?_
  refine W.region ?_
  refine W.q (Ev.assign .k) rfl ?_
  refine W.nil ?_
  refine W.then ?_
  refine W.seq ?_
  refine W.region ?_
  refine W.q (Ev.move (.t rfl)) rfl ?_
  refine W.q (Ev.move (.t rfl)) rfl ?_
  refine W.call (c_IndexFuncR l g caps M0 p hg hn) ⟨(.t rfl), (.t rfl), trivial⟩ ((List.Perm.of_eq (List.append_nil _).symm)) rfl ?_
  rintro _ M' ⟨rfl, hM⟩
  rw [hM, List.append_nil]
  refine W.q (Ev.gei (.t rfl) .k) rfl ?_
  refine W.q (Ev.assign (.t rfl)) rfl ?_
  refine W.nil ?_
  refine W.then ?_
  refine W.ret ?_
  refine W.retn (M' := M0) (D := []) (rs := [.tmp 4]) (avs := [_]) Tryd.results29 ⟨rfl, trivial⟩ rfl (List.Perm.of_eq (List.append_nil _).symm) ?_
  exact ⟨congrArg AV.bool (idxI_any p l), rfl⟩

end WConts

end Go.Proofs.YtacaemfkdieocaaDoor
end

section
set_option linter.unusedVariables false
set_option linter.unusedSimpArgs false
set_option maxRecDepth 100000
namespace Go.Proofs.YtacaemfkdieocaaDoor
open Go.Vl

namespace WMay
theorem ty3 : Ty Tryd.prog 3 1 8 (.int .i64 0) := Ty.of (by kernel_rfl)
theorem ty25 : Ty Tryd.prog 25 1 24 (.slice none 0 0) := Ty.of (by kernel_rfl)
theorem ty26 : Ty Tryd.prog 26 1 24 (.slice none 0 0) := Ty.of (by kernel_rfl)
theorem ty74 : Ty Tryd.prog 74 1 8 (.nilFunc) := Ty.of (by kernel_rfl)
theorem ag3 : IsAgg Tryd.prog 3 false := ⟨_, Tryd.underlying3, rfl⟩
theorem ag25 : IsAgg Tryd.prog 25 false := ⟨_, Tryd.underlying25, rfl⟩
theorem ag26 : IsAgg Tryd.prog 26 false := ⟨_, Tryd.underlying26, rfl⟩
theorem ag74 : IsAgg Tryd.prog 74 false := ⟨_, Tryd.underlying74, rfl⟩
theorem fa28_0 : FieldAt Tryd.prog 28 0 0 1 false := ⟨_, _, Tryd.underlying28, rfl, rfl, ty25.size, ag25, by decide⟩
theorem fa28_1 : FieldAt Tryd.prog 28 1 1 1 false := ⟨_, _, Tryd.underlying28, rfl, rfl, ty26.size, ag26, by decide⟩
theorem c_May1 (x n : Int) (b3 : Nat) : FnC Tryd.prog 28 [.int x, .lit (.pointer (some ⟨b3, 0, none⟩))] [.box b3 3 [.int n]] (fun r M => r = .bool (decide (x < -1) || decide (n ≤ x)) ∧ M = [.box b3 3 [.int n]]) :=  by
  refine FnC.mk Tryd.func28 (by kernel_rfl) rfl Tryd.ntmps28 rfl (fun w0 F => ?_)
  refine W.seq ?_
  refine W.region ?_
  refine W.q (Ev.assign .k) rfl ?_
  refine W.nil ?_
  refine W.then ?_
  refine W.seq ?_
  refine W.region ?_
  refine W.q (Ev.move (.t rfl)) rfl ?_
  refine W.q (Ev.lti (.t rfl) .k) rfl ?_
  refine W.q (Ev.move (.t rfl)) rfl ?_
  refine W.qgF rfl rfl (Ev.move (.t rfl)) rfl ?_
  (refine W.qgF rfl rfl (Ev.ldb1 0 (.t rfl) rfl ag3 rfl) rfl ?_)
  refine W.qgF rfl rfl (Ev.gei (.c rfl) (.c rfl)) rfl ?_
  refine W.q (Ev.or (.t rfl) ⟨_, _, rfl, rfl, by ((simp; done))⟩) rfl ?_
  refine W.q (Ev.assign (.t rfl)) rfl ?_
  refine W.nil ?_
  refine W.then ?_
  refine W.ret ?_
  refine W.retn (M' := [.box b3 3 [.int n]]) (D := []) (rs := [.tmp 3]) (avs := [_]) Tryd.results28 ⟨rfl, trivial⟩ rfl (.refl _) ?_
  exact ⟨rfl, rfl⟩

theorem c_May2 (p : List Int) (n : Int) (b3 b4 : Nat) (hp : p.length ≤ 8) : FnC Tryd.prog 30 [.sl 1 (p.map AV.int), .lit (.pointer (some ⟨b4, 0, none⟩))] [.box b4 74 [.lit (.func (.func 28) #[] #[.pointer (some ⟨b3, 0, none⟩)])], .box b3 3 [.int n]] (fun r M => r = .bool ((p.length != 8) || p.any fun x => decide (x < -1) || decide (n ≤ x)) ∧ M = [.box b4 74 [.lit (.func (.func 28) #[] #[.pointer (some ⟨b3, 0, none⟩)])], .box b3 3 [.int n]]) :=  by
  refine FnC.mk Tryd.func30 (by kernel_rfl) rfl Tryd.ntmps30 rfl (fun w0 F => ?_)
  refine W.seq ?_
  refine W.region ?_
  refine W.q (Ev.assign .k) rfl ?_
  refine W.nil ?_
  refine W.then ?_
  refine W.seq ?_
  refine W.region ?_
  refine W.q (Ev.move (.t rfl)) rfl ?_
  (refine W.q (Ev.lensl (.t rfl) Tryd.underlying22) rfl ?_)
  refine W.q (Ev.nei (.t rfl) .k) rfl ?_
  refine W.q (Ev.move (.t rfl)) rfl ?_
  refine W.qgF rfl rfl (Ev.move (.t rfl)) rfl ?_
  (refine W.qgF rfl rfl (Ev.ldb1 0 (.t rfl) rfl ag74 rfl) rfl ?_)
  refine W.callgF (Min := _) (caps := []) (avs := [_, _]) rfl rfl (fun hg => WConts.c_ContainsFuncI p 28 [.pointer (some ⟨b3, 0, none⟩)] [.box b3 3 [.int n]] (fun x => decide (x < -1) || decide (n ≤ x)) (fun d _ => c_May1 d n b3) (by omega)) (fun hg => .f) (fun hg => ⟨(.i rfl (fun _ => hg)), (.i rfl (fun _ => hg)), trivial⟩) rfl (List.Perm.swap _ _ []) rfl ?_
  refine W.q (Ev.or (.t rfl) ⟨_, _, rfl, rfl, by ((simp; done))⟩) rfl ?_
  refine W.q (Ev.assign (.t rfl)) rfl ?_
  refine W.nil ?_
  refine W.then ?_
  refine W.ret ?_
  refine W.retn (M' := [.box b4 74 [.lit (.func (.func 28) #[] #[.pointer (some ⟨b3, 0, none⟩)])], .box b3 3 [.int n]]) (D := []) (rs := [.tmp 3]) (avs := [_]) Tryd.results30 ⟨rfl, trivial⟩ rfl (.refl _) ?_
  refine ⟨congrArg AV.bool ?_, rfl⟩
  rw [List.length_map]
  congr 1
  rw [Bool.eq_iff_iff, bne_iff_ne, bne_iff_ne]
  omega

theorem c_May (a : Au) (hs : a.Shape) (hn : a.next.length ≤ 40) : FnP Tryd.prog 18 [.agg [.sl 1 (a.next.map pav), .sl 1 (a.final.map AV.bool)]] (.bool true) :=  by
  refine FnC.mk Tryd.func18 (by kernel_rfl) rfl Tryd.ntmps18 rfl (fun w0 F => ?_)
  have hl1 : (a.next.map pav).length = a.next.length := List.length_map ..
  have hl2 : (a.final.map AV.bool).length = a.final.length := List.length_map ..
  have hfin := hs.fin
  have hpos := hs.pos
  refine W.seq ?_
  refine W.region ?_
  refine W.box (.t rfl) rfl rfl ?_
  intro b1
  refine W.q (Ev.assign .k) rfl ?_
  refine W.nil ?_
  refine W.then ?_
  refine W.seq ?_
  refine W.region ?_
  (refine W.q (Ev.fab (.t rfl) fa28_0) rfl ?_)
  (refine W.q (Ev.ldb1 0 (.t rfl) rfl ag25 rfl) rfl ?_)
  (refine W.q (Ev.lensl (.t rfl) Tryd.underlying25) rfl ?_)
  refine W.alloc ty3 rfl rfl ?_
  intro b3
  (refine W.stb 0 (.t rfl) (.t rfl) rfl ty3 rfl rfl rfl ?_)
  refine W.nil ?_
  refine W.then ?_
  refine W.seq ?_
  refine W.seq ?_
  refine W.region ?_
  (refine W.q (Ev.ldb1 0 (.t rfl) rfl ag3 rfl) rfl ?_)
  refine W.q (Ev.lti (.t rfl) .k) rfl ?_
  refine W.q (Ev.move (.t rfl)) rfl ?_
  (refine W.qgF rfl rfl (Ev.ldb1 0 (.t rfl) rfl ag3 rfl) rfl ?_)
  refine W.qgF rfl rfl (Ev.gti (.c rfl) .k) rfl ?_
  refine W.q (Ev.or (.t rfl) ⟨_, _, rfl, rfl, by ((simp; done))⟩) rfl ?_
  refine W.q (Ev.move (.t rfl)) rfl ?_
  (refine W.qgF rfl rfl (Ev.fab (.t rfl) fa28_1) rfl ?_)
  (refine W.qgF rfl rfl (Ev.ldb1 1 (.c rfl) rfl ag26 rfl) rfl ?_)
  (refine W.qgF rfl rfl (Ev.lensl (.c rfl) Tryd.underlying26) rfl ?_)
  (refine W.qgF rfl rfl (Ev.ldb1 0 (.t rfl) rfl ag3 rfl) rfl ?_)
  refine W.qgF rfl rfl (Ev.nei (.c rfl) (.c rfl)) rfl ?_
  refine W.q (Ev.or (.t rfl) ⟨_, _, rfl, rfl, by ((simp; done))⟩) rfl ?_
  refine W.nil ?_
  refine W.then ?_
  refine W.is (t := 20) (g := true) (av' := .lit (.bool false)) rfl (congrArg (fun b => AV.lit (.bool b)) (by simp; omega)) ?_
  refine W.condF (.t rfl) ?_
  refine W.skip ?_
  refine W.then ?_
  refine W.seq ?_
  refine W.region ?_
  refine W.q (Ev.mkfn (caps := [.tmp 3]) (vs := [_]) ⟨(.t rfl), trivial⟩) rfl ?_
  refine W.alloc ty74 rfl rfl ?_
  intro b4
  (refine W.stb 0 (.t rfl) (.t rfl) rfl ty74 rfl rfl rfl ?_)
  refine W.nil ?_
  refine W.then ?_
  refine W.seq ?_
  refine W.region ?_
  (refine W.q (Ev.fab (.t rfl) fa28_0) rfl ?_)
  (refine W.q (Ev.ldb1 2 (.t rfl) rfl ag25 rfl) rfl ?_)
  refine W.q (Ev.mkfn (caps := [.tmp 4]) (vs := [_]) ⟨(.t rfl), trivial⟩) rfl ?_
  refine W.call (WConts.c_ContainsFuncR a.next 30 [.pointer (some ⟨b4, 0, none⟩)] [.box b4 74 [.lit (.func (.func 28) #[] #[.pointer (some ⟨b3, 0, none⟩)])], .box b3 3 [.int ((a.next.map pav).length : Int)]] (fun p => (p.length != 8) || p.any fun x => decide (x < -1) || decide (((a.next.map pav).length : Int) ≤ x)) (fun d hd => c_May2 d _ b3 b4 (Nat.le_of_eq (hs.mem_row d hd))) (by omega)) ⟨(.t rfl), (.t rfl), trivial⟩ (.refl _) rfl ?_
  rintro _ _ ⟨rfl, rfl⟩
  refine W.q (Ev.not (.t rfl)) rfl ?_
  refine W.q (Ev.assign (.t rfl)) rfl ?_
  refine W.nil ?_
  refine W.then ?_
  refine W.ret ?_
  refine W.retn (M' := []) (D := _) (rs := [.tmp 2]) (avs := [_]) Tryd.results18 ⟨rfl, trivial⟩ rfl (.refl _) ?_
  exact ⟨congrArg AV.bool (by rw [hl1, hs.any_ok]; rfl), rfl⟩

end WMay

end Go.Proofs.YtacaemfkdieocaaDoor
end

section
set_option linter.unusedVariables false
set_option linter.unusedSimpArgs false
set_option linter.unusedSectionVars false
namespace Go.Vl
/-- the entries of such a map -/
def mEnts : Nat → List Value → List MapEntry
  | _, [] => []
  | i, k :: ks => ⟨k, .int .i64 (i : Int), i⟩ :: mEnts (i + 1) ks
def mObj (ks : List Value) : Obj := .map (mEnts 0 ks).toArray ks.length
theorem mEnts_length : ∀ (ks : List Value) (i : Nat), (mEnts i ks).length = ks.length
  | [], _ => rfl
  | k :: ks, i => by rw [mEnts, List.length_cons, List.length_cons, mEnts_length ks]
theorem mEnts_snoc (k : Value) : ∀ (ks : List Value) (i : Nat), mEnts i (ks ++ [k]) = mEnts i ks ++ [⟨k, .int .i64 ((i + ks.length : Nat) : Int), i + ks.length⟩]
  | [], i => rfl
  | q :: ks, i => by
    rw [List.cons_append, mEnts, mEnts_snoc k ks, mEnts, List.cons_append, List.length_cons]
    rw [show i + 1 + ks.length = i + (ks.length + 1) from by omega]
/-- where a key stands among others -/
def place {α : Type} [DecidableEq α] (k : α) : List α → Option Nat
  | [] => none
  | q :: ks => if k = q then some 0 else (place k ks).map (· + 1)
theorem place_none {α : Type} [DecidableEq α] {k : α} : ∀ {ks : List α}, place k ks = none ↔ k ∉ ks
  | [] => by simp [place]
  | q :: ks => by
    simp only [place, List.mem_cons, not_or]
    split
    · rename_i h; simp [h]
    · rename_i h; rw [Option.map_eq_none_iff, place_none]; simp [h]
theorem place_some {α : Type} [DecidableEq α] {k : α} : ∀ {ks : List α} {i : Nat}, place k ks = some i → ks[i]? = some k
  | [], i, h => by cases h
  | q :: ks, i, h => by
    simp only [place] at h
    split at h
    · rename_i e; cases h; rw [e]; rfl
    · obtain ⟨j, hj, rfl⟩ := Option.map_eq_some_iff.1 h
      have := place_some hj
      simpa using this
theorem place_lt {α : Type} [DecidableEq α] {k : α} {ks : List α} {i : Nat} (h : place k ks = some i) : i < ks.length := by
  have := place_some h
  rcases Nat.lt_or_ge i ks.length with h1 | h1
  · exact h1
  · rw [List.getElem?_eq_none h1] at this; cases this
theorem place_new {α : Type} [DecidableEq α] {k : α} {ks : List α} (h : k ∉ ks) : place k (ks ++ [k]) = some ks.length := by
  induction ks with
  | nil => simp [place]
  | cons r ks ih =>
    rw [List.mem_cons, not_or] at h
    rw [List.cons_append, place, if_neg h.1, ih h.2]; rfl
/-- a kind of keys that the model finds at once -/
structure KeyKind (P : Program) (K : TypeId) {α : Type} [DecidableEq α] (f : α → Value) : Prop where
  check : ∀ (e : Bool) (k : α) (w : World), (Instr.checkKey e 10000 K (f k)).run P w = .ok () w
  find : ∀ (k : α) (ks : List α) (w : World), (Instr.findKey K (f k) (mEnts 0 (ks.map f))).run P w = .ok ((place k ks).map fun i => (i, .int .i64 (i : Int))) w
theorem findNow_place {α : Type} [DecidableEq α] {f : α → Value} {d : TypeDesc} (hs : ∀ a b : α, Instr.sameNow d (f a) (f b) = some (decide (a = b))) (k : α) :
    ∀ (ks : List α) (i : Nat), Instr.findNow d (f k) (mEnts i (ks.map f)) i = some ((place k ks).map fun j => (i + j, .int .i64 ((i + j : Nat) : Int)))
  | [], i => rfl
  | q :: ks, i => by
    rw [List.map_cons, mEnts, Instr.findNow, hs, place]
    by_cases h : k = q
    · rw [if_pos h, decide_eq_true h]; rfl
    · rw [if_neg h, decide_eq_false h]
      show Instr.findNow d (f k) (mEnts (i + 1) (ks.map f)) (i + 1) = _
      rw [findNow_place hs k ks (i + 1), Option.map_map]
      congr 2
      funext j
      show (i + 1 + j, Value.int .i64 ((i + 1 + j : Nat) : Int)) = (i + (j + 1), Value.int .i64 ((i + (j + 1) : Nat) : Int))
      rw [show i + 1 + j = i + (j + 1) from by omega]
theorem KeyKind.str {P : Program} {K : TypeId} (hK : P.underlying K = some .string) : KeyKind P K (fun s : List UInt8 => Value.string ⟨s.toArray⟩) := by
  refine ⟨fun e k w => ?_, fun k ks w => ?_⟩
  · exact Go.MapKept.run_checkKey hK (by trivial) e 9999
  · have h := findNow_place (d := .string) (f := fun s : List UInt8 => Value.string ⟨s.toArray⟩) (fun a b => by
      show some ((⟨a.toArray⟩ : ByteArray) == ⟨b.toArray⟩) = _
      congr 1
      show (a.toArray == b.toArray) = _
      by_cases h : a = b
      · subst h; simp
      · rw [decide_eq_false h]
        exact beq_eq_false_iff_ne.2 fun h' => h (by simpa using congrArg Array.toList h')) k ks 0
    simp only [Instr.findKey, Sem.run_bind, run_underlying hK, Result.andThen_ok, h, Sem.run_pure]
    simp
theorem KeyKind.int {P : Program} {K : TypeId} (hK : P.underlying K = some (.int .i64)) : KeyKind P K (fun n : Int => Value.int .i64 n) := by
  refine ⟨fun e k w => ?_, fun k ks w => ?_⟩
  · exact Go.MapKept.run_checkKey (k := .int .i64 k) hK rfl e 9999
  · have h := findNow_place (d := .int .i64) (f := fun n : Int => Value.int .i64 n) (fun a b => by
      by_cases h : a = b
      · subst h; simp [Instr.sameNow]
      · simp [Instr.sameNow, h]) k ks 0
    simp only [Instr.findKey, Sem.run_bind, run_underlying hK, Result.andThen_ok, h, Sem.run_pure]
    simp
theorem findAsking_place {P : Program} {K : TypeId} {α : Type} [DecidableEq α] {f : α → Value} (hq : ∀ (a b : α) (w : World), (Op.equal K (f a) (f b)).run P w = .ok (decide (a = b)) w) (k : α) (w : World) :
    ∀ (ks : List α) (i : Nat), (Instr.findAsking K (f k) (mEnts i (ks.map f)) i).run P w = .ok ((place k ks).map fun j => (i + j, .int .i64 ((i + j : Nat) : Int))) w
  | [], i => by simp [mEnts, Instr.findAsking, place]
  | q :: ks, i => by
    rw [List.map_cons, mEnts, Instr.findAsking, Sem.run_bind, hq, Result.andThen_ok, place]
    by_cases h : k = q
    · rw [if_pos h, decide_eq_true h]; simp
    · rw [if_neg h, decide_eq_false h]
      simp only [Bool.false_eq_true, if_false]
      rw [findAsking_place hq k w ks (i + 1), Option.map_map]
      congr 2
      funext j
      show (i + 1 + j, Value.int .i64 ((i + 1 + j : Nat) : Int)) = (i + (j + 1), Value.int .i64 ((i + (j + 1) : Nat) : Int))
      rw [show i + 1 + j = i + (j + 1) from by omega]
/-- keys of another kind, of which the model asks whether they are equal -/
theorem KeyKind.ask {P : Program} {K : TypeId} {d : TypeDesc} {α : Type} [DecidableEq α] {f : α → Value} (hK : P.underlying K = some d) (hs : ∀ a b : α, Instr.sameNow d (f a) (f b) = none) (hc : ∀ (e : Bool) (k : α) (w : World), (Instr.checkKey e 10000 K (f k)).run P w = .ok () w)
    (hq : ∀ (a b : α) (w : World), (Op.equal K (f a) (f b)).run P w = .ok (decide (a = b)) w) : KeyKind P K f := by
  refine ⟨hc, fun k ks w => ?_⟩
  have h := findAsking_place hq k w ks 0
  simp only [Nat.zero_add] at h
  cases ks with
  | nil => simp [Instr.findKey, run_underlying hK, Instr.findNow, mEnts, place]
  | cons q ks =>
    simp only [Instr.findKey, Sem.run_bind, run_underlying hK, Result.andThen_ok]
    rw [show Instr.findNow d (f k) (mEnts 0 ((q :: ks).map f)) 0 = none from by rw [List.map_cons, mEnts, Instr.findNow, hs]]
    exact h
/-- what a slot holds, said in another way -/
theorem W.conv {x : Cx} {L : List (Tmp × Bool × AV)} {M : List ME} {R : Act → World → Prop} {t : Tmp} {av av' : AV} (h : look L t = some (true, av)) (e : ∀ w N v, Rep w N av v → Rep w N av' v) (next : W x ((t, true, av') :: L) M R) : W x L M R := by
  intro a w hs
  refine next a w ⟨hs.defers, hs.size, ?_, hs.mem, hs.fr, hs.old⟩
  intro u g' av2 hl
  rw [look_cons] at hl
  by_cases e' : t = u
  · subst e'
    rw [if_pos rfl] at hl
    cases hl
    have := hs.slots t true av h
    exact ⟨fun hg => e _ _ _ (this.1 hg), fun hg => by cases hg⟩
  · rw [if_neg e'] at hl; exact hs.slots u g' av2 hl
/-- a struct of two numbers as_ a key -/
def pv (p : Int × Int) : Value := .agg #[.int .i64 p.1, .int .i64 p.2]
theorem Rep.pv {w : World} {N : List Nat} {a b : Int} {v : Value} (h : Rep w N (.agg [.int a, .int b]) v) : Rep w N (.lit (pv (a, b))) v := by
  obtain ⟨h1, h2⟩ := h
  cases v <;> simp [AV.sh, shV] at h1
  simp only [RepC, RepL] at h2
  rename_i cells
  obtain ⟨v1, vs1, e1, ⟨_, _, r1⟩, v2, vs2, e2, ⟨_, _, r2⟩, e3⟩ := h2
  subst e3
  subst e2
  obtain rfl := List.cons.inj r1 |>.1
  obtain rfl := List.cons.inj r2 |>.1
  have : Value.agg cells = Vl.pv (a, b) := by
    unfold Vl.pv
    congr 1
    exact Array.toList_inj.1 (by simpa [Value.cells] using e1)
  rw [this]
  exact Rep.lit _
theorem run_equal_pair {P : Program} {T I : TypeId} {f1 f2 : Field} (hU : P.underlying T = some (.struct #[f1, f2])) (hp : P.stoodInHeld T = false) (n1 : f1.name ≠ "_") (n2 : f2.name ≠ "_") (k1 : f1.offset = 0 ∧ f1.type = I) (k2 : f2.offset = 1 ∧ f2.type = I) (u : P.underlying I = some (.int .i64)) (p q : Int × Int) (w : World) :
    (Op.equal T (pv p) (pv q)).run P w = .ok (decide (p = q)) w := by
  have hi : ∀ (a b : Int) (n : Nat), (Op.equalIn (n + 1) I (.int .i64 a) (.int .i64 b)).run P w = .ok (a == b) w := fun a b n => by
    unfold Op.equalIn
    simp [run_underlying u]
  have hpt : ∀ (cs : Array Value) (o : Nat) (v : Value), cs[o]? = some v → (part I cs o).run P w = .ok v w := fun cs o v h => by
    have := IsAgg.run (P := P) (T := I) (b := false) ⟨_, u, rfl⟩ w
    simp [part, this, h]
  have hF : P.fieldsOf T = #[f1, f2] := by rw [Program.fieldsOf, hU]
  have h := run_equalIn_agg w 9999 T #[.int .i64 p.1, .int .i64 p.2] #[.int .i64 q.1, .int .i64 q.2] (hF ▸ hU) hp
  rw [hF] at h
  show (Op.equalIn 10000 T _ _).run P w = _
  unfold pv
  rw [h]
  simp only [Op.eqFields, if_pos n1, if_pos n2, k1.1, k1.2, k2.1, k2.2, Sem.run_bind]
  have hi' : ∀ a b : Int, (Op.equalIn 9999 I (.int .i64 a) (.int .i64 b)).run P w = .ok (a == b) w := fun a b => hi a b 9998
  obtain ⟨p1, p2⟩ := p
  obtain ⟨q1, q2⟩ := q
  dsimp only
  rw [hpt #[.int .i64 p1, .int .i64 p2] 0 (.int .i64 p1) rfl, Result.andThen_ok, hpt #[.int .i64 q1, .int .i64 q2] 0 (.int .i64 q1) rfl, Result.andThen_ok, hi', Result.andThen_ok]
  by_cases h1 : p1 = q1
  · subst h1
    simp only [beq_self_eq_true, Bool.not_true, Bool.false_eq_true, if_false, Sem.run_bind]
    rw [hpt #[.int .i64 p1, .int .i64 p2] 1 (.int .i64 p2) rfl, Result.andThen_ok, hpt #[.int .i64 p1, .int .i64 q2] 1 (.int .i64 q2) rfl, Result.andThen_ok, hi', Result.andThen_ok]
    by_cases h2 : p2 = q2 <;> simp [h2]
  · simp [h1]
theorem run_checkKey_pair {P : Program} {T I : TypeId} {f1 f2 : Field} (hU : P.underlying T = some (.struct #[f1, f2])) (n1 : f1.name ≠ "_") (n2 : f2.name ≠ "_") (k1 : f1.offset = 0 ∧ f1.type = I) (k2 : f2.offset = 1 ∧ f2.type = I) (u : P.underlying I = some (.int .i64)) (e : Bool) (p : Int × Int) (w : World) :
    (Instr.checkKey e 10000 T (pv p)).run P w = .ok () w := by
  have hpt : ∀ (cs : Array Value) (o : Nat) (v : Value), cs[o]? = some v → (part I cs o).run P w = .ok v w := fun cs o v h => by
    have := IsAgg.run (P := P) (T := I) (b := false) ⟨_, u, rfl⟩ w
    simp [part, this, h]
  have hi : ∀ a : Int, (Instr.checkKey e 9999 I (.int .i64 a)).run P w = .ok () w := fun a => Go.MapKept.run_checkKey (k := .int .i64 a) u rfl e 9998
  unfold pv
  rw [show (10000 : Nat) = 9999 + 1 from rfl]
  unfold Instr.checkKey
  simp only [Sem.run_bind, run_underlying hU, Result.andThen_ok]
  simp [n1, n2, k1.1, k1.2, k2.1, k2.2, hpt #[.int .i64 p.1, .int .i64 p.2] 0 _ rfl, hpt #[.int .i64 p.1, .int .i64 p.2] 1 _ rfl, hi]
theorem KeyKind.pair {P : Program} {T I : TypeId} {f1 f2 : Field} (hU : P.underlying T = some (.struct #[f1, f2])) (hp : P.stoodInHeld T = false) (n1 : f1.name ≠ "_") (n2 : f2.name ≠ "_") (k1 : f1.offset = 0 ∧ f1.type = I) (k2 : f2.offset = 1 ∧ f2.type = I) (u : P.underlying I = some (.int .i64)) : KeyKind P T pv :=
  KeyKind.ask hU (fun a b => rfl) (fun e k w => run_checkKey_pair hU n1 n2 k1 k2 u e k w) (fun a b w => run_equal_pair hU hp n1 n2 k1 k2 u a b w)
section map
variable {x : Cx} {g : Bool} {L : List (Tmp × Bool × AV)} {M : List ME} {ops : Array Oper} {Q : Exit → Act → World → Prop} {rest : List Oper} {ty : TypeId} {pos : String} {aft : Array Edge}
theorem W.mkmap {d : Tmp} {T : TypeId} (hd : Nat.blt d x.n = true) (next : ∀ b, W x ((d, true, .lit (.map (some b))) :: L) (ME.obj b (mObj []) :: M) (wpList x.P ops Q rest)) :
    W x L M (wpList x.P ops Q (⟨some d, .makeMap T none, ty, pos, aft, none⟩ :: rest)) := by
  refine W.opv (ι := Nat) (fun b => ME.obj b (mObj []) :: M) (fun b => .lit (.map (some b))) hd ?_ next
  intro a w hs
  refine ⟨.map (some w.heap.size), w.alloc (mObj []), w.heap.size, ?_, ?_, Rep.lit _⟩
  · simp [execOp, Instr.makeMap, newObj, Sem.run, mObj, mEnts]
  · refine hs.alloc _ _ rfl ?_
    intro N hN
    exact ⟨alloc_new _ _, by intro c T fr h; cases h⟩
theorem Ev.lenmap (i : Nat) {T K V b : Nat} {ks : List Value} {o1 : Operand} (h1 : Ov g L o1 (.lit (.map (some b)))) (hM : M[i]? = some (ME.obj b (mObj ks))) (hT : x.P.underlying T = some (.map K V)) :
    Ev x g L M (.call ⟨.builtin .len, #[o1], #[T]⟩) ty (.lit (.int .i64 (ks.length : Int))) := Ev.pure fun a w hs hg => by
  obtain ⟨hh, _⟩ := hs.mem.holds _ (List.mem_of_getElem? hM)
  have he := h1.lit hg hs
  simp only [mObj] at hh
  simp [execOp, resolve, he, getObj, Sem.run, hh, run_underlying hT, mEnts_length, goInt, invoke, builtin, Builtin.len_]
theorem Ev.look1 (i : Nat) {T K V b k' bytes : Nat} {α : Type} [DecidableEq α] {f : α → Value} {ks : List α} {k : α} {o1 o2 : Operand} (h1 : Ov g L o1 (.lit (.map (some b)))) (hM : M[i]? = some (ME.obj b (mObj (ks.map f)))) (h2 : Ov g L o2 (.lit (f k)))
    (hT : x.P.underlying T = some (.map K V)) (hk : KeyKind x.P K f) (hV : Ty x.P V k' bytes (.int .i64 0)) :
    Ev x g L M (.lookup T o1 o2 false) ty (.lit (.int .i64 (((place k ks).getD 0 : Nat) : Int))) := Ev.pure fun a w hs hg => by
  obtain ⟨hh, _⟩ := hs.mem.holds _ (List.mem_of_getElem? hM)
  have e1 := h1.lit hg hs
  have e2 := h2.lit hg hs
  simp only [mObj] at hh
  have hf := hk.find k ks w
  have hc := fun e => hk.check e k w
  simp only [execOp, e1, e2, Instr.lookup, getObj, Sem.run_bind, Sem.run, hh, Result.andThen_ok, run_underlying hT, Sem.run_pure, hc, hf]
  cases place k ks with
  | none => simp [hV.zero w]
  | some j => simp
theorem Ev.look2 (i : Nat) {T K V b k' bytes : Nat} {α : Type} [DecidableEq α] {f : α → Value} {ks : List α} {k : α} {o1 o2 : Operand} (h1 : Ov g L o1 (.lit (.map (some b)))) (hM : M[i]? = some (ME.obj b (mObj (ks.map f)))) (h2 : Ov g L o2 (.lit (f k)))
    (hT : x.P.underlying T = some (.map K V)) (hk : KeyKind x.P K f) (hV : Ty x.P V k' bytes (.int .i64 0)) :
    Ev x g L M (.lookup T o1 o2 true) ty (.tup [.lit (.int .i64 (((place k ks).getD 0 : Nat) : Int)), .lit (.bool (place k ks).isSome)]) := fun a w hs hg => by
  obtain ⟨hh, _⟩ := hs.mem.holds _ (List.mem_of_getElem? hM)
  have e1 := h1.lit hg hs
  have e2 := h2.lit hg hs
  simp only [mObj] at hh
  have hf := hk.find k ks w
  have hc := fun e => hk.check e k w
  refine ⟨.tuple #[.int .i64 (((place k ks).getD 0 : Nat) : Int), .bool (place k ks).isSome], ?_, rfl, ?_⟩
  · simp only [execOp, e1, e2, Instr.lookup, getObj, Sem.run_bind, Sem.run, hh, Result.andThen_ok, run_underlying hT, Sem.run_pure, hc, hf]
    cases place k ks with
    | none => simp [hV.zero w]
    | some j => simp
  · simp only [RepC]
    exact ⟨_, rfl, by simp only [RepT]; exact ⟨_, _, rfl, Rep.lit _, _, _, rfl, Rep.lit _, rfl⟩⟩
/-- a new key comes in, with its place -/
theorem W.mapnew (i : Nat) {T K V b : Nat} {α : Type} [DecidableEq α] {f : α → Value} {ks : List α} {k : α} {o1 o2 o3 : Operand} (h1 : Ov true L o1 (.lit (.map (some b)))) (hM : M[i]? = some (ME.obj b (mObj (ks.map f)))) (h2 : Ov true L o2 (.lit (f k)))
    (h3 : Ov true L o3 (.lit (.int .i64 (ks.length : Int)))) (hT : x.P.underlying T = some (.map K V)) (hk : KeyKind x.P K f) (hn : k ∉ ks) (op : Op) (hop : op = .mapUpdate T o1 o2 o3 ∨ op = .insert T o1 o2 o3)
    (next : W x L (M.set i (ME.obj b (mObj ((ks ++ [k]).map f)))) (wpList x.P ops Q rest)) :
    W x L M (wpList x.P ops Q (⟨none, op, ty, pos, aft, none⟩ :: rest)) := by
  refine W.opu (ι := Unit) (fun _ => M.set i (ME.obj b (mObj ((ks ++ [k]).map f)))) ?_ (fun _ => next)
  intro a w hs
  obtain ⟨hh, _⟩ := hs.mem.holds _ (List.mem_of_getElem? hM)
  have e1 := h1.lit rfl hs
  have e2 := h2.lit rfl hs
  have e3 := h3.lit rfl hs
  have hf := hk.find k ks w
  have hc := fun e => hk.check e k w
  rw [place_none.2 hn, Option.map_none] at hf
  refine ⟨{ w with heap := w.heap.setIfInBounds b (mObj ((ks ++ [k]).map f)) }, (), ?_, ?_⟩
  · have hnew : (mEnts 0 (ks.map f)).toArray.push ⟨f k, .int .i64 (ks.length : Int), ks.length⟩ = (mEnts 0 ((ks ++ [k]).map f)).toArray := by
      rw [List.map_append, List.map_cons, List.map_nil, mEnts_snoc, List.length_map]; simp
    simp only [mObj] at hh
    have hrun : (Instr.mapUpdate T (.map (some b)) (f k) (.int .i64 (ks.length : Int))).run x.P w = .ok () { w with heap := w.heap.setIfInBounds b (mObj ((ks ++ [k]).map f)) } := by
      simp only [Instr.mapUpdate, getObj, setObj, Sem.run_bind, Sem.run, hh, Result.andThen_ok, run_underlying hT, Sem.run_pure, hc, hf, List.length_map]
      simp only [mObj, hnew, List.length_map, List.length_append, List.length_singleton, hh]
    rcases hop with rfl | rfl
    · simp only [execOp, e1, e2, e3, Sem.run_bind, hrun, Result.andThen_ok, Sem.run_pure]
    · simp only [execOp, e1, e2, e3, Sem.run_bind, hrun, Result.andThen_ok, Sem.run_pure]
  · refine hs.write hM rfl rfl ?_
    intro w' _ hnew _
    exact ⟨hnew, by intro c T fr h; cases h⟩
end map
end Go.Vl
end

section
set_option linter.unusedVariables false
set_option linter.unusedSimpArgs false
set_option linter.unusedSectionVars false
namespace Go.Vl
section arrv
variable {x : Cx} {g : Bool} {L : List (Tmp × Bool × AV)} {M : List ME} {ty T : TypeId} {o1 o2 : Operand}
/-- the i-th cell of an array in a box -/
theorem Ev.boxat {E b bytes len : Nat} {z : Value} {i : Int} {ki : IntKind} (h1 : Ov g L o1 (.lit (.pointer (some ⟨b, 0, none⟩)))) (h2 : Ov g L o2 (.lit (.int ki i))) (hT : x.P.underlying T = some (.array len E)) (hE : Ty x.P E 1 bytes z)
    (hi : g = true → 0 ≤ i ∧ i < len) : Ev x g L M (.indexAddr T o1 o2) ty (.lit (.pointer (some ⟨b, i.toNat, none⟩))) := Ev.pure fun a w hs hg => by
  obtain ⟨hi0, hi1⟩ := hi hg
  simp [execOp, h1.lit hg hs, h2.lit hg hs, Instr.indexAt, Instr.sureAddr, asIntOf, run_underlying hT, hi0, hi1, hE.size, Addr.add_lit]
/-- the i-th cell of an array -/
theorem Ev.arrat {E len : Nat} {cs : List AV} {c : AV} {i : Int} {ki : IntKind} (h1 : Ov g L o1 (.agg cs)) (h2 : Ov g L o2 (.lit (.int ki i))) (hT : x.P.underlying T = some (.array len E)) (hE : x.P.underlying E = some (.int .i64))
    (hi : g = true → 0 ≤ i ∧ i < len ∧ cs[i.toNat]? = some c) (hz : Ty x.P E 1 8 (.int .i64 0)) : Ev x g L M (.index T o1 o2) ty c := fun a w hs hg => by
  obtain ⟨hi0, hi1, hc⟩ := hi hg
  obtain ⟨us, e1, hr⟩ := (h1.rep hg hs).agg_inv
  obtain ⟨v, hv, hrep⟩ := RepL.get hr hc
  refine ⟨v, ?_, hrep⟩
  have hv' : us[i.toNat]? = some v := by simpa using hv
  have hp : (part E us i.toNat).run x.P w = .ok v w := by
    have hag : (isAgg E).run x.P w = .ok false w := IsAgg.run ⟨_, hE, rfl⟩ w
    have hsz := hz.size w
    simp only [part, Sem.run_bind, hag, Result.andThen_ok]
    simp [hv']
  simp only [execOp, e1, h2.lit hg hs, Instr.index, asIntOf, Sem.run_bind, run_underlying hT, Result.andThen_ok, Sem.run_pure, hi0, hi1, hz.size w]
  simp [hi0, hi1, hp, Sem.run_bind, hz.size w]
end arrv
end Go.Vl
end

section
set_option linter.unusedVariables false
set_option linter.unusedSimpArgs false
namespace Go.Vl
namespace Lg
/-- behind whatever letters words are those of some of m sets -/
def Wid (A : Lg) (m : Nat) : Prop := ∃ l : List Lg, l.length ≤ m ∧ ∀ u : List Int, u ≠ [] → ∃ S : Lg → Prop, ∀ w, A (u ++ w) ↔ ∃ B, B ∈ l ∧ S B ∧ B w
theorem Wid.mono {A : Lg} {m n : Nat} (h : Wid A m) (hn : m ≤ n) : Wid A n := by
  obtain ⟨l, h1, h2⟩ := h; exact ⟨l, by omega, h2⟩
theorem wid_none : Wid none 0 := ⟨[], Nat.le_refl _, fun u hu => ⟨fun _ => False, fun w => by simp [none]⟩⟩
theorem wid_eps : Wid eps 0 := ⟨[], Nat.le_refl _, fun u hu => ⟨fun _ => False, fun w => by simp [eps, hu]⟩⟩
theorem wid_one (n : Int) : Wid (one n) 1 := by
  refine ⟨[eps], Nat.le_refl _, fun u hu => ⟨fun _ => u = [n], fun w => ?_⟩⟩
  simp only [List.mem_singleton, one, eps]
  constructor
  · intro h
    cases u with
    | nil => exact absurd rfl hu
    | cons c u =>
      simp only [List.cons_append, List.cons.injEq, List.append_eq_nil_iff] at h
      obtain ⟨rfl, rfl, rfl⟩ := h
      exact ⟨_, rfl, rfl, rfl⟩
  · rintro ⟨B, rfl, rfl, h⟩
    have h : w = [] := h
    subst h; rfl
theorem Wid.alt {A B : Lg} {m n : Nat} (ha : Wid A m) (hb : Wid B n) : Wid (alt A B) (m + n) := by
  obtain ⟨la, a1, a2⟩ := ha
  obtain ⟨lb, b1, b2⟩ := hb
  refine ⟨la ++ lb, by rw [List.length_append]; omega, fun u hu => ?_⟩
  obtain ⟨SA, hA⟩ := a2 u hu
  obtain ⟨SB, hB⟩ := b2 u hu
  refine ⟨fun E => (E ∈ la ∧ SA E) ∨ (E ∈ lb ∧ SB E), fun w => ?_⟩
  constructor
  · rintro (h | h)
    · obtain ⟨E, h1, h2, h3⟩ := (hA w).1 h
      exact ⟨E, List.mem_append_left _ h1, .inl ⟨h1, h2⟩, h3⟩
    · obtain ⟨E, h1, h2, h3⟩ := (hB w).1 h
      exact ⟨E, List.mem_append_right _ h1, .inr ⟨h1, h2⟩, h3⟩
  · rintro ⟨E, _, ⟨h1, h2⟩ | ⟨h1, h2⟩, h3⟩
    · exact .inl ((hA w).2 ⟨E, h1, h2, h3⟩)
    · exact .inr ((hB w).2 ⟨E, h1, h2, h3⟩)
theorem cat_split {A B : Lg} {u w : List Int} (h : cat A B (u ++ w)) : (∃ p q, w = p ++ q ∧ A (u ++ p) ∧ B q) ∨ (∃ p v, u = p ++ v ∧ v ≠ [] ∧ A p ∧ B (v ++ w)) := by
  obtain ⟨p, q, e, hp, hq⟩ := h
  rcases List.append_eq_append_iff.1 e with ⟨t, h1, h2⟩ | ⟨t, h1, h2⟩
  · subst h1; exact .inl ⟨t, q, h2, hp, hq⟩
  · subst h1 h2
    rcases t with _ | ⟨x, t⟩
    · exact .inl ⟨[], w, rfl, by simpa using hp, by simpa using hq⟩
    · exact .inr ⟨p, x :: t, rfl, by simp, hp, hq⟩
theorem Wid.cat {A B : Lg} {m n : Nat} (ha : Wid A m) (hb : Wid B n) : Wid (cat A B) (m + n) := by
  obtain ⟨la, a1, a2⟩ := ha
  obtain ⟨lb, b1, b2⟩ := hb
  refine ⟨la.map (fun C => Lg.cat C B) ++ lb, by rw [List.length_append, List.length_map]; omega, fun u hu => ?_⟩
  obtain ⟨SA, hA⟩ := a2 u hu
  refine ⟨fun E => (∃ C, C ∈ la ∧ SA C ∧ E = Lg.cat C B) ∨ (∃ p v, u = p ++ v ∧ v ≠ [] ∧ A p ∧ E ∈ lb ∧ ∀ w, E w → B (v ++ w)), fun w => ?_⟩
  constructor
  · intro h
    rcases cat_split h with ⟨p, q, rfl, hp, hq⟩ | ⟨p, v, rfl, hv, hp, hq⟩
    · obtain ⟨C, h1, h2, h3⟩ := (hA p).1 hp
      exact ⟨Lg.cat C B, List.mem_append_left _ (List.mem_map_of_mem h1), .inl ⟨C, h1, h2, rfl⟩, p, q, rfl, h3, hq⟩
    · obtain ⟨SB, hB⟩ := b2 v hv
      obtain ⟨E, h1, h2, h3⟩ := (hB w).1 hq
      exact ⟨E, List.mem_append_right _ h1, .inr ⟨p, v, rfl, hv, hp, h1, fun w' hw' => (hB w').2 ⟨E, h1, h2, hw'⟩⟩, h3⟩
  · rintro ⟨E, _, ⟨C, h1, h2, rfl⟩ | ⟨p, v, rfl, hv, hp, h1, h2⟩, h3⟩
    · obtain ⟨p, q, rfl, hp, hq⟩ := h3
      exact ⟨u ++ p, q, by simp, (hA p).2 ⟨C, h1, h2, hp⟩, hq⟩
    · exact ⟨p, v ++ w, by simp, hp, h2 w h3⟩
theorem star_split {A : Lg} {z : List Int} (h : star A z) : ∀ u w : List Int, u ≠ [] → z = u ++ w → ∃ p v w1 w2, u = p ++ v ∧ v ≠ [] ∧ star A p ∧ w = w1 ++ w2 ∧ A (v ++ w1) ∧ star A w2 := by
  induction h with
  | nil => intro u w hu e; exact absurd (List.append_eq_nil_iff.1 e.symm).1 hu
  | cons a b ha hb ih =>
    intro u w hu e
    rcases List.append_eq_append_iff.1 e with ⟨t, h1, h2⟩ | ⟨t, h1, h2⟩
    · subst h1 h2
      rcases t with _ | ⟨x, t⟩
      · exact ⟨[], a ++ [], [], w, by simp, hu, .nil, rfl, by simpa using ha, by simpa using hb⟩
      · obtain ⟨p, v, w1, w2, h3, h4, h5, h6, h7, h8⟩ := ih (x :: t) w (by simp) rfl
        exact ⟨a ++ p, v, w1, w2, by rw [h3, List.append_assoc], h4, .cons a p ha h5, h6, h7, h8⟩
    · subst h1 h2
      exact ⟨[], u, t, b, rfl, hu, .nil, rfl, ha, hb⟩
theorem Wid.star {A : Lg} {m : Nat} (ha : Wid A m) : Wid (star A) m := by
  obtain ⟨la, a1, a2⟩ := ha
  refine ⟨la.map (fun C => Lg.cat C (Lg.star A)), by rw [List.length_map]; exact a1, fun u hu => ?_⟩
  refine ⟨fun E => ∃ p v C, u = p ++ v ∧ v ≠ [] ∧ Lg.star A p ∧ C ∈ la ∧ (∀ w, C w → A (v ++ w)) ∧ E = Lg.cat C (Lg.star A), fun w => ?_⟩
  constructor
  · intro h
    obtain ⟨p, v, w1, w2, rfl, hv, hp, rfl, h1, h2⟩ := star_split h u w hu rfl
    obtain ⟨S, hS⟩ := a2 v hv
    obtain ⟨C, c1, c2, c3⟩ := (hS w1).1 h1
    exact ⟨_, List.mem_map_of_mem c1, ⟨p, v, C, rfl, hv, hp, c1, fun w hw => (hS w).2 ⟨C, c1, c2, hw⟩, rfl⟩, w1, w2, rfl, c3, h2⟩
  · rintro ⟨E, _, ⟨p, v, C, rfl, hv, hp, c1, c2, rfl⟩, w1, w2, rfl, h1, h2⟩
    rw [List.append_assoc]
    refine star_append hp ?_
    rw [← List.append_assoc]
    exact .cons _ _ (c2 w1 h1) h2
theorem Wid.same {A B : Lg} {m : Nat} (ha : Wid A m) (h : ∀ w, w ≠ [] → (B w ↔ A w)) : Wid B m := by
  obtain ⟨la, a1, a2⟩ := ha
  refine ⟨la, a1, fun u hu => ?_⟩
  obtain ⟨S, hS⟩ := a2 u hu
  exact ⟨S, fun w => (h (u ++ w) (fun e => hu (List.append_eq_nil_iff.1 e).1)).trans (hS w)⟩
theorem Wid.sfl {A : Lg} {m : Nat} (ha : Wid A m) (k : Nat) : Wid (sfl A k) m := by
  unfold Lg.sfl
  split
  · exact ha.star
  · split
    · refine ha.star.same fun w hw => ?_
      have e : Lg.star A w ↔ Lg.alt eps (Lg.cat A (Lg.star A)) w := by rw [← star_unfold A]
      rw [e]
      exact ⟨.inr, fun h => h.resolve_left hw⟩
    · exact ha.same fun w hw => ⟨fun h => h.resolve_left hw, .inr⟩
theorem Wid.foldl : ∀ (sf : List Nat) {A : Lg} {m : Nat}, Wid A m → Wid (sf.foldl Lg.sfl A) m
  | [], _, _, h => h
  | k :: sf, _, _, h => Wid.foldl sf (h.sfl k)
end Lg
namespace It
mutual
/-- how many letters -/
def nl : It → Nat
  | ch _ _ => 1
  | gr s a _ => snl s + anl a
def snl : List It → Nat
  | [] => 0
  | i :: s => nl i + snl s
def anl : List (List It) → Nat
  | [] => 0
  | s :: a => snl s + anl a
end
theorem snl_append (s t : List It) : snl (s ++ t) = snl s + snl t := by
  induction s with
  | nil => simp [snl]
  | cons d l ih => rw [List.cons_append, snl, snl, ih]; omega
theorem slg_wid' (s : List It) (h : ∀ i ∈ s, Lg.Wid (lg i) (nl i)) : Lg.Wid (slg s) (snl s) := by
  induction s with
  | nil => exact Lg.wid_eps
  | cons i s ih => rw [slg, snl]; exact (h i List.mem_cons_self).cat (ih fun j hj => h j (List.mem_cons_of_mem _ hj))
theorem alg_wid' (a : List (List It)) (h : ∀ t ∈ a, Lg.Wid (slg t) (snl t)) : Lg.Wid (alg a) (anl a) := by
  induction a with
  | nil => exact Lg.wid_none
  | cons t a ih => rw [alg, anl]; exact (h t List.mem_cons_self).alt (ih fun j hj => h j (List.mem_cons_of_mem _ hj))
theorem lg_wid : ∀ i : It, Lg.Wid (lg i) (nl i) := by
  refine rec' ?_ ?_
  · intro n sf
    rw [lg, nl]; exact (Lg.wid_one _).foldl sf
  · intro s a sf h1 h2
    rw [lg, nl]
    exact ((slg_wid' s h1).alt (alg_wid' a fun t ht => slg_wid' t (h2 t ht))).foldl sf
theorem slg_wid (s : List It) : Lg.Wid (slg s) (snl s) := slg_wid' s fun i _ => lg_wid i
end It
/-- what is parted into fewer places has two in one place -/
theorem pigeon : ∀ (N n : Nat) (f : Nat → Nat), (∀ i, i < n → f i < N) → (∀ i j, i < n → j < n → f i = f j → i = j) → n ≤ N
  | 0, n, f, h1, _ => by
    rcases Nat.eq_zero_or_pos n with h | h
    · omega
    · exact absurd (h1 0 h) (Nat.not_lt_zero _)
  | N + 1, n, f, h1, h2 => by
    by_cases h : ∃ i, i < n ∧ f i = N
    · obtain ⟨i0, h3, h4⟩ := h
      have := pigeon N (n - 1) (fun i => f (if i < i0 then i else i + 1)) (fun i hi => by
        have h5 := h1 (if i < i0 then i else i + 1) (by split <;> omega)
        have h6 : f (if i < i0 then i else i + 1) ≠ N := fun e => by
          have := h2 _ i0 (by split <;> omega) h3 (e.trans h4.symm)
          split at this <;> omega
        show f (if i < i0 then i else i + 1) < N
        omega) (fun i j hi hj e => by
          have := h2 _ _ (by split <;> omega) (by split <;> omega) e
          split at this <;> split at this <;> omega)
      omega
    · have := pigeon N n f (fun i hi => by have := h1 i hi; have : f i ≠ N := fun e => h ⟨i, hi, e⟩; omega) h2
      omega
/-- a row of bools as_ a number -/
def bval : List Bool → Nat
  | [] => 0
  | b :: l => (if b then 1 else 0) + 2 * bval l
theorem bval_lt : ∀ l : List Bool, bval l < 2 ^ l.length
  | [] => by simp [bval]
  | b :: l => by
    have := bval_lt l
    rw [bval, List.length_cons, Nat.pow_succ]; split <;> omega
theorem bval_inj : ∀ l m : List Bool, l.length = m.length → bval l = bval m → l = m
  | [], [], _, _ => rfl
  | a :: l, b :: m, h, e => by
    simp only [List.length_cons, bval] at h e
    have hab : a = b := by cases a <;> cases b <;> simp at e ⊢ <;> omega
    subst hab
    rw [bval_inj l m (by omega) (by omega)]
  | [], b :: m, h, _ => by simp at h
  | a :: l, [], h, _ => by simp at h
namespace Au
/-- each state is behind a word -/
theorem Canon.word {a : Au} (h : a.Canon) : ∀ k : Nat, k < a.next.length → ∃ u, (0 < k → u ≠ []) ∧ ∀ w, a.acc 0 (u ++ w) ↔ a.acc (k : Int) w := by
  intro k
  induction k using Nat.strongRecOn with
  | _ k ih =>
    intro hk
    rcases Nat.eq_zero_or_pos k with rfl | h0
    · exact ⟨[], fun h => absurd h (Nat.lt_irrefl _), fun w => Iff.rfl⟩
    · obtain ⟨i, c, hi, hc, he, _⟩ := h.first k h0 hk
      obtain ⟨u, _, hu⟩ := ih i hi (by omega)
      refine ⟨u ++ [(c : Int)], fun _ => by simp, fun w => ?_⟩
      rw [List.append_assoc, hu, List.singleton_append, acc_cons (by omega) (by omega) (by omega), he]
theorem Canon.size {a : Au} (h : a.Canon) {m : Nat} (hw : Lg.Wid (a.acc 0) m) : a.next.length ≤ 2 ^ m := by
  classical
  obtain ⟨l, hl, hS⟩ := hw
  have key : ∀ k : Nat, k < a.next.length → ∃ S : Lg → Prop, (0 < k → ∀ w, a.acc (k : Int) w ↔ ∃ B, B ∈ l ∧ S B ∧ B w) ∧ (k = 0 → ∀ B, ¬ S B) := by
    intro k hk
    obtain ⟨u, hu, hw⟩ := h.word k hk
    rcases Nat.eq_zero_or_pos k with h0 | h0
    · exact ⟨fun _ => False, fun h => by omega, fun _ B h => h⟩
    · obtain ⟨S, hS⟩ := hS u (hu h0)
      exact ⟨S, fun _ w => (hw w).symm.trans (hS w), fun h => by omega⟩
  let F : Nat → Lg → Prop := fun k => if hk : k < a.next.length then Classical.choose (key k hk) else fun _ => False
  have hF : ∀ k, k < a.next.length → (0 < k → ∀ w, a.acc (k : Int) w ↔ ∃ B, B ∈ l ∧ F k B ∧ B w) ∧ (k = 0 → ∀ B, ¬ F k B) := by
    intro k hk
    have := Classical.choose_spec (key k hk)
    simp only [F, dif_pos hk]
    exact this
  let f : Nat → Nat := fun k => bval (l.map fun B => decide (F k B))
  refine Nat.le_trans (pigeon (2 ^ l.length) a.next.length f (fun i hi => ?_) (fun i j hi hj e => ?_)) (Nat.pow_le_pow_right (by decide) hl)
  · have := bval_lt (l.map fun B => decide (F i B))
    rwa [List.length_map] at this
  · have e := bval_inj _ _ (by rw [List.length_map, List.length_map]) e
    have e2 : ∀ B ∈ l, (F i B ↔ F j B) := fun B hB => by
      have := List.map_inj_left.1 e B hB
      simpa using this
    obtain ⟨i1, i2⟩ := hF i hi
    obtain ⟨j1, j2⟩ := hF j hj
    have emp : ∀ i j : Nat, i < a.next.length → i = 0 → 0 < j → j < a.next.length → (∀ B ∈ l, (F i B ↔ F j B)) → False := fun i j hi h0 hj0 hj e2 => by
      obtain ⟨w, hw⟩ := h.live j hj
      obtain ⟨B, hB, hs, _⟩ := ((hF j hj).1 hj0 w).1 hw
      exact (hF i hi).2 h0 B ((e2 B hB).2 hs)
    rcases Nat.eq_zero_or_pos i with hi0 | hi0
    · rcases Nat.eq_zero_or_pos j with hj0 | hj0
      · omega
      · exact (emp i j hi hi0 hj0 hj e2).elim
    · rcases Nat.eq_zero_or_pos j with hj0 | hj0
      · exact (emp j i hj hj0 hi0 hi fun B hB => (e2 B hB).symm).elim
      · refine h.apart i j hi hj fun w => ?_
        rw [i1 hi0 w, j1 hj0 w]
        exact ⟨fun ⟨B, hB, hs, hw⟩ => ⟨B, hB, (e2 B hB).1 hs, hw⟩, fun ⟨B, hB, hs, hw⟩ => ⟨B, hB, (e2 B hB).2 hs, hw⟩⟩
theorem Ord.size {a : Au} (h : a.Ord) {m : Nat} (hw : Lg.Wid (a.acc 0) m) : a.next.length ≤ 2 ^ m := by
  rcases h with h | rfl
  · exact h.size hw
  · exact Nat.one_le_two_pow
end Au
end Go.Vl
end

section
set_option linter.unusedVariables false
set_option linter.unusedSimpArgs false
namespace Go.Vl
namespace Au
def lives (w : Au) (i : Nat) : Prop := ∃ u, w.acc (i : Int) u
/-- the class that a letter leads to -/
def cto (w : Au) (out : Nat → Int) (i c : Nat) : Int := if 0 ≤ w.to (i : Int) (c : Int) then out (w.to (i : Int) (c : Int)).toNat else -1
/-- classes that are yet to be divided: so many -/
structure Moore (w : Au) (out : Nat → Int) (many : Nat) : Prop where
  neg : ∀ i, i < w.next.length → (out i < 0 ↔ ¬ w.lives i)
  same : ∀ i j, i < w.next.length → j < w.next.length → w.lives i → (∀ u, w.acc (i : Int) u ↔ w.acc (j : Int) u) → out i = out j
  fin : ∀ i j, i < w.next.length → j < w.next.length → 0 ≤ out i → out i = out j → w.final.getD i false = w.final.getD j false
  cnt : many ≠ 0 → (∀ i, i < w.next.length → out i < (many : Int)) ∧ ∀ v : Nat, v < many → ∃ i, i < w.next.length ∧ out i = (v : Int)
/-- they are divided once more, into m -/
structure Div (w : Au) (out next : Nat → Int) (m : Nat) : Prop where
  neg : ∀ i, i < w.next.length → (next i < 0 ↔ out i < 0)
  eq : ∀ i j, i < w.next.length → j < w.next.length → 0 ≤ out i → 0 ≤ out j → (next i = next j ↔ (out i = out j ∧ ∀ c : Nat, c < 8 → w.cto out i c = w.cto out j c))
  lt : ∀ i, i < w.next.length → next i < (m : Int)
  hit : ∀ v : Nat, v < m → ∃ i, i < w.next.length ∧ next i = (v : Int)
theorem to_state {w : Au} (hs : w.Shape) {i c : Nat} (hi : i < w.next.length) (hc : c < 8) : w.to (i : Int) (c : Int) < 0 ∨ ∃ j : Nat, j < w.next.length ∧ w.to (i : Int) (c : Int) = (j : Int) := by
  have := to_range hs (i := (i : Int)) (c := (c : Int)) (by omega) (by omega) (by omega) (by omega)
  rcases Int.lt_or_le (w.to (i : Int) (c : Int)) 0 with h | h
  · exact .inl h
  · exact .inr ⟨(w.to (i : Int) (c : Int)).toNat, by omega, by omega⟩
theorem cto_neg {w : Au} {out : Nat → Int} {i c : Nat} (h : w.to (i : Int) (c : Int) < 0) : w.cto out i c = -1 := by
  unfold cto; rw [if_neg (by omega)]
theorem cto_nat {w : Au} {out : Nat → Int} {i c j : Nat} (h : w.to (i : Int) (c : Int) = (j : Int)) : w.cto out i c = out j := by
  unfold cto; rw [h, if_pos (by omega)]; rfl
theorem acc_step {w : Au} (i : Nat) (c : Nat) (hc : c < 8) (u : List Int) : w.acc (i : Int) ((c : Int) :: u) ↔ w.acc (w.to (i : Int) (c : Int)) u := acc_cons (by omega) (by omega) (by omega)
section div
variable {w : Au} {out next : Nat → Int} {many m : Nat}
/-- what means the same leads to the same class -/
theorem Moore.step (hs : w.Shape) (h : w.Moore out many) {i j : Nat} (hi : i < w.next.length) (hj : j < w.next.length) (hl : ∀ u, w.acc (i : Int) u ↔ w.acc (j : Int) u) {c : Nat} (hc : c < 8) (hneg1 : ∀ k, k < w.next.length → out k < 0 → out k = -1) : w.cto out i c = w.cto out j c := by
  have hl2 : ∀ u, w.acc (w.to (i : Int) (c : Int)) u ↔ w.acc (w.to (j : Int) (c : Int)) u := fun u => by
    rw [← acc_step i c hc, ← acc_step j c hc]; exact hl _
  rcases to_state hs hi hc with h1 | ⟨a, ha, h1⟩ <;> rcases to_state hs hj hc with h2 | ⟨b, hb, h2⟩
  · rw [cto_neg h1, cto_neg h2]
  · rw [cto_neg h1, cto_nat h2]
    rw [h2] at hl2
    have : out b < 0 := (h.neg b hb).2 fun ⟨u, hu⟩ => acc_neg h1 u ((hl2 u).2 hu)
    rw [hneg1 b hb this]
  · rw [cto_nat h1, cto_neg h2]
    rw [h1] at hl2
    have : out a < 0 := (h.neg a ha).2 fun ⟨u, hu⟩ => acc_neg h2 u ((hl2 u).1 hu)
    rw [hneg1 a ha this]
  · rw [cto_nat h1, cto_nat h2]
    rw [h1, h2] at hl2
    by_cases hlv : w.lives a
    · exact h.same a b ha hb hlv hl2
    · have h3 := (h.neg a ha).2 hlv
      have h4 : out b < 0 := (h.neg b hb).2 fun ⟨u, hu⟩ => hlv ⟨u, (hl2 u).2 hu⟩
      rw [hneg1 a ha h3, hneg1 b hb h4]
theorem Moore.div (hs : w.Shape) (h : w.Moore out many) (hn : ∀ k, k < w.next.length → out k < 0 → out k = -1) (hd : w.Div out next m) : w.Moore next m := by
  refine ⟨fun i hi => (hd.neg i hi).trans (h.neg i hi), fun i j hi hj hl he => ?_, fun i j hi hj h0 he => ?_, fun _ => ⟨hd.lt, hd.hit⟩⟩
  · have hi0 : 0 ≤ out i := Int.not_lt.1 fun h' => ((h.neg i hi).1 h') hl
    have hlj : w.lives j := by obtain ⟨u, hu⟩ := hl; exact ⟨u, (he u).1 hu⟩
    have hj0 : 0 ≤ out j := Int.not_lt.1 fun h' => ((h.neg j hj).1 h') hlj
    exact (hd.eq i j hi hj hi0 hj0).2 ⟨h.same i j hi hj hl he, fun c hc => h.step hs hi hj he hc hn⟩
  · have hi0 : 0 ≤ out i := Int.not_lt.1 fun h' => by have := (hd.neg i hi).2 h'; omega
    have hj0 : 0 ≤ out j := Int.not_lt.1 fun h' => by have := (hd.neg j hj).2 h'; omega
    exact h.fin i j hi hj hi0 ((hd.eq i j hi hj hi0 hj0).1 he).1
/-- not fewer than there were -/
theorem Moore.grows (h : w.Moore out many) (hd : w.Div out next m) : many ≤ m := by
  classical
  rcases Nat.eq_zero_or_pos many with h0 | h0
  · omega
  · obtain ⟨_, hh⟩ := h.cnt (by omega)
    let g : Nat → Nat := fun v => if hv : v < many then (next (Classical.choose (hh v hv))).toNat else 0
    refine pigeon m many g (fun v hv => ?_) (fun v u hv hu e => ?_)
    · simp only [g, dif_pos hv]
      obtain ⟨h1, h2⟩ := Classical.choose_spec (hh v hv)
      have h3 := hd.lt _ h1
      have h4 : ¬ next (Classical.choose (hh v hv)) < 0 := fun h' => by have := (hd.neg _ h1).1 h'; omega
      omega
    · simp only [g, dif_pos hv, dif_pos hu] at e
      obtain ⟨h1, h2⟩ := Classical.choose_spec (hh v hv)
      obtain ⟨h3, h4⟩ := Classical.choose_spec (hh u hu)
      have h5 : ¬ next (Classical.choose (hh v hv)) < 0 := fun h' => by have := (hd.neg _ h1).1 h'; omega
      have h6 : ¬ next (Classical.choose (hh u hu)) < 0 := fun h' => by have := (hd.neg _ h3).1 h'; omega
      have := ((hd.eq _ _ h1 h3 (by omega) (by omega)).1 (by omega)).1
      omega
/-- not more than there are states -/
theorem Div.most (hd : w.Div out next m) : m ≤ w.next.length := by
  classical
  let g : Nat → Nat := fun v => if hv : v < m then Classical.choose (hd.hit v hv) else 0
  refine pigeon w.next.length m g (fun v hv => ?_) (fun v u hv hu e => ?_)
  · simp only [g, dif_pos hv]; exact (Classical.choose_spec (hd.hit v hv)).1
  · simp only [g, dif_pos hv, dif_pos hu] at e
    have h1 := (Classical.choose_spec (hd.hit v hv)).2
    have h2 := (Classical.choose_spec (hd.hit u hu)).2
    rw [e] at h1
    omega
/-- as_ many as_ before: the same ones -/
theorem Moore.still (h : w.Moore out many) (hd : w.Div out next many) {i j : Nat} (hi : i < w.next.length) (hj : j < w.next.length) (hi0 : 0 ≤ out i) (he : out i = out j) : next i = next j := by
  classical
  by_cases hne : next i = next j
  · exact hne
  exfalso
  have hj0 : 0 ≤ out j := by omega
  have ni : 0 ≤ next i := Int.not_lt.1 fun h' => by have := (hd.neg i hi).1 h'; omega
  have nj : 0 ≤ next j := Int.not_lt.1 fun h' => by have := (hd.neg j hj).1 h'; omega
  have hm : many ≠ 0 := fun h0 => by have := hd.lt i hi; omega
  obtain ⟨hlt, hh⟩ := h.cnt hm
  -- a state of each class; that of i's class is i
  let rep : Nat → Nat := fun v => if (v : Int) = out i then i else if hv : v < many then Classical.choose (hh v hv) else 0
  have hrep : ∀ v, v < many → rep v < w.next.length ∧ out (rep v) = (v : Int) := fun v hv => by
    by_cases e : (v : Int) = out i
    · have : rep v = i := if_pos e
      rw [this]; exact ⟨hi, e.symm⟩
    · have : rep v = Classical.choose (hh v hv) := by simp only [rep]; rw [if_neg e, dif_pos hv]
      rw [this]; exact Classical.choose_spec (hh v hv)
  have hnot : ∀ v, v < many → next (rep v) ≠ next j := fun v hv e => by
    obtain ⟨h1, h2⟩ := hrep v hv
    have h3 : out (rep v) = out j := ((hd.eq _ _ h1 hj (by omega) hj0).1 e).1
    have h4 : rep v = i := by simp only [rep]; rw [if_pos (by omega)]
    rw [h4] at e
    exact hne e
  have hpos : ∀ v, v < many → 0 ≤ next (rep v) := fun v hv => by
    obtain ⟨h1, h2⟩ := hrep v hv
    exact Int.not_lt.1 fun h' => by have := (hd.neg _ h1).1 h'; omega
  have := pigeon (many - 1) many (fun v => if next (rep v) < next j then (next (rep v)).toNat else (next (rep v)).toNat - 1) (fun v hv => by
      have h1 := hnot v hv; have h2 := hpos v hv; have h3 := hd.lt _ (hrep v hv).1; have h4 := hd.lt j hj
      show (if next (rep v) < next j then (next (rep v)).toNat else (next (rep v)).toNat - 1) < many - 1
      split <;> omega) (fun v u hv hu e => by
      have h1 := hnot v hv; have h2 := hpos v hv
      have g1 := hnot u hu; have g2 := hpos u hu
      have e : next (rep v) = next (rep u) := by
        have e : (if next (rep v) < next j then (next (rep v)).toNat else (next (rep v)).toNat - 1) = (if next (rep u) < next j then (next (rep u)).toNat else (next (rep u)).toNat - 1) := e
        split at e <;> split at e <;> omega
      obtain ⟨a1, a2⟩ := hrep v hv
      obtain ⟨b1, b2⟩ := hrep u hu
      have := ((hd.eq _ _ a1 b1 (by omega) (by omega)).1 e).1
      omega)
  omega
/-- as_ many as_ before: those of one class mean the same -/
theorem Moore.done (hs : w.Shape) (h : w.Moore out many) (hd : w.Div out next many) (hn : ∀ k, k < w.next.length → out k < 0 → out k = -1) :
    ∀ (u : List Int) (i j : Nat), i < w.next.length → j < w.next.length → 0 ≤ next i → next i = next j → (w.acc (i : Int) u ↔ w.acc (j : Int) u) := by
  intro u
  induction u with
  | nil =>
    intro i j hi hj h0 he
    have hi0 : 0 ≤ out i := Int.not_lt.1 fun h' => by have := (hd.neg i hi).2 h'; omega
    have hj0 : 0 ≤ out j := Int.not_lt.1 fun h' => by have := (hd.neg j hj).2 h'; omega
    have := h.fin i j hi hj hi0 ((hd.eq i j hi hj hi0 hj0).1 he).1
    simp only [acc, Int.toNat_natCast, this]
    exact ⟨fun h => ⟨by omega, h.2⟩, fun h => ⟨by omega, h.2⟩⟩
  | cons c u ih =>
    intro i j hi hj h0 he
    have hi0 : 0 ≤ out i := Int.not_lt.1 fun h' => by have := (hd.neg i hi).2 h'; omega
    have hj0 : 0 ≤ out j := Int.not_lt.1 fun h' => by have := (hd.neg j hj).2 h'; omega
    by_cases hc : 0 ≤ c ∧ c < 8
    · obtain ⟨c, rfl⟩ : ∃ k : Nat, c = (k : Int) := ⟨c.toNat, by omega⟩
      rw [acc_step i c (by omega), acc_step j c (by omega)]
      have hct := ((hd.eq i j hi hj hi0 hj0).1 he).2 c (by omega)
      rcases to_state hs hi (c := c) (by omega) with h1 | ⟨a, ha, h1⟩ <;> rcases to_state hs hj (c := c) (by omega) with h2 | ⟨b, hb, h2⟩
      · exact ⟨fun h => absurd h (acc_neg h1 _), fun h => absurd h (acc_neg h2 _)⟩
      · rw [cto_neg h1, cto_nat h2] at hct
        have hnl := (h.neg b hb).1 (by omega)
        rw [h2]
        exact ⟨fun h => absurd h (acc_neg h1 _), fun h => absurd ⟨u, h⟩ hnl⟩
      · rw [cto_nat h1, cto_neg h2] at hct
        have hnl := (h.neg a ha).1 (by omega)
        rw [h1]
        exact ⟨fun h => absurd ⟨u, h⟩ hnl, fun h => absurd h (acc_neg h2 _)⟩
      · rw [cto_nat h1, cto_nat h2] at hct
        rw [h1, h2]
        rcases Int.lt_or_le (out a) 0 with h3 | h3
        · have n1 := (h.neg a ha).1 h3
          have n2 := (h.neg b hb).1 (by omega)
          exact ⟨fun h => absurd ⟨u, h⟩ n1, fun h => absurd ⟨u, h⟩ n2⟩
        · have h4 := h.still hd ha hb h3 hct
          refine ih a b ha hb (Int.not_lt.1 fun h' => by have := (hd.neg a ha).1 h'; omega) h4
    · simp only [acc]
      exact ⟨fun h => absurd ⟨h.2.1, h.2.2.1⟩ hc, fun h => absurd ⟨h.2.1, h.2.2.1⟩ hc⟩
end div
/-- CLASSES OF STATES: those of one class mean the same; -1: they lead nowhere. -/
structure Cls (w : Au) (cl : Nat → Int) : Prop where
  neg : ∀ i, i < w.next.length → (cl i < 0 ↔ ¬ w.lives i)
  eq : ∀ i j, i < w.next.length → j < w.next.length → 0 ≤ cl i → (cl i = cl j ↔ ∀ u, w.acc (i : Int) u ↔ w.acc (j : Int) u)
theorem Moore.cls {w : Au} {out next : Nat → Int} {many : Nat} (hs : w.Shape) (h : w.Moore out many) (hn : ∀ k, k < w.next.length → out k < 0 → out k = -1) (hd : w.Div out next many) : w.Cls next := by
  have h2 := h.div hs hn hd
  refine ⟨h2.neg, fun i j hi hj h0 => ⟨fun he u => h.done hs hd hn u i j hi hj h0 he, fun he => h2.same i j hi hj ?_ he⟩⟩
  exact Classical.byContradiction fun h' => by have := (h2.neg i hi).2 h'; omega

/-! ### a machine in order -/
/-- states (of the wide machine) that are met, and rows: all entries ahead of (i, c) -/
structure Bfs (w : Au) (cl : Nat → Int) (S : List Nat) (T : Nat → Nat → Int) (i c : Nat) : Prop where
  zero : S.getD 0 0 = 0 ∧ 0 < S.length
  lt : ∀ k, k < S.length → S.getD k 0 < w.next.length ∧ 0 ≤ cl (S.getD k 0)
  apart : ∀ j k, j < S.length → k < S.length → cl (S.getD j 0) = cl (S.getD k 0) → j = k
  ent : ∀ i' c', (i' < i ∨ i' = i ∧ c' < c) → c' < 8 → i' < S.length → (T i' c' = -1 ∧ w.cto cl (S.getD i' 0) c' < 0) ∨ ∃ k : Nat, k < S.length ∧ T i' c' = (k : Int) ∧ cl (S.getD k 0) = w.cto cl (S.getD i' 0) c'
  first : ∀ k, 0 < k → k < S.length → ∃ i' c', (i' < i ∨ i' = i ∧ c' < c) ∧ i' < k ∧ c' < 8 ∧ T i' c' = (k : Int) ∧ ∀ i2 c2, (i2 < i' ∨ i2 = i' ∧ c2 < c') → c2 < 8 → T i2 c2 < (k : Int)
theorem Bfs.congr {w : Au} {cl : Nat → Int} {S : List Nat} {T T' : Nat → Nat → Int} {i c : Nat} (h : Bfs w cl S T i c) (hT : ∀ i' c', (i' < i ∨ i' = i ∧ c' < c) → c' < 8 → T' i' c' = T i' c') : Bfs w cl S T' i c := by
  refine ⟨h.zero, h.lt, h.apart, fun i' c' hp hc hi => ?_, fun k h0 hk => ?_⟩
  · rw [hT i' c' hp hc]; exact h.ent i' c' hp hc hi
  · obtain ⟨i', c', hp, h1, h2, h3, h4⟩ := h.first k h0 hk
    refine ⟨i', c', hp, h1, h2, by rw [hT i' c' hp h2]; exact h3, fun i2 c2 hp2 hc2 => ?_⟩
    rw [hT i2 c2 (by omega) hc2]; exact h4 i2 c2 hp2 hc2
theorem Bfs.start {w : Au} {cl : Nat → Int} (T : Nat → Nat → Int) (hs : w.Shape) (h : 0 ≤ cl 0) : Bfs w cl [0] T 0 0 := by
  refine ⟨⟨rfl, by simp⟩, fun k hk => ?_, fun j k hj hk _ => ?_, fun i' c' hp _ _ => by omega, fun k h0 hk => ?_⟩
  · obtain rfl : k = 0 := by simpa using hk
    exact ⟨hs.pos, h⟩
  · simp only [List.length_singleton] at hj hk; omega
  · simp only [List.length_singleton] at hk; omega
/-- a row is done -/
theorem Bfs.row {w : Au} {cl : Nat → Int} {S : List Nat} {T : Nat → Nat → Int} {i : Nat} (h : Bfs w cl S T i 8) : Bfs w cl S T (i + 1) 0 := by
  refine ⟨h.zero, h.lt, h.apart, fun i' c' hp hc hi => h.ent i' c' (by omega) hc hi, fun k h0 hk => ?_⟩
  obtain ⟨i', c', hp, h1, h2, h3, h4⟩ := h.first k h0 hk
  exact ⟨i', c', by omega, h1, h2, h3, h4⟩
section bfs
variable {w : Au} {cl : Nat → Int} {S : List Nat} {T : Nat → Nat → Int} {i c : Nat}
/-- a letter that leads nowhere -/
theorem Bfs.none (h : Bfs w cl S T i c) (hT : T i c = -1) (hn : w.cto cl (S.getD i 0) c < 0) : Bfs w cl S T i (c + 1) := by
  refine ⟨h.zero, h.lt, h.apart, fun i' c' hp hc hi => ?_, fun k h0 hk => ?_⟩
  · by_cases hh : i' < i ∨ i' = i ∧ c' < c
    · exact h.ent i' c' hh hc hi
    · obtain ⟨rfl, rfl⟩ : i' = i ∧ c' = c := by omega
      exact .inl ⟨hT, hn⟩
  · obtain ⟨i', c', hp, h1, h2, h3, h4⟩ := h.first k h0 hk
    exact ⟨i', c', by omega, h1, h2, h3, h4⟩
/-- to a state that was met -/
theorem Bfs.old (h : Bfs w cl S T i c) {k : Nat} (hT : T i c = (k : Int)) (hk : k < S.length) (he : cl (S.getD k 0) = w.cto cl (S.getD i 0) c) : Bfs w cl S T i (c + 1) := by
  refine ⟨h.zero, h.lt, h.apart, fun i' c' hp hc hi => ?_, fun k h0 hk => ?_⟩
  · by_cases hh : i' < i ∨ i' = i ∧ c' < c
    · exact h.ent i' c' hh hc hi
    · obtain ⟨rfl, rfl⟩ : i' = i ∧ c' = c := by omega
      exact .inr ⟨k, hk, hT, he⟩
  · obtain ⟨i', c', hp, h1, h2, h3, h4⟩ := h.first k h0 hk
    exact ⟨i', c', by omega, h1, h2, h3, h4⟩
theorem getD_snoc_lt {α : Type} (z : α) (l : List α) (x : α) (k : Nat) (h : k < l.length) : (l ++ [x]).getD k z = l.getD k z := by
  rw [List.getD_eq_getElem?_getD, List.getD_eq_getElem?_getD, List.getElem?_append_left h]
theorem getD_snoc_eq {α : Type} (z : α) (l : List α) (x : α) : (l ++ [x]).getD l.length z = x := by
  rw [List.getD_eq_getElem?_getD, List.getElem?_append_right (Nat.le_refl _)]; simp
/-- to a new one -/
theorem Bfs.new (h : Bfs w cl S T i c) {t : Nat} (hT : T i c = (S.length : Int)) (hi : i < S.length) (hc : c < 8) (ht : t < w.next.length) (hto : w.to ((S.getD i 0 : Nat) : Int) (c : Int) = (t : Int)) (h0 : 0 ≤ cl t) (hnew : ∀ k, k < S.length → cl (S.getD k 0) ≠ cl t) :
    Bfs w cl (S ++ [t]) T i (c + 1) := by
  have hl : (S ++ [t]).length = S.length + 1 := by simp
  refine ⟨⟨by rw [getD_snoc_lt 0 S t 0 h.zero.2]; exact h.zero.1, by omega⟩, fun k hk => ?_, fun j k hj hk e => ?_, fun i' c' hp hc' hi' => ?_, fun k hk0 hk => ?_⟩
  · rcases Nat.lt_or_ge k S.length with h1 | h1
    · rw [getD_snoc_lt 0 S t k h1]; exact h.lt k h1
    · obtain rfl : k = S.length := by omega
      rw [getD_snoc_eq]; exact ⟨ht, h0⟩
  · rcases Nat.lt_or_ge k S.length with h1 | h1 <;> rcases Nat.lt_or_ge j S.length with h2 | h2
    · rw [getD_snoc_lt 0 S t k h1, getD_snoc_lt 0 S t j h2] at e; exact h.apart j k h2 h1 e
    · obtain rfl : j = S.length := by omega
      rw [getD_snoc_lt 0 S t k h1, getD_snoc_eq] at e; exact absurd e.symm (hnew k h1)
    · obtain rfl : k = S.length := by omega
      rw [getD_snoc_lt 0 S t j h2, getD_snoc_eq] at e; exact absurd e (hnew j h2)
    · omega
  · by_cases hh : i' < i ∨ i' = i ∧ c' < c
    · have hi2 : i' < S.length := by omega
      rw [getD_snoc_lt 0 S t i' hi2]
      rcases h.ent i' c' hh hc' hi2 with h1 | ⟨k, h1, h2, h3⟩
      · exact .inl h1
      · exact .inr ⟨k, by omega, h2, by rw [getD_snoc_lt 0 S t k h1]; exact h3⟩
    · obtain ⟨rfl, rfl⟩ : i' = i ∧ c' = c := by omega
      refine .inr ⟨S.length, by omega, hT, ?_⟩
      rw [getD_snoc_eq, getD_snoc_lt 0 S t i' hi, cto_nat hto]
  · rcases Nat.lt_or_ge k S.length with h1 | h1
    · obtain ⟨i', c', hp, h2, h3, h4, h5⟩ := h.first k hk0 h1
      exact ⟨i', c', by omega, h2, h3, h4, h5⟩
    · obtain rfl : k = S.length := by omega
      refine ⟨i, c, by omega, hi, hc, hT, fun i2 c2 hp2 hc2 => ?_⟩
      rcases h.ent i2 c2 (by omega) hc2 (by omega) with ⟨h2, _⟩ | ⟨k, h2, h3, _⟩ <;> omega
/-- A MACHINE IN ORDER that means what the wide one means. -/
theorem Bfs.canon {a : Au} (hs : w.Shape) (hc : w.Cls cl) (h : Bfs w cl S T S.length 0) (hn : a.next.length = S.length) (hf : a.final = S.map fun k => w.final.getD k false)
    (hrow : ∀ k, k < S.length → (a.next.getD k []).length = 8) (ha : ∀ k c : Nat, k < S.length → c < 8 → a.to (k : Int) (c : Int) = T k c) : a.Canon ∧ ∀ u, a.acc 0 u ↔ w.acc 0 u := by
  have hfin : ∀ k, k < S.length → a.final.getD k false = w.final.getD (S.getD k 0) false := fun k hk => by
    rw [hf, List.getD_eq_getElem?_getD, List.getElem?_map, List.getD_eq_getElem?_getD (l := S), List.getElem?_eq_getElem hk]; rfl
  have hent : ∀ k c, k < S.length → c < 8 → (T k c = -1 ∧ w.cto cl (S.getD k 0) c < 0) ∨ ∃ j : Nat, j < S.length ∧ T k c = (j : Int) ∧ cl (S.getD j 0) = w.cto cl (S.getD k 0) c := fun k c hk hc => h.ent k c (.inl hk) hc hk
  have hacc : ∀ (u : List Int) (k : Nat), k < S.length → (a.acc (k : Int) u ↔ w.acc ((S.getD k 0 : Nat) : Int) u) := by
    intro u
    induction u with
    | nil =>
      intro k hk
      simp only [acc, Int.toNat_natCast, hfin k hk]
      exact ⟨fun h => ⟨by omega, h.2⟩, fun h => ⟨by omega, h.2⟩⟩
    | cons c u ih =>
      intro k hk
      by_cases hcc : 0 ≤ c ∧ c < 8
      · obtain ⟨c, rfl⟩ : ∃ k : Nat, c = (k : Int) := ⟨c.toNat, by omega⟩
        rw [acc_step k c (by omega), acc_step _ c (by omega), ha k c hk (by omega)]
        obtain ⟨hlt, hcl⟩ := h.lt k hk
        rcases hent k c hk (by omega) with ⟨h1, h2⟩ | ⟨j, h1, h2, h3⟩
        · rw [h1]
          refine ⟨fun h => absurd h (acc_neg (by decide) _), fun h => ?_⟩
          rcases to_state hs hlt (c := c) (by omega) with h4 | ⟨b, hb, h4⟩
          · exact absurd h (acc_neg h4 _)
          · rw [cto_nat h4] at h2
            rw [h4] at h
            exact absurd ⟨u, h⟩ ((hc.neg b hb).1 h2)
        · rw [h2, ih j h1]
          obtain ⟨jlt, jcl⟩ := h.lt j h1
          rcases to_state hs hlt (c := c) (by omega) with h4 | ⟨b, hb, h4⟩
          · rw [cto_neg h4] at h3; omega
          · rw [cto_nat h4] at h3
            rw [h4]
            exact (hc.eq _ b jlt hb jcl).1 h3 u
      · simp only [acc]
        exact ⟨fun h => absurd ⟨h.2.1, h.2.2.1⟩ hcc, fun h => absurd ⟨h.2.1, h.2.2.1⟩ hcc⟩
  have hz : ((S.getD 0 0 : Nat) : Int) = 0 := by rw [h.zero.1]; rfl
  refine ⟨⟨⟨by rw [hn]; exact h.zero.2, by rw [hf, List.length_map, hn], fun k hk => hrow k (by omega), fun k hk c hc8 => ?_⟩, fun k hk => ?_, fun j k hj hk he => ?_, fun k hk0 hk => ?_⟩, fun u => ?_⟩
  · have h1 := ha k c (by omega) hc8
    simp only [to, Int.toNat_natCast] at h1
    rw [h1, hn]
    rcases hent k c (by omega) hc8 with ⟨h2, _⟩ | ⟨j, h2, h3, _⟩ <;> omega
  · obtain ⟨hlt, hcl⟩ := h.lt k (by omega)
    have : w.lives (S.getD k 0) := Classical.byContradiction fun h' => by have := (hc.neg _ hlt).2 h'; omega
    obtain ⟨u, hu⟩ := this
    exact ⟨u, (hacc u k (by omega)).2 hu⟩
  · obtain ⟨jlt, jcl⟩ := h.lt j (by omega)
    obtain ⟨klt, kcl⟩ := h.lt k (by omega)
    exact h.apart j k (by omega) (by omega) ((hc.eq _ _ jlt klt jcl).2 fun u => (hacc u j (by omega)).symm.trans ((he u).trans (hacc u k (by omega))))
  · obtain ⟨i', c', hp, h1, h2, h3, h4⟩ := h.first k hk0 (by omega)
    refine ⟨i', c', h1, h2, by rw [ha i' c' (by omega) h2]; exact h3, fun i2 c2 hp2 hc2 => ?_⟩
    rw [ha i2 c2 (by omega) hc2]; exact h4 i2 c2 hp2 hc2
  · have := hacc u 0 h.zero.2
    rw [hz] at this
    exact this
end bfs
end Au
end Go.Vl
end
