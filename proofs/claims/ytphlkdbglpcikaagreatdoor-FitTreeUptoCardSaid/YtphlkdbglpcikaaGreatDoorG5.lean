/-
  Merged: Plc Add Sch SchK Fit Tr FitG SchF Base WSLib Rules Drawn Change CallM.
-/
import Derived.Test.YtphlkdbglpcikaaGreatDoorG4
import Derived.Test.YtphlkdbglpcikaaGreatDoorRows
set_option linter.unusedVariables false
set_option linter.unusedSimpArgs false
set_option maxRecDepth 100000

section
namespace Go.Vl
abbrev natv (n : Nat) : AV := .int (n : Int)
theorem okc_natv (l : List Nat) : ∀ e ∈ l.map natv, e.okc = true := by
 intro e he
 obtain ⟨k, _, rfl⟩ := List.mem_map.1 he
 rfl
theorem getD_set {α : Type} (l : List α) (r : Nat) (x z : α) (p : Nat) : (l.set r x).getD p z = if p = r ∧ r < l.length then x else l.getD p z := by
 rw [List.getD_eq_getElem?_getD, List.getElem?_set, List.getD_eq_getElem?_getD]
 by_cases h : r = p
 ·subst h
  by_cases h2 : r < l.length
  ·rw [if_pos rfl, if_pos h2, if_pos ⟨rfl, h2⟩]; rfl
  ·rw [if_pos rfl, if_neg h2, if_neg (fun h => h2 h.2), List.getElem?_eq_none (by omega)]
 ·rw [if_neg h, if_neg (fun h' => h h'.1.symm)]
theorem getD_over {α : Type} (l : List α) (z : α) {p : Nat} (h : l.length ≤ p) : l.getD p z = z := by
 rw [List.getD_eq_getElem?_getD, List.getElem?_eq_none h]; rfl
theorem getD_app {α : Type} (l m : List α) (z : α) {p : Nat} (h : p < l.length) : (l ++ m).getD p z = l.getD p z := by
 rw [List.getD_eq_getElem?_getD, List.getElem?_append_left h, List.getD_eq_getElem?_getD]
abbrev Fol := List (List Nat)
structure LnkP (F F' : Fol) (fr to : List Nat) (i j : Nat) : Prop where
 len : F'.length = F.length
 mem : ∀ p q, p < F.length → (q ∈ F'.getD p [] ↔ q ∈ F.getD p [] ∨ (p ∈ fr.take i ∧ q ∈ to) ∨ (i < fr.length ∧ p = fr.getD i 0 ∧ q ∈ to.take j))
 keep : ∀ p, p ∉ fr → F'.getD p [] = F.getD p []
 nodup : ∀ p, (F.getD p []).Nodup → (F'.getD p []).Nodup
structure Lnk (F F' : Fol) (fr to : List Nat) : Prop where
 len : F'.length = F.length
 mem : ∀ p q, p < F.length → (q ∈ F'.getD p [] ↔ q ∈ F.getD p [] ∨ (p ∈ fr ∧ q ∈ to))
 keep : ∀ p, p ∉ fr → F'.getD p [] = F.getD p []
 nodup : ∀ p, (F.getD p []).Nodup → (F'.getD p []).Nodup
section lnk
variable {F F' : Fol} {fr to : List Nat} {i j : Nat}
theorem LnkP.start (F : Fol) (fr to : List Nat) : LnkP F F fr to 0 0 := ⟨rfl, fun p q _ => by simp, fun _ _ => rfl, fun _ h => h⟩
theorem LnkP.row (h : LnkP F F' fr to i to.length) (hi : i < fr.length) : LnkP F F' fr to (i + 1) 0 := by
 refine ⟨h.len, fun p q hp => ?_, h.keep, h.nodup⟩
 rw [h.mem p q hp, take_getDG 0 fr i hi, List.mem_append, List.mem_singleton, List.take_length, List.take_zero]
 constructor
 ·rintro (h1 | ⟨h1, h2⟩ | ⟨_, h1, h2⟩)
  ·exact .inl h1
  ·exact .inr (.inl ⟨.inl h1, h2⟩)
  ·exact .inr (.inl ⟨.inr h1, h2⟩)
 ·rintro (h1 | ⟨h1 | h1, h2⟩ | ⟨_, _, h2⟩)
  ·exact .inl h1
  ·exact .inr (.inl ⟨h1, h2⟩)
  ·exact .inr (.inr ⟨hi, h1, h2⟩)
  ·cases h2
theorem LnkP.skip (h : LnkP F F' fr to i j) (hi : i < fr.length) (hj : j < to.length) (hr : fr.getD i 0 < F.length) (hk : to.getD j 0 ∈ F'.getD (fr.getD i 0) []) : LnkP F F' fr to i (j + 1) := by
 refine ⟨h.len, fun p q hp => ?_, h.keep, h.nodup⟩
 rw [take_getDG 0 to j hj, List.mem_append, List.mem_singleton]
 constructor
 ·intro hq
  rcases (h.mem p q hp).1 hq with h1 | h1 | ⟨h1, h2, h3⟩
  ·exact .inl h1
  ·exact .inr (.inl h1)
  ·exact .inr (.inr ⟨h1, h2, .inl h3⟩)
 ·rintro (h1 | h1 | ⟨h1, h2, h3 | h3⟩)
  ·exact (h.mem p q hp).2 (.inl h1)
  ·exact (h.mem p q hp).2 (.inr (.inl h1))
  ·exact (h.mem p q hp).2 (.inr (.inr ⟨h1, h2, h3⟩))
  ·rw [h3, h2]; exact hk
theorem LnkP.add (h : LnkP F F' fr to i j) (hi : i < fr.length) (hj : j < to.length) (hr : fr.getD i 0 < F.length) (hk : to.getD j 0 ∉ F'.getD (fr.getD i 0) []) :
 LnkP F (F'.set (fr.getD i 0) (F'.getD (fr.getD i 0) [] ++ [to.getD j 0])) fr to i (j + 1) := by
 have hg : ∀ p, (F'.set (fr.getD i 0) (F'.getD (fr.getD i 0) [] ++ [to.getD j 0])).getD p [] = if p = fr.getD i 0 then F'.getD (fr.getD i 0) [] ++ [to.getD j 0] else F'.getD p [] := fun p => by
  rw [getD_set]
  by_cases e : p = fr.getD i 0
  ·rw [if_pos e, if_pos ⟨e, by rw [h.len]; exact hr⟩]
  ·rw [if_neg e, if_neg (fun h => e h.1)]
 refine ⟨by rw [List.length_set]; exact h.len, fun p q hp => ?_, fun p hp => ?_, fun p hp => ?_⟩
 ·rw [hg, take_getDG 0 to j hj, List.mem_append, List.mem_singleton]
  by_cases e : p = fr.getD i 0
  ·rw [if_pos e, List.mem_append, List.mem_singleton, ← e, h.mem p q hp]
   constructor
   ·rintro ((h1 | h1 | ⟨h1, h2, h3⟩) | h1)
    ·exact .inl h1
    ·exact .inr (.inl h1)
    ·exact .inr (.inr ⟨h1, rfl, .inl h3⟩)
    ·exact .inr (.inr ⟨hi, rfl, .inr h1⟩)
   ·rintro (h1 | h1 | ⟨h1, h2, h3 | h3⟩)
    ·exact .inl (.inl h1)
    ·exact .inl (.inr (.inl h1))
    ·exact .inl (.inr (.inr ⟨h1, e, h3⟩))
    ·exact .inr h3
  ·rw [if_neg e, h.mem p q hp]
   constructor
   ·rintro (h1 | h1 | ⟨h1, h2, h3⟩)
    ·exact .inl h1
    ·exact .inr (.inl h1)
    ·exact absurd h2 e
   ·rintro (h1 | h1 | ⟨h1, h2, h3⟩)
    ·exact .inl h1
    ·exact .inr (.inl h1)
    ·exact absurd h2 e
 ·have e : p ≠ fr.getD i 0 := fun e => hp (e ▸ getD_memG 0 fr i hi)
  rw [hg, if_neg e]; exact h.keep p hp
 ·rw [hg]
  split
  ·rename_i e
   have := h.nodup p hp
   rw [e] at this
   exact List.nodup_append.2 ⟨this, by simp, fun a ha b hb e => hk (by rw [← List.mem_singleton.1 hb, ← e]; exact ha)⟩
  ·exact h.nodup p hp
theorem LnkP.done (h : LnkP F F' fr to fr.length 0) : Lnk F F' fr to := by
 refine ⟨h.len, fun p q hp => ?_, h.keep, h.nodup⟩
 rw [h.mem p q hp, List.take_length]
 constructor
 ·rintro (h1 | h1 | ⟨h1, _⟩)
  ·exact .inl h1
  ·exact .inr h1
  ·omega
 ·rintro (h1 | h1)
  ·exact .inl h1
  ·exact .inr (.inl h1)
end lnk
def tyOf (tys : List Int) (p : Nat) : Int := tys.getD p 0
def glOf (b : Nat) (F : Fol) (fi la : List Nat) (no : Bool) : Gl := ⟨fun p => p ∈ fi, fun p => p ∈ la, no = true, fun p q => b ≤ p ∧ q ∈ F.getD p []⟩
structure Pl (t0 : List Int) (F0 : Fol) (t : List Int) (F : Fol) (fi la : List Nat) (no : Bool) (A : Lg) : Prop where
 ext : ∃ u, t = t0 ++ u
 len : F.length = t.length
 old : ∀ p, p < t0.length → F.getD p [] = F0.getD p []
 inn : (glOf t0.length F fi la no).In t0.length t.length
 lang : (glOf t0.length F fi la no).lg (tyOf t) = A
 nodup : ∀ p, t0.length ≤ p → (F.getD p []).Nodup
 lf : fi.length + t0.length ≤ t.length
 ll : la.length + t0.length ≤ t.length
section pl
variable {t0 t1 t2 : List Int} {F0 F1 F2 F3 : Fol} {f1 l1 f2 l2 : List Nat} {n1 n2 : Bool} {A B : Lg}
theorem Pl.le (h : Pl t0 F0 t1 F1 f1 l1 n1 A) : t0.length ≤ t1.length := by
 obtain ⟨u, rfl⟩ := h.ext; rw [List.length_append]; omega
theorem Pl.nothing (h0 : F0.length = t0.length) (no : Bool) : Pl t0 F0 t0 F0 [] [] no (if no = true then Lg.eps else Lg.none) := by
 have e : glOf t0.length F0 [] [] no = Gl.nothing (no = true) := Gl.ext' (fun p => by simp [glOf, Gl.nothing]) (fun p => by simp [glOf, Gl.nothing]) Iff.rfl (fun p q => by
  simp only [glOf, Gl.nothing, iff_false]
  rintro ⟨h1, h2⟩
  rw [getD_over F0 [] (by omega)] at h2; cases h2)
 refine ⟨⟨[], by simp⟩, h0, fun _ _ => rfl, by rw [e]; exact Gl.nothing_in _ _, ?_, fun p hp => by rw [getD_over F0 [] (by omega)]; exact List.nodup_nil, by simp, by simp⟩
 rw [e]
 cases no with
 | true => rw [if_pos rfl, show (true = true) = True from eq_self _]; exact Gl.eps_lg _
 | false => rw [if_neg (by decide), show (false = true) = False from by simp]; exact Gl.none_lg _
theorem Pl.one (h0 : F0.length = t0.length) (c : Int) : Pl t0 F0 (t0 ++ [c]) (F0 ++ [[]]) [t0.length] [t0.length] false (Lg.one c) := by
 have hF : ∀ p, t0.length ≤ p → (F0 ++ [[]]).getD p [] = [] := fun p hp => by
  rcases Nat.lt_or_ge p (F0.length + 1) with h | h
  ·obtain rfl : p = F0.length := by omega
   rw [List.getD_eq_getElem?_getD, List.getElem?_append_right (Nat.le_refl _), Nat.sub_self]; rfl
  ·exact getD_over _ _ (by rw [List.length_append, List.length_singleton]; exact h)
 have e : glOf t0.length (F0 ++ [[]]) [t0.length] [t0.length] false = Gl.one t0.length := Gl.ext' (fun p => by simp [glOf, Gl.one]) (fun p => by simp [glOf, Gl.one]) (by simp [glOf, Gl.one]) (fun p q => by
  simp only [glOf, Gl.one, iff_false]
  rintro ⟨h1, h2⟩
  rw [hF p h1] at h2; cases h2)
 refine ⟨⟨[c], rfl⟩, by rw [List.length_append, List.length_append, h0]; rfl, fun p hp => getD_app _ _ _ (by omega), ?_, ?_, fun p hp => by rw [hF p hp]; exact List.nodup_nil, ?_, ?_⟩
 ·rw [e, List.length_append, List.length_singleton]
  refine ⟨fun p hp => ?_, fun p hp => ?_, fun p q h => h.elim⟩
  ·have hp : p = t0.length := hp
   omega
  ·have hp : p = t0.length := hp
   omega
 ·rw [e, Gl.one_lg]
  congr 1
  unfold tyOf
  rw [List.getD_eq_getElem?_getD, List.getElem?_append_right (Nat.le_refl _), Nat.sub_self]; rfl
 ·rw [List.length_append]; simp; omega
 ·rw [List.length_append]; simp; omega
theorem Pl.ty (h : Pl t0 F0 t1 F1 f1 l1 n1 A) {t : List Int} (hx : ∃ u, t = t1 ++ u) : (glOf t0.length F1 f1 l1 n1).lg (tyOf t) = A := by
 rw [← h.lang]
 obtain ⟨u, rfl⟩ := hx
 exact Gl.lg_ty h.inn fun p _ hp => getD_app _ _ _ hp
theorem Pl.exts (h1 : Pl t0 F0 t1 F1 f1 l1 n1 A) (h2 : Pl t1 F1 t2 F2 f2 l2 n2 B) : ∃ u, t2 = t0 ++ u := by
 obtain ⟨u, rfl⟩ := h1.ext
 obtain ⟨v, e⟩ := h2.ext
 exact ⟨u ++ v, by rw [e, List.append_assoc]⟩
theorem Pl.fols (h1 : Pl t0 F0 t1 F1 f1 l1 n1 A) (h2 : Pl t1 F1 t2 F2 f2 l2 n2 B) (p q : Nat) : (t0.length ≤ p ∧ q ∈ F2.getD p []) ↔ (t0.length ≤ p ∧ q ∈ F1.getD p []) ∨ (t1.length ≤ p ∧ q ∈ F2.getD p []) := by
 have hle := h1.le
 constructor
 ·rintro ⟨a, b⟩
  rcases Nat.lt_or_ge p t1.length with h | h
  ·exact .inl ⟨a, by rw [← h2.old p h]; exact b⟩
  ·exact .inr ⟨h, b⟩
 ·rintro (⟨a, b⟩ | ⟨a, b⟩)
  ·rcases Nat.lt_or_ge p t1.length with h | h
   ·exact ⟨a, by rw [h2.old p h]; exact b⟩
   ·rw [getD_over F1 [] (by rw [h1.len]; exact h)] at b; cases b
  ·exact ⟨by omega, b⟩
theorem Pl.or (h1 : Pl t0 F0 t1 F1 f1 l1 n1 A) (h2 : Pl t1 F1 t2 F2 f2 l2 n2 B) : Pl t0 F0 t2 F2 (f1 ++ f2) (l1 ++ l2) (n1 || n2) (Lg.alt A B) := by
 have hl1 := h1.le
 have hl2 := h2.le
 have e : glOf t0.length F2 (f1 ++ f2) (l1 ++ l2) (n1 || n2) = Gl.or (glOf t0.length F1 f1 l1 n1) (glOf t1.length F2 f2 l2 n2) :=
  Gl.ext' (fun p => by simp [glOf, Gl.or]) (fun p => by simp [glOf, Gl.or]) (by simp [glOf, Gl.or]) (fun p q => h1.fols h2 p q)
 refine ⟨h1.exts h2, h2.len, fun p hp => by rw [h2.old p (by omega), h1.old p hp], by rw [e]; exact Gl.or_in h1.inn h2.inn hl1 hl2, ?_, fun p hp => ?_, ?_, ?_⟩
 ·rw [e, Gl.or_lg h1.inn h2.inn, h1.ty h2.ext, h2.lang]
 ·rcases Nat.lt_or_ge p t1.length with h | h
  ·rw [h2.old p h]; exact h1.nodup p hp
  ·exact h2.nodup p h
 ·rw [List.length_append]; have := h1.lf; have := h2.lf; omega
 ·rw [List.length_append]; have := h1.ll; have := h2.ll; omega
theorem Pl.seq (h1 : Pl t0 F0 t1 F1 f1 l1 n1 A) (h2 : Pl t1 F1 t2 F2 f2 l2 n2 B) (hk : Lnk F2 F3 l1 f2) : Pl t0 F0 t2 F3 (if n1 = true then f1 ++ f2 else f1) ((if n2 = true then l1 else []) ++ l2) (n1 && n2) (Lg.cat A B) := by
 have hl1 := h1.le
 have hl2 := h2.le
 have hin1 : ∀ p, p ∈ l1 → t0.length ≤ p ∧ p < t1.length := fun p hp => h1.inn.L p hp
 have hmem : ∀ p q, q ∈ F3.getD p [] ↔ q ∈ F2.getD p [] ∨ (p ∈ l1 ∧ q ∈ f2) := fun p q => by
  rcases Nat.lt_or_ge p F2.length with h | h
  ·exact hk.mem p q h
  ·rw [getD_over F3 [] (by rw [hk.len]; exact h), getD_over F2 [] h]
   constructor
   ·intro h; cases h
   ·rintro (h' | ⟨h', _⟩)
    ·cases h'
    ·have := hin1 p h'; rw [h2.len] at h; omega
 have e : glOf t0.length F3 (if n1 = true then f1 ++ f2 else f1) ((if n2 = true then l1 else []) ++ l2) (n1 && n2) = Gl.seq (glOf t0.length F1 f1 l1 n1) (glOf t1.length F2 f2 l2 n2) := by
  refine Gl.ext' (fun p => ?_) (fun p => ?_) (by simp [glOf, Gl.seq]) (fun p q => ?_)
  ·simp only [glOf, Gl.seq]
   cases n1 <;> simp
  ·simp only [glOf, Gl.seq]
   cases n2 <;> simp
  ·show (t0.length ≤ p ∧ q ∈ F3.getD p []) ↔ ((t0.length ≤ p ∧ q ∈ F1.getD p []) ∨ (t1.length ≤ p ∧ q ∈ F2.getD p [])) ∨ (p ∈ l1 ∧ q ∈ f2)
   rw [hmem, ← h1.fols h2 p q]
   constructor
   ·rintro ⟨a, b | b⟩
    ·exact .inl ⟨a, b⟩
    ·exact .inr b
   ·rintro (⟨a, b⟩ | b)
    ·exact ⟨a, .inl b⟩
    ·exact ⟨(hin1 p b.1).1, .inr b⟩
 refine ⟨h1.exts h2, by rw [hk.len]; exact h2.len, fun p hp => ?_, by rw [e]; exact Gl.seq_in h1.inn h2.inn hl1 hl2, ?_, fun p hp => ?_, ?_, ?_⟩
 ·rw [hk.keep p fun h => by have := hin1 p h; omega, h2.old p (by omega), h1.old p hp]
 ·rw [e, Gl.seq_lg h1.inn h2.inn, h1.ty h2.ext, h2.lang]
 ·refine hk.nodup p ?_
  rcases Nat.lt_or_ge p t1.length with h | h
  ·rw [h2.old p h]; exact h1.nodup p hp
  ·exact h2.nodup p h
 ·have := h1.lf; have := h2.lf
  split
  ·rw [List.length_append]; omega
  ·omega
 ·have := h1.ll; have := h2.ll
  rw [List.length_append]
  split
  ·omega
  ·simp only [List.length_nil]; omega
theorem Pl.loop (h1 : Pl t0 F0 t1 F1 f1 l1 n1 A) (hk : Lnk F1 F2 l1 f1) (no : Bool) : (Pl t0 F0 t1 F2 f1 l1 true (Lg.star A)) ∧ Pl t0 F0 t1 F2 f1 l1 n1 (Lg.cat A (Lg.star A)) := by
 have hl1 := h1.le
 have hin1 : ∀ p, p ∈ l1 → t0.length ≤ p ∧ p < t1.length := fun p hp => h1.inn.L p hp
 have hmem : ∀ p q, q ∈ F2.getD p [] ↔ q ∈ F1.getD p [] ∨ (p ∈ l1 ∧ q ∈ f1) := fun p q => by
  rcases Nat.lt_or_ge p F1.length with h | h
  ·exact hk.mem p q h
  ·rw [getD_over F2 [] (by rw [hk.len]; exact h), getD_over F1 [] h]
   constructor
   ·intro h; cases h
   ·rintro (h' | ⟨h', _⟩)
    ·cases h'
    ·have := hin1 p h'; rw [h1.len] at h; omega
 have e : ∀ (m : Bool) (N : Prop), ((m = true) ↔ N) → glOf t0.length F2 f1 l1 m = Gl.loop (glOf t0.length F1 f1 l1 n1) N := fun m N hN =>
  Gl.ext' (fun p => Iff.rfl) (fun p => Iff.rfl) hN (fun p q => by
   show (t0.length ≤ p ∧ q ∈ F2.getD p []) ↔ (t0.length ≤ p ∧ q ∈ F1.getD p []) ∨ (p ∈ l1 ∧ q ∈ f1)
   rw [hmem]
   constructor
   ·rintro ⟨a, b | b⟩
    ·exact .inl ⟨a, b⟩
    ·exact .inr b
   ·rintro (⟨a, b⟩ | b)
    ·exact ⟨a, .inl b⟩
    ·exact ⟨(hin1 p b.1).1, .inr b⟩)
 have old : ∀ p, p < t0.length → F2.getD p [] = F0.getD p [] := fun p hp => by
  rw [hk.keep p fun h => by have := hin1 p h; omega, h1.old p hp]
 have nd : ∀ p, t0.length ≤ p → (F2.getD p []).Nodup := fun p hp => hk.nodup p (h1.nodup p hp)
 refine ⟨⟨h1.ext, by rw [hk.len]; exact h1.len, old, ?_, ?_, nd, h1.lf, h1.ll⟩, ⟨h1.ext, by rw [hk.len]; exact h1.len, old, ?_, ?_, nd, h1.lf, h1.ll⟩⟩
 ·rw [e true True (by simp)]; exact Gl.loop_in h1.inn
 ·rw [e true True (by simp), Gl.star_lg, h1.lang]
 ·rw [e n1 (n1 = true) Iff.rfl]; exact Gl.loop_in h1.inn
 ·rw [e n1 (glOf t0.length F1 f1 l1 n1).N Iff.rfl, Gl.plus_lg, h1.lang]
theorem Pl.opt (h1 : Pl t0 F0 t1 F1 f1 l1 n1 A) : Pl t0 F0 t1 F1 f1 l1 true (Lg.alt Lg.eps A) := by
 have e : glOf t0.length F1 f1 l1 true = Gl.opt (glOf t0.length F1 f1 l1 n1) := Gl.ext' (fun p => Iff.rfl) (fun p => Iff.rfl) (by simp [glOf, Gl.opt]) (fun p q => Iff.rfl)
 exact ⟨h1.ext, h1.len, h1.old, by rw [e]; exact Gl.opt_in h1.inn, by rw [e, Gl.opt_lg, h1.lang], h1.nodup, h1.lf, h1.ll⟩
end pl
abbrev Rw := Value × List Nat
def rowsM (I : TypeId) (R : List Rw) : List ME := R.map fun z => .arr z.1 I 1 (z.2.map natv)
def rowsV (R : List Rw) : List AV := R.map fun z => .lit z.1
def folOf (R : List Rw) : Fol := R.map fun z => z.2
theorem folOf_get (R : List Rw) (p : Nat) : (folOf R).getD p [] = (R.getD p (.slice none 0 0, [])).2 := by
 unfold folOf
 rw [List.getD_eq_getElem?_getD, List.getElem?_map, List.getD_eq_getElem?_getD]
 cases R[p]? <;> rfl
theorem folOf_set (R : List Rw) (p : Nat) (z : Rw) : folOf (R.set p z) = (folOf R).set p z.2 := by unfold folOf; rw [List.map_set]
theorem rows_mid (R : List Rw) (p : Nat) (h : p < R.length) : R = R.take p ++ R.getD p (.slice none 0 0, []) :: R.drop (p + 1) := by
 rw [List.getD_eq_getElem?_getD, List.getElem?_eq_getElem h]
 exact (List.take_append_drop p R).symm.trans (by rw [List.drop_eq_getElem_cons h]; rfl)
theorem rows_set_mid (R : List Rw) (p : Nat) (z : Rw) (h : p < R.length) : R.set p z = R.take p ++ z :: R.drop (p + 1) := by
 rw [List.set_eq_take_append_cons_drop, if_pos h]
theorem rowsM_app (I : TypeId) (R S : List Rw) : rowsM I (R ++ S) = rowsM I R ++ rowsM I S := by simp [rowsM]
theorem rowsM_out (I : TypeId) (R : List Rw) (p : Nat) (h : p < R.length) (M : List ME) : List.Perm (M ++ rowsM I R) (.arr (R.getD p (.slice none 0 0, [])).1 I 1 ((R.getD p (.slice none 0 0, [])).2.map natv) :: (M ++ (rowsM I (R.take p) ++ rowsM I (R.drop (p + 1))))) := by
 have e : rowsM I R = rowsM I (R.take p) ++ .arr (R.getD p (.slice none 0 0, [])).1 I 1 ((R.getD p (.slice none 0 0, [])).2.map natv) :: rowsM I (R.drop (p + 1)) := by
  conv => lhs; rw [rows_mid R p h]
  rw [rowsM_app]; rfl
 rw [e]
 refine (List.Perm.append_left M List.perm_middle).trans ?_
 exact List.perm_middle
theorem rowsM_in (I : TypeId) (R : List Rw) (p : Nat) (z : Rw) (h : p < R.length) (M : List ME) : List.Perm (.arr z.1 I 1 (z.2.map natv) :: (M ++ (rowsM I (R.take p) ++ rowsM I (R.drop (p + 1))))) (M ++ rowsM I (R.set p z)) := by
 have e : rowsM I (R.set p z) = rowsM I (R.take p) ++ .arr z.1 I 1 (z.2.map natv) :: rowsM I (R.drop (p + 1)) := by
  rw [rows_set_mid R p z h, rowsM_app]; rfl
 rw [e]
 refine List.Perm.trans ?_ (List.Perm.append_left M List.perm_middle.symm)
 exact List.perm_middle.symm
theorem rowsV_get (R : List Rw) (p : Nat) (h : p < R.length) : (rowsV R)[p]? = some (.lit (R.getD p (.slice none 0 0, [])).1) := by
 unfold rowsV
 rw [List.getElem?_map, List.getD_eq_getElem?_getD, List.getElem?_eq_getElem h]; rfl
theorem rowsV_set (R : List Rw) (p : Nat) (z : Rw) : (rowsV R).set p (.lit z.1) = rowsV (R.set p z) := by unfold rowsV; rw [List.map_set]
theorem rowsV_len (R : List Rw) : (rowsV R).length = R.length := by simp [rowsV]
theorem folOf_len (R : List Rw) : (folOf R).length = R.length := by simp [folOf]
theorem nodup_len {n : Nat} {l : List Nat} (h : l.Nodup) (hb : ∀ x ∈ l, x < n) : l.length ≤ n :=
 pigeon n l.length (fun i => l.getD i 0) (fun i hi => hb _ (getD_memG 0 l i hi)) fun i j hi hj e => by
  have e : l.getD i 0 = l.getD j 0 := e
  rw [List.getD_eq_getElem?_getD, List.getD_eq_getElem?_getD, List.getElem?_eq_getElem hi, List.getElem?_eq_getElem hj] at e
  exact (List.getElem_inj h).1 e
end Go.Vl
end
section
namespace Go.Vl
namespace Ex
mutual
def lv : Ex → Nat
 | mk k _ p => if k = 1 then 1 else lvs p
def lvs : List Ex → Nat
 | [] => 0
 | d :: l => lv d + lvs l
end
theorem lv_eq (x : Ex) : lv x = if x.kind = 1 then 1 else lvs x.parts := by cases x with | mk k t p => rw [lv]; rfl
theorem lvs_append (l m : List Ex) : lvs (l ++ m) = lvs l + lvs m := by
 induction l with
 | nil => simp [lvs]
 | cons d l ih => rw [List.cons_append, lvs, lvs, ih]; omega
theorem lvs_one (d : Ex) : lvs [d] = lv d := by rw [lvs, lvs, Nat.add_zero]
theorem lvs_snoc (l : List Ex) (i : Nat) (h : i < l.length) : lvs (l.take (i + 1)) = lvs (l.take i) + lv (l.getD i dflt) := by
 rw [take_getDG dflt l i h, lvs_append, lvs_one]
theorem lvs_take (l : List Ex) (i : Nat) : lvs (l.take i) ≤ lvs l := by
 have h := lvs_append (l.take i) (l.drop i)
 rw [List.take_append_drop] at h; omega
theorem lv_sz : ∀ x : Ex, lv x ≤ sz x := by
 refine rec' fun x ih => ?_
 have h : ∀ l : List Ex, (∀ d ∈ l, lv d ≤ sz d) → lvs l ≤ szs l := fun l => by
  induction l with
  | nil => intro _; exact Nat.le_refl _
  | cons d l ih2 => intro h; rw [lvs, szs]; have := h d List.mem_cons_self; have := ih2 fun e he => h e (List.mem_cons_of_mem _ he); omega
 have := h x.parts ih
 rw [lv_eq, sz_eq]
 split <;> omega
theorem lvs_flat (k : Int) (hk : k ≠ 1) (l : List Ex) : lvs (flat k l) = lvs l := by
 induction l with
 | nil => rfl
 | cons d l ih =>
  rw [show flat k (d :: l) = (if d.kind = k then d.parts else [d]) ++ flat k l from rfl, lvs_append, lvs, ih]
  congr 1
  split
  ·rename_i e; rw [lv_eq, if_neg (by rw [e]; exact hk)]
  ·exact lvs_one d
theorem lv_tog (k : Int) (hk : k ≠ 1) (l : List Ex) : lv (tog k l) = lvs l := by
 rcases tog_cases k l with ⟨x, rfl, e⟩ | ⟨h1, y, h2, e⟩ | ⟨h1, h2, e⟩
 ·rw [e, lvs_one]
 ·rw [e, ← lvs_flat k hk l, h2, lvs_one]
 ·rw [e, lv_eq]
  show (if k = 1 then 1 else lvs (flat k l)) = _
  rw [if_neg hk, lvs_flat k hk]
theorem lv_sfe : ∀ (sf : List Nat) (x : Ex), lv (sfe x sf) = lv x
 | [], x => rfl
 | k :: sf, x => by
  show lv (sfe (.mk (4 + (k : Int)) 0 [x]) sf) = lv x
  rw [lv_sfe sf, lv_eq]
  show (if (4 + (k : Int)) = 1 then 1 else lvs [x]) = _
  rw [if_neg (by omega), lvs_one]
end Ex
namespace It
theorem lvs_sev (s : List It) (h : ∀ i ∈ s, Ex.lv i.ev = nl i) : Ex.lvs (sev s) = snl s := by
 induction s with
 | nil => rfl
 | cons i s ih => rw [sev, Ex.lvs, snl, h i List.mem_cons_self, ih fun j hj => h j (List.mem_cons_of_mem _ hj)]
theorem lv_sq' (s : List It) (h : ∀ i ∈ s, Ex.lv i.ev = nl i) : Ex.lv (sq s) = snl s := by
 rw [sq, Ex.lv_tog 2 (by decide), lvs_sev s h]
theorem lvs_aev (a : List (List It)) (h : ∀ t ∈ a, Ex.lv (sq t) = snl t) : Ex.lvs (aev a) = anl a := by
 induction a with
 | nil => rfl
 | cons t a ih => rw [aev, Ex.lvs, anl, h t List.mem_cons_self, ih fun j hj => h j (List.mem_cons_of_mem _ hj)]
theorem lv_ev : ∀ i : It, Ex.lv i.ev = nl i := by
 refine rec' ?_ ?_
 ·intro n sf
  rw [ev, Ex.lv_sfe, nl, Ex.lv_eq]; rfl
 ·intro s a sf h1 h2
  rw [ev, Ex.lv_sfe, nl, Ex.lv_tog 3 (by decide), Ex.lvs, lv_sq' s h1, lvs_aev a fun t ht => lv_sq' t (h2 t ht)]
theorem lv_al (s : List It) (a : List (List It)) : Ex.lv (al s a) = snl s + anl a := by
 rw [al, Ex.lv_tog 3 (by decide), Ex.lvs, lv_sq' s fun i _ => lv_ev i, lvs_aev a fun t _ => lv_sq' t fun i _ => lv_ev i]
end It
structure AddZ where
 i : Nat
 fi : List Nat
 la : List Nat
 no : Bool
 vf : Value
 vl : Value
 vT : Value
 vF : Value
 tys : List Int
 R : List Rw
def Tys (t0 t : List Int) : Prop := ∀ c ∈ t, c ∈ t0 ∨ (0 ≤ c ∧ c < 8)
theorem Tys.refl (t : List Int) : Tys t t := fun c h => .inl h
theorem Tys.trans {a b c : List Int} (h1 : Tys a b) (h2 : Tys b c) : Tys a c := fun x hx => (h2 x hx).elim (fun h => h1 x h) .inr
section pre
variable {t0 t1 t2 : List Int} {F0 F1 F2 : Fol} {f1 l1 f2 l2 : List Nat} {n1 n2 : Bool} {A B : Lg}
theorem Pl.pre1 (h : Pl t0 F0 t1 F1 f1 l1 n1 A) : (∀ p ∈ l1, p < t1.length) ∧ (∀ p ∈ l1, (F1.getD p []).Nodup) ∧ (∀ p ∈ l1, ∀ q ∈ F1.getD p [], q < t1.length) ∧ (∀ q ∈ f1, q < t1.length) :=
 ⟨fun p hp => (h.inn.L p hp).2, fun p hp => h.nodup p (h.inn.L p hp).1, fun p hp q hq => (h.inn.E p q ⟨(h.inn.L p hp).1, hq⟩).2.2, fun q hq => (h.inn.F q hq).2⟩
theorem Pl.pre2 (h1 : Pl t0 F0 t1 F1 f1 l1 n1 A) (h2 : Pl t1 F1 t2 F2 f2 l2 n2 B) : (∀ p ∈ l1, p < t2.length) ∧ (∀ p ∈ l1, (F2.getD p []).Nodup) ∧ (∀ p ∈ l1, ∀ q ∈ F2.getD p [], q < t2.length) ∧ (∀ q ∈ f2, q < t2.length) := by
 obtain ⟨a, b, c, d⟩ := h1.pre1
 have hle := h2.le
 refine ⟨fun p hp => by have := a p hp; omega, fun p hp => by rw [h2.old p (a p hp)]; exact b p hp, fun p hp q hq => ?_, fun q hq => (h2.inn.F q hq).2⟩
 rw [h2.old p (a p hp)] at hq
 have := c p hp q hq; omega
end pre
section fin
variable {t0 t1 : List Int} {F0 F1 F2 : Fol} {f1 l1 : List Nat} {n1 : Bool} {x : Ex}
theorem Pl.fin3 (h : Pl t0 F0 t1 F1 f1 l1 n1 (Ex.alts x.parts)) (hk : x.kind = 3 ∨ x.kind = 6) : Pl t0 F0 t1 F1 f1 l1 ((n1 || (x.kind == 4)) || (x.kind == 6)) x.lg := by
 rcases hk with hk | hk
 ·rw [Ex.lg_eq, hk, show ((n1 || ((3 : Int) == 4)) || ((3 : Int) == 6)) = n1 from by cases n1 <;> rfl, if_neg (by decide), if_neg (by decide), if_pos rfl]; exact h
 ·rw [Ex.lg_eq, hk, show ((n1 || ((6 : Int) == 4)) || ((6 : Int) == 6)) = true from by cases n1 <;> rfl, if_neg (by decide), if_neg (by decide), if_neg (by decide), if_neg (by decide), if_neg (by decide)]
  exact h.opt
theorem Pl.fin4 (h : Pl t0 F0 t1 F1 f1 l1 n1 (Ex.alts x.parts)) (hl : Lnk F1 F2 l1 f1) (hk : x.kind = 4 ∨ x.kind = 5) : Pl t0 F0 t1 F2 f1 l1 ((n1 || (x.kind == 4)) || (x.kind == 6)) x.lg := by
 obtain ⟨h1, h2⟩ := h.loop hl true
 rcases hk with hk | hk
 ·rw [Ex.lg_eq, hk, show ((n1 || ((4 : Int) == 4)) || ((4 : Int) == 6)) = true from by cases n1 <;> rfl, if_neg (by decide), if_neg (by decide), if_neg (by decide), if_pos rfl]; exact h1
 ·rw [Ex.lg_eq, hk, show ((n1 || ((5 : Int) == 4)) || ((5 : Int) == 6)) = n1 from by cases n1 <;> rfl, if_neg (by decide), if_neg (by decide), if_neg (by decide), if_neg (by decide), if_pos rfl]; exact h2
theorem Pl.fin2 (h : Pl t0 F0 t1 F1 f1 l1 n1 (Ex.seqs x.parts)) (hk : x.kind = 2) : Pl t0 F0 t1 F1 f1 l1 ((n1 || (x.kind == 4)) || (x.kind == 6)) x.lg := by
 rw [Ex.lg_eq, hk, show ((n1 || ((2 : Int) == 4)) || ((2 : Int) == 6)) = n1 from by cases n1 <;> rfl, if_neg (by decide), if_pos rfl]; exact h
end fin
theorem alts_snoc (l : List Ex) (i : Nat) (h : i < l.length) : Ex.alts (l.take (i + 1)) = Lg.alt (Ex.alts (l.take i)) (Ex.lg (l.getD i Ex.dflt)) := by
 rw [take_getDG Ex.dflt l i h, Ex.alts_append, Ex.alts_one]
theorem seqs_snoc (l : List Ex) (i : Nat) (h : i < l.length) : Ex.seqs (l.take (i + 1)) = Lg.cat (Ex.seqs (l.take i)) (Ex.lg (l.getD i Ex.dflt)) := by
 rw [take_getDG Ex.dflt l i h, Ex.seqs_append, Ex.seqs_one]
end Go.Vl
end
section
namespace Go.Vl
structure Tp where
 name : List UInt8
 content : List UInt8
 attrs : List (List UInt8)
def tpv (t : Tp) : AV := .agg [.str t.name, .str t.content, .sl 1 (t.attrs.map AV.str)]
def Au.avx (a : Au) : AV := .agg [.sl 1 (a.next.map pav), .sl 1 (a.final.map AV.bool)]
namespace Sch
def pk (l : List Int) (i n : Nat) : Nat := if l.length ≤ i then 0 else (l.getD i 0 % (n : Int)).toNat
def bDoc : List UInt8 := [100, 111, 99]
def bP : List UInt8 := [112]
def bH1 : List UInt8 := [104, 49]
def bUl : List UInt8 := [117, 108]
def bLi : List UInt8 := [108, 105]
def bEm : List UInt8 := [101, 109]
def bClass : List UInt8 := [99, 108, 97, 115, 115]
def its : List (List It) := [
 [.gr [.ch 1 []] [[.ch 2 []], [.ch 3 []]] [1]], [.ch 2 [2], .ch 1 [0]], [.gr [.ch 1 []] [[.ch 3 []]] [0]], [.ch 2 [], .ch 1 [1], .ch 3 [2]],
 [.ch 6 [2], .gr [.ch 5 [1], .ch 6 [2]] [] [0]], [.gr [.ch 5 []] [[.ch 6 [], .ch 5 []]] [0], .ch 6 [2]], [.ch 6 [2]], [.ch 6 []],
 [.ch 4 [1]], [.ch 4 [], .ch 4 [0]], [.ch 4 [0]], [.ch 1 [1]], [], [.ch 1 []]]
def aus : List Au := [
 ⟨[[-1, 1, 1, 1, -1, -1, -1, -1], [-1, 1, 1, 1, -1, -1, -1, -1]], [false, true]⟩,
 ⟨[[-1, 1, 1, -1, -1, -1, -1, -1], [-1, 1, -1, -1, -1, -1, -1, -1]], [true, true]⟩,
 ⟨[[-1, 0, -1, 0, -1, -1, -1, -1]], [true]⟩,
 ⟨[[-1, -1, 1, -1, -1, -1, -1, -1], [-1, 2, -1, -1, -1, -1, -1, -1], [-1, 2, -1, 3, -1, -1, -1, -1], [-1, -1, -1, -1, -1, -1, -1, -1]], [false, false, true, true]⟩,
 ⟨[[-1, -1, -1, -1, -1, 0, 1, -1], [-1, -1, -1, -1, -1, 0, -1, -1]], [true, true]⟩,
 ⟨[[-1, -1, -1, -1, -1, 0, 1, -1], [-1, -1, -1, -1, -1, 0, -1, -1]], [true, true]⟩,
 ⟨[[-1, -1, -1, -1, -1, -1, 1, -1], [-1, -1, -1, -1, -1, -1, -1, -1]], [true, true]⟩,
 ⟨[[-1, -1, -1, -1, -1, -1, 1, -1], [-1, -1, -1, -1, -1, -1, -1, -1]], [false, true]⟩,
 ⟨[[-1, -1, -1, -1, 1, -1, -1, -1], [-1, -1, -1, -1, 1, -1, -1, -1]], [false, true]⟩,
 ⟨[[-1, -1, -1, -1, 1, -1, -1, -1], [-1, -1, -1, -1, 1, -1, -1, -1]], [false, true]⟩,
 ⟨[[-1, -1, -1, -1, 0, -1, -1, -1]], [true]⟩,
 ⟨[[-1, 1, -1, -1, -1, -1, -1, -1], [-1, 1, -1, -1, -1, -1, -1, -1]], [false, true]⟩,
 ⟨[[-1, -1, -1, -1, -1, -1, -1, -1]], [true]⟩,
 ⟨[[-1, 1, -1, -1, -1, -1, -1, -1], [-1, -1, -1, -1, -1, -1, -1, -1]], [false, true]⟩]
def itk (k : Nat) : List It := its.getD k []
def auk (k : Nat) : Au := aus.getD k ⟨[], []⟩
theorem mach_allB : ((List.range 14).all fun k => It.machB (itk k) [] (auk k)) = true := by kernel_rfl
theorem mach_all (k : Nat) (hk : k < 14) : It.machB (itk k) [] (auk k) = true := List.all_eq_true.1 mach_allB k (List.mem_range.2 hk)
def txt (k : Nat) : List UInt8 := It.stx (itk k)
def tys (k0 k1 k2 k3 k4 k5 : Nat) : List Tp := [⟨bDoc, txt ([0, 1, 2, 3].getD k0 0), []⟩, ⟨bP, txt ([4, 5, 6].getD k1 0), [bClass]⟩, ⟨bH1, txt ([7, 6].getD k2 0), []⟩, ⟨bUl, txt ([8, 9, 10].getD k3 0), []⟩, ⟨bLi, txt ([11, 6, 2].getD k4 0), []⟩, ⟨bEm, txt ([7, 6].getD k5 0), []⟩, ⟨[], [], []⟩]
def fine (A : Au) (n : Nat) (c : Int) : Bool := (A.next.all fun r => (r.drop n).all fun x => decide (x < 0)) && (decide (c < 0) || A.next.all fun r => decide (r.getD c.toNat (-1) < 0) || decide ((A.next.getD (r.getD c.toNat (-1)).toNat []).getD c.toNat (-1) < 0))
theorem fine1 {A : Au} {n : Nat} {c : Int} (h : fine A n c = true) {r : List Int} (hr : r ∈ A.next) : ((r.drop n).any fun x => decide (0 ≤ x)) = false := by
 simp only [fine, Bool.and_eq_true] at h
 have h1 := List.all_eq_true.1 (List.all_eq_true.1 h.1 r hr)
 rw [List.any_eq_false]
 intro x hx
 have := of_decide_eq_true (h1 x hx)
 simp; omega
theorem fine2 {A : Au} {n : Nat} {c : Int} (h : fine A n c = true) (hc : 0 ≤ c) {r : List Int} (hr : r ∈ A.next) : r.getD c.toNat (-1) < 0 ∨ (A.next.getD (r.getD c.toNat (-1)).toNat []).getD c.toNat (-1) < 0 := by
 simp only [fine, Bool.and_eq_true, Bool.or_eq_true] at h
 rcases h.2 with h2 | h2
 ·have := of_decide_eq_true h2; omega
 ·have := List.all_eq_true.1 h2 r hr
  simpa using this
def formB (t : Tp) : Bool :=
 if t.name = [] then t.content == [] && t.attrs.isEmpty
 else if t.name = [115, 99, 114, 105, 112, 116] ∨ t.name = [115, 116, 121, 108, 101] ∨ t.name = [116, 101, 120, 116, 97, 114, 101, 97] ∨ t.name = [116, 105, 116, 108, 101] then false
 else if t.name = [98, 114] ∨ t.name = [104, 114] ∨ t.name = [105, 109, 103] ∨ t.name = [105, 110, 112, 117, 116] then t.content == [] else true
def attrsB (l : List (List UInt8)) : Bool := l.all (fun s => nameOk s && decide (s.length ≤ 1000)) && decide (l.length ≤ 4) && (List.range l.length).all fun i => !((l.take i).any fun s => l.getD i [] == s)
def lastG (ts : List Tp) (n : Nat) : Int := (List.range n).foldl (fun (z : Int) i => if (ts.getD i ⟨[], [], []⟩).name = [] then (i : Int) else z) (-1)
def lastT (ts : List Tp) : Int := lastG ts ts.length
theorem lastG_succ (ts : List Tp) (n : Nat) : lastG ts (n + 1) = if (ts.getD n ⟨[], [], []⟩).name = [] then (n : Int) else lastG ts n := by
 unfold lastG; rw [List.range_succ, List.foldl_append]; rfl
/-! ### sizes, as_ the code reckons them -/
def wr (z : Int) : Int := IntKind.i64.wrap z
def stepc (sz : List Int) (i : Nat) (s : List Int × Bool) (n : Nat) (to : Int) : List Int × Bool :=
 if to < 0 ∨ s.1.getD to.toNat 0 < 0 ∨ sz.getD n 0 = 0 then s
 else if s.1.getD i 0 < 0 ∨ wr (sz.getD n 0 + s.1.getD to.toNat 0) < s.1.getD i 0 then (s.1.set i (wr (sz.getD n 0 + s.1.getD to.toNat 0)), true) else s
def rowc (sz : List Int) (i : Nat) (row : List Int) (s : List Int × Bool) (k : Nat) : List Int × Bool := (List.range k).foldl (fun s n => stepc sz i s n (row.getD n (-1))) s
def rndc (sz : List Int) (A : Au) (s : List Int × Bool) (k : Nat) : List Int × Bool := (List.range k).foldl (fun s i => rowc sz i (A.next.getD i []) s 8) s
theorem rowc_succ (sz : List Int) (i : Nat) (row : List Int) (s : List Int × Bool) (k : Nat) : rowc sz i row s (k + 1) = stepc sz i (rowc sz i row s k) k (row.getD k (-1)) := by
 unfold rowc; rw [List.range_succ, List.foldl_append]; rfl
theorem rndc_succ (sz : List Int) (A : Au) (s : List Int × Bool) (k : Nat) : rndc sz A s (k + 1) = rowc sz k (A.next.getD k []) (rndc sz A s k) 8 := by
 unfold rndc; rw [List.range_succ, List.foldl_append]; rfl
theorem stepc_len (sz : List Int) (i : Nat) (s : List Int × Bool) (n : Nat) (to : Int) : (stepc sz i s n to).1.length = s.1.length := by
 unfold stepc; split; rfl; split; simp; rfl
theorem rowc_len (sz : List Int) (i : Nat) (row : List Int) (s : List Int × Bool) (k : Nat) : (rowc sz i row s k).1.length = s.1.length := by
 induction k with
 | zero => rfl
 | succ k ih => rw [rowc_succ, stepc_len, ih]
theorem rndc_len (sz : List Int) (A : Au) (s : List Int × Bool) (k : Nat) : (rndc sz A s k).1.length = s.1.length := by
 induction k with
 | zero => rfl
 | succ k ih => rw [rndc_succ, rowc_len, ih]
def tgI (A : Au) (i : Nat) : List Int := (A.final.take i).map (fun b => if b = true then (0 : Int) else -1) ++ List.replicate (A.final.length - i) 0
theorem tgI_zero (A : Au) : tgI A 0 = List.replicate A.final.length 0 := by simp [tgI]
theorem tgI_all (A : Au) : tgI A A.final.length = A.final.map fun b => if b = true then (0 : Int) else -1 := by simp [tgI]
theorem tgI_len (A : Au) (i : Nat) (h : i ≤ A.final.length) : (tgI A i).length = A.final.length := by
 simp [tgI]; omega
theorem tgI_succ (A : Au) (i : Nat) (h : i < A.final.length) : tgI A (i + 1) = if A.final.getD i false = true then tgI A i else (tgI A i).set i (-1) := by
 have hr : List.replicate (A.final.length - i) (0 : Int) = 0 :: List.replicate (A.final.length - (i + 1)) 0 := by
  rw [← List.replicate_succ]; congr 1; omega
 have hl : ((A.final.take i).map fun b => if b = true then (0 : Int) else -1).length = i := by simp; omega
 unfold tgI
 rw [take_getDG false A.final i h, List.map_append, hr, List.append_assoc]
 split
 ·rename_i h1; rw [List.map_cons, if_pos h1]; rfl
 ·rename_i h1
  rw [List.map_cons, if_neg h1, List.set_append_right _ _ (by omega), hl, Nat.sub_self]; rfl
def tgo (sz : List Int) (A : Au) : Nat → List Int → Option (List Int)
 | 0, _ => none
 | n + 1, o => if (rndc sz A (o, false) A.next.length).2 = true then tgo sz A n (rndc sz A (o, false) A.next.length).1 else some (rndc sz A (o, false) A.next.length).1
def toGo (sz : List Int) (A : Au) : Option (List Int) := tgo sz A 12 (A.final.map fun b => if b = true then (0 : Int) else -1)
theorem tgo_len (sz : List Int) (A : Au) : ∀ (n : Nat) (o r : List Int), tgo sz A n o = some r → r.length = o.length
 | 0, _, _, h => by cases h
 | n + 1, o, r, h => by
  simp only [tgo] at h
  split at h
  ·rw [tgo_len sz A n _ r h, rndc_len]
  ·rw [← Option.some.inj h, rndc_len]
theorem toGo_len {sz : List Int} {A : Au} {r : List Int} (h : toGo sz A = some r) : r.length = A.final.length := by
 rw [tgo_len sz A _ _ r h, List.length_map]
abbrev dT : Tp := ⟨[], [], []⟩
abbrev dA : Au := ⟨[], []⟩
def upd (s : List Int × Bool) (i : Nat) (n : Int) : List Int × Bool := if s.1.getD i 0 = 0 ∨ n < s.1.getD i 0 then (s.1.set i n, true) else s
def stepm (ts : List Tp) (as_ : List Au) (s : List Int × Bool) (i : Nat) : Option (List Int × Bool) :=
 if (ts.getD i dT).name = [] then some (upd s i 1)
 else match toGo s.1 (as_.getD i dA) with
  | none => none
  | some o => if o.getD 0 0 < 0 then some s else some (upd s i (wr (1 + o.getD 0 0)))
def rndm (ts : List Tp) (as_ : List Au) (s : List Int × Bool) : Nat → Option (List Int × Bool)
 | 0 => some s
 | k + 1 => match rndm ts as_ s k with
  | none => none
  | some r => stepm ts as_ r k
def mso (ts : List Tp) (as_ : List Au) : Nat → List Int → Option (List Int)
 | 0, _ => none
 | n + 1, z => match rndm ts as_ (z, false) ts.length with
  | none => none
  | some r => if r.2 = true then mso ts as_ n r.1 else some r.1
def sizesOf (ts : List Tp) (as_ : List Au) : Option (List Int) := mso ts as_ 10 (List.replicate ts.length 0)
theorem upd_len (s : List Int × Bool) (i : Nat) (n : Int) : (upd s i n).1.length = s.1.length := by
 unfold upd; split <;> simp
theorem stepm_len {ts : List Tp} {as_ : List Au} {s r : List Int × Bool} {i : Nat} (h : stepm ts as_ s i = some r) : r.1.length = s.1.length := by
 unfold stepm at h
 split at h
 ·rw [← Option.some.inj h, upd_len]
 ·split at h
  ·cases h
  ·split at h
   ·rw [← Option.some.inj h]
   ·rw [← Option.some.inj h, upd_len]
theorem rndm_len {ts : List Tp} {as_ : List Au} {s : List Int × Bool} : ∀ {k : Nat} {r : List Int × Bool}, rndm ts as_ s k = some r → r.1.length = s.1.length
 | 0, r, h => by rw [← Option.some.inj h]
 | k + 1, r, h => by
  simp only [rndm] at h
  split at h
  ·cases h
  ·rename_i q hq; rw [stepm_len h, rndm_len hq]
theorem rndm_some {ts : List Tp} {as_ : List Au} {s : List Int × Bool} : ∀ {n : Nat} {r : List Int × Bool}, rndm ts as_ s n = some r → ∀ k, k ≤ n → ∃ q, rndm ts as_ s k = some q
 | 0, r, h, k, hk => by rw [show k = 0 by omega]; exact ⟨_, rfl⟩
 | n + 1, r, h, k, hk => by
  rcases Nat.lt_or_ge n k with h1 | h1
  ·rw [show k = n + 1 by omega]; exact ⟨_, h⟩
  ·simp only [rndm] at h
   split at h
   ·cases h
   ·rename_i q hq; exact rndm_some hq k h1
theorem rndm_succ {ts : List Tp} {as_ : List Au} {s r : List Int × Bool} {k : Nat} (h : rndm ts as_ s k = some r) : rndm ts as_ s (k + 1) = stepm ts as_ r k := by
 simp only [rndm, h]
theorem mso_len {ts : List Tp} {as_ : List Au} : ∀ (n : Nat) (z r : List Int), mso ts as_ n z = some r → r.length = z.length
 | 0, _, _, h => by cases h
 | n + 1, z, r, h => by
  simp only [mso] at h
  split at h
  ·cases h
  ·rename_i q hq
   split at h
   ·rw [mso_len n _ r h, rndm_len hq]
   ·rw [← Option.some.inj h, rndm_len hq]
def pick1 (sz : List Int) (rest : List Int) (at_ : Nat) (row : List Int) (n : Nat) : Bool :=
 decide (0 ≤ row.getD n (-1)) && decide (0 ≤ rest.getD (row.getD n (-1)).toNat 0) && (wr (sz.getD n 0 + rest.getD (row.getD n (-1)).toNat 0) == rest.getD at_ 0)
def firstN (p : Nat → Bool) : Nat → Nat → Option Nat
 | 0, _ => none
 | f + 1, n => if p n = true then some n else firstN p f (n + 1)
def cho (sz : List Int) (A : Au) (rest : List Int) : Nat → Nat → List Int → Option (List Int)
 | 0, _, _ => none
 | f + 1, a, w => if 0 < rest.getD a 0 then
  match firstN (pick1 sz rest a (A.next.getD a [])) 8 0 with
  | none => none
  | some n => cho sz A rest f ((A.next.getD a []).getD n (-1)).toNat (w ++ [(n : Int)])
  else some w
def cheap (sz : List Int) (A : Au) : Option (List Int) := match toGo sz A with
 | none => none
 | some rest => cho sz A rest 12 0 []
theorem lastG_rng (ts : List Tp) : ∀ n, -1 ≤ lastG ts n ∧ lastG ts n < n
 | 0 => by simp [lastG]
 | n + 1 => by
  have := lastG_rng ts n
  rw [lastG_succ]; split <;> omega
theorem known_all : ((List.range 14).all fun k => decide ((It.stx (itk k)).length ≤ 40) && decide (It.snl (itk k) ≤ 6) && decide ((auk k).next.length ≤ 32)) = true := by kernel_rfl
theorem itk_oks : ∀ k, k < 14 → It.oks (itk k) := by
 intro k hk
 rcases (show k = 0 ∨ k = 1 ∨ k = 2 ∨ k = 3 ∨ k = 4 ∨ k = 5 ∨ k = 6 ∨ k = 7 ∨ k = 8 ∨ k = 9 ∨ k = 10 ∨ k = 11 ∨ k = 12 ∨ k = 13 by omega) with rfl | rfl | rfl | rfl | rfl | rfl | rfl | rfl | rfl | rfl | rfl | rfl | rfl | rfl <;> simp [itk, its, It.oks, It.ok, It.oka]
structure Known (k : Nat) : Prop where
 oks : It.oks (itk k)
 len : (It.stx (itk k)).length ≤ 40
 lv : It.snl (itk k) ≤ 6
 ord : (auk k).Ord
 acc : ∀ u, (auk k).acc 0 u ↔ (Lg.alt (It.slg (itk k)) (It.alg [])) u
 n32 : (auk k).next.length ≤ 32
theorem known (k : Nat) (hk : k < 14) : Known k := by
 have h1 := List.all_eq_true.1 known_all k (List.mem_range.2 hk)
 simp only [Bool.and_eq_true, decide_eq_true_eq] at h1
 have h2 := It.mach_of (mach_all k hk)
 exact ⟨itk_oks k hk, h1.1.1, h1.1.2, h2.1, h2.2, h1.2⟩
structure Good (ts : List Tp) (as_ : List Au) : Prop where
 pos : 1 ≤ ts.length
 len : ts.length ≤ 8
 has : as_.length = ts.length
 name : ∀ i, i < ts.length → (ts.getD i dT).name.length ≤ 1000 ∧ ((ts.getD i dT).name = [] ∨ nameOk (ts.getD i dT).name = true)
 one : ∀ i, i < ts.length → ((ts.take i).any fun u => u.name == (ts.getD i dT).name) = false
 form : ∀ i, i < ts.length → formB (ts.getD i dT) = true
 attrs : ∀ i, i < ts.length → attrsB (ts.getD i dT).attrs = true
 mach : ∀ i, i < ts.length → ∃ k, k < 14 ∧ (ts.getD i dT).content = txt k ∧ as_.getD i dA = auk k ∧ fine (auk k) ts.length (lastT ts) = true
theorem fine_col {A : Au} {n : Nat} {c : Int} (h : fine A n c = true) : ∀ r ∈ A.next, ∀ k, k < 8 → 0 ≤ r.getD k (-1) → k < n := by
 intro r hr k hk h0
 rcases Nat.lt_or_ge k n with h1 | h1
 ·exact h1
 ·exfalso
  simp only [fine, Bool.and_eq_true] at h
  have h2 := List.all_eq_true.1 (List.all_eq_true.1 h.1 r hr)
  rcases Nat.lt_or_ge k r.length with h3 | h3
  ·have hm : r.getD k (-1) ∈ r.drop n := by
    rw [List.getD_eq_getElem?_getD, List.getElem?_eq_getElem h3]
    refine List.mem_iff_getElem.2 ⟨k - n, by rw [List.length_drop]; omega, ?_⟩
    rw [List.getElem_drop]; simp only [Option.getD_some]; congr 1; omega
   have := of_decide_eq_true (h2 _ hm)
   omega
  ·rw [List.getD_eq_getElem?_getD, List.getElem?_eq_none h3] at h0
   simp at h0
theorem Good.sh {ts : List Tp} {as_ : List Au} (h : Good ts as_) : ∀ A ∈ as_, A.Shape ∧ A.next.length ≤ 100 ∧ ∀ r ∈ A.next, ∀ k, k < 8 → 0 ≤ r.getD k (-1) → k < ts.length := by
 intro A hA
 obtain ⟨i, hi, rfl⟩ := List.mem_iff_getElem.1 hA
 obtain ⟨k, hk, _, h2, h3⟩ := h.mach i (by rw [← h.has]; exact hi)
 have e : as_.getD i dA = as_[i] := by rw [List.getD_eq_getElem?_getD, List.getElem?_eq_getElem hi]; rfl
 rw [← e, h2]
 have hk' := known k hk
 exact ⟨hk'.ord.shape, Nat.le_trans hk'.n32 (by decide), fine_col h3⟩
theorem cho_len (sz : List Int) (A : Au) (rest : List Int) : ∀ (f a : Nat) (w r : List Int), cho sz A rest f a w = some r → r.length ≤ w.length + f
 | 0, _, _, _, h => by cases h
 | f + 1, a, w, r, h => by
  simp only [cho] at h
  split at h
  ·split at h
   ·cases h
   ·have := cho_len sz A rest f _ _ r h
    rw [List.length_append, List.length_singleton] at this; omega
  ·rw [← Option.some.inj h]; omega
theorem cheap_len {sz : List Int} {A : Au} {w : List Int} (h : cheap sz A = some w) : w.length ≤ 12 := by
 unfold cheap at h
 split at h
 ·cases h
 ·have := cho_len _ _ _ _ _ _ _ h
  simpa using this
def omap {α β : Type} (g : α → Option β) : List α → Option (List β)
 | [] => some []
 | a :: l => match g a, omap g l with
  | some b, some m => some (b :: m)
  | _, _ => none
theorem omap_len {α β : Type} {g : α → Option β} : ∀ {l : List α} {m : List β}, omap g l = some m → m.length = l.length
 | [], m, h => by rw [← Option.some.inj h]; rfl
 | a :: l, m, h => by
  simp only [omap] at h
  split at h
  ·rename_i b q _ hq
   rw [← Option.some.inj h, List.length_cons, List.length_cons, omap_len hq]
  ·cases h
theorem omap_at {α β : Type} {g : α → Option β} (za : α) (zb : β) : ∀ {l : List α} {m : List β}, omap g l = some m → ∀ i, i < l.length → g (l.getD i za) = some (m.getD i zb)
 | [], m, h, i, hi => by simp at hi
 | a :: l, m, h, i, hi => by
  simp only [omap] at h
  split at h
  ·rename_i b q hb hq
   rw [← Option.some.inj h]
   cases i with
   | zero => exact hb
   | succ i => exact omap_at za zb hq i (by simpa using hi)
  ·cases h
def treeN (ts : List Tp) (as_ : List Au) (sz : List Int) : Nat → Nat → Option Nd
 | 0, _ => none
 | f + 1, t => if ts.length ≤ t then none else if (ts.getD t dT).name = [] then some (Nd.mk [] [] [120] []) else
  match cheap sz (as_.getD t dA) with
  | none => none
  | some w => match omap (fun (k : Int) => if k < 0 then none else treeN ts as_ sz f k.toNat) w with
   | none => none
   | some ps => some (Nd.mk (ts.getD t dT).name [] [] ps)
theorem treeN_lt {ts : List Tp} {as_ : List Au} {sz : List Int} : ∀ {f t : Nat} {d : Nd}, treeN ts as_ sz f t = some d → t < ts.length
 | 0, t, d, h => by cases h
 | f + 1, t, d, h => by
  simp only [treeN] at h
  split at h
  ·cases h
  ·omega
end Sch
end Go.Vl
end
section
namespace Go.Vl
namespace Sch
def bytesB : List UInt8 → List UInt8 → Bool
 | [], [] => true
 | a :: l, b :: m => Nat.beq a.toNat b.toNat && bytesB l m
 | _, _ => false
mutual
def ndB : Nd → Nd → Bool
 | .mk n a t p, .mk n' a' t' p' => bytesB n n' && a.isEmpty && a'.isEmpty && bytesB t t' && ndsB p p'
def ndsB : List Nd → List Nd → Bool
 | [], [] => true
 | d :: l, e :: m => ndB d e && ndsB l m
 | _, _ => false
end
def mk0 (k : Nat) : Nat := ([0, 1, 2, 3] : List Nat).getD k 0
def mk1 (k : Nat) : Nat := ([4, 5, 6] : List Nat).getD k 0
def mk2 (k : Nat) : Nat := ([7, 6] : List Nat).getD k 0
def mk3 (k : Nat) : Nat := ([8, 9, 10] : List Nat).getD k 0
def mk4 (k : Nat) : Nat := ([11, 6, 2] : List Nat).getD k 0
def mk5 (k : Nat) : Nat := ([7, 6] : List Nat).getD k 0
def tyk (m0 m1 m2 m3 m4 m5 : Nat) : List Tp := [⟨bDoc, txt m0, []⟩, ⟨bP, txt m1, [bClass]⟩, ⟨bH1, txt m2, []⟩, ⟨bUl, txt m3, []⟩, ⟨bLi, txt m4, []⟩, ⟨bEm, txt m5, []⟩, ⟨[], [], []⟩]
def ask (m0 m1 m2 m3 m4 m5 : Nat) : List Au := [auk m0, auk m1, auk m2, auk m3, auk m4, auk m5, auk 12]
theorem fine_all : ((List.range 14).all fun k => fine (auk k) 7 6 && fine (auk k) 8 6) = true := by kernel_rfl
theorem i7 {i : Nat} (h : i < 7) : i = 0 ∨ i = 1 ∨ i = 2 ∨ i = 3 ∨ i = 4 ∨ i = 5 ∨ i = 6 := by omega
theorem good_tyk (m0 m1 m2 m3 m4 m5 : Nat) (h : m0 < 14 ∧ m1 < 14 ∧ m2 < 14 ∧ m3 < 14 ∧ m4 < 14 ∧ m5 < 14) : Good (tyk m0 m1 m2 m3 m4 m5) (ask m0 m1 m2 m3 m4 m5) := by
 have hf : ∀ k, k < 14 → fine (auk k) 7 6 = true := fun k hk => by
  have := List.all_eq_true.1 fine_all k (List.mem_range.2 hk)
  simp only [Bool.and_eq_true] at this; exact this.1
 refine ⟨Nat.le_of_ble_eq_true rfl, Nat.le_of_ble_eq_true rfl, rfl, ?_, ?_, ?_, ?_, ?_⟩
 ·intro i hi; rcases i7 hi with rfl | rfl | rfl | rfl | rfl | rfl | rfl <;> first | exact ⟨Nat.le_of_ble_eq_true rfl, .inr rfl⟩ | exact ⟨Nat.le_of_ble_eq_true rfl, .inl rfl⟩
 ·intro i hi; rcases i7 hi with rfl | rfl | rfl | rfl | rfl | rfl | rfl <;> rfl
 ·intro i hi; rcases i7 hi with rfl | rfl | rfl | rfl | rfl | rfl | rfl <;> first | rfl | decide
 ·intro i hi; rcases i7 hi with rfl | rfl | rfl | rfl | rfl | rfl | rfl <;> first | rfl | decide
 ·intro i hi
  rcases i7 hi with rfl | rfl | rfl | rfl | rfl | rfl | rfl
  ·exact ⟨m0, h.1, rfl, rfl, hf _ h.1⟩
  ·exact ⟨m1, h.2.1, rfl, rfl, hf _ h.2.1⟩
  ·exact ⟨m2, h.2.2.1, rfl, rfl, hf _ h.2.2.1⟩
  ·exact ⟨m3, h.2.2.2.1, rfl, rfl, hf _ h.2.2.2.1⟩
  ·exact ⟨m4, h.2.2.2.2.1, rfl, rfl, hf _ h.2.2.2.2.1⟩
  ·exact ⟨m5, h.2.2.2.2.2, rfl, rfl, hf _ h.2.2.2.2.2⟩
  ·exact ⟨12, by decide, rfl, rfl, hf _ (by decide)⟩
theorem stepm_congr {ts ts' : List Tp} (h : ∀ i, (ts.getD i dT).name = (ts'.getD i dT).name) (as_ : List Au) (s : List Int × Bool) (i : Nat) : stepm ts as_ s i = stepm ts' as_ s i := by
 unfold stepm; rw [h i]
theorem rndm_congr {ts ts' : List Tp} (h : ∀ i, (ts.getD i dT).name = (ts'.getD i dT).name) (as_ : List Au) (s : List Int × Bool) : ∀ k, rndm ts as_ s k = rndm ts' as_ s k
 | 0 => rfl
 | k + 1 => by
  simp only [rndm, rndm_congr h as_ s k]
  cases rndm ts' as_ s k with
  | none => rfl
  | some r => exact stepm_congr h as_ r k
theorem mso_congr {ts ts' : List Tp} (h : ∀ i, (ts.getD i dT).name = (ts'.getD i dT).name) (hl : ts.length = ts'.length) (as_ : List Au) : ∀ n z, mso ts as_ n z = mso ts' as_ n z
 | 0, _ => rfl
 | n + 1, z => by
  simp only [mso, rndm_congr h as_, hl]
  cases rndm ts' as_ (z, false) ts'.length with
  | none => rfl
  | some r => simp only [mso_congr h hl as_ n]
theorem sizesOf_congr {ts ts' : List Tp} (h : ∀ i, (ts.getD i dT).name = (ts'.getD i dT).name) (hl : ts.length = ts'.length) (as_ : List Au) : sizesOf ts as_ = sizesOf ts' as_ := by
 unfold sizesOf; rw [mso_congr h hl, hl]
theorem treeN_congr {ts ts' : List Tp} (h : ∀ i, (ts.getD i dT).name = (ts'.getD i dT).name) (hl : ts.length = ts'.length) (as_ : List Au) (sz : List Int) : ∀ f t, treeN ts as_ sz f t = treeN ts' as_ sz f t
 | 0, _ => rfl
 | f + 1, t => by
  simp only [treeN, h t, hl, treeN_congr h hl as_ sz f]
theorem names7 (m0 m1 m2 m3 m4 m5 n0 n1 n2 n3 n4 n5 : Nat) : ∀ i, ((tyk m0 m1 m2 m3 m4 m5).getD i dT).name = ((tyk n0 n1 n2 n3 n4 n5).getD i dT).name
 | 0 => rfl | 1 => rfl | 2 => rfl | 3 => rfl | 4 => rfl | 5 => rfl | 6 => rfl | _ + 7 => rfl
theorem tys_tyk (k0 k1 k2 k3 k4 k5 : Nat) : tys k0 k1 k2 k3 k4 k5 = tyk (mk0 k0) (mk1 k1) (mk2 k2) (mk3 k3) (mk4 k4) (mk5 k5) := rfl
def fst_ (m : Nat) : Nat := if m = 5 then 4 else if m = 9 then 8 else m
theorem auk_fst (m : Nat) : auk (fst_ m) = auk m := by
 unfold fst_
 split
 ·rename_i h; rw [h]; rfl
 ·split
  ·rename_i h; rw [h]; rfl
  ·rfl
theorem ask_fst (m0 m1 m2 m3 m4 m5 : Nat) : ask m0 (fst_ m1) m2 (fst_ m3) m4 m5 = ask m0 m1 m2 m3 m4 m5 := by
 unfold ask; rw [auk_fst, auk_fst]
theorem mk_lt {k0 k1 k2 k3 k4 k5 : Nat} (h0 : k0 < 4) (h1 : k1 < 3) (h2 : k2 < 2) (h3 : k3 < 3) (h4 : k4 < 3) (h5 : k5 < 2) : mk0 k0 < 14 ∧ mk1 k1 < 14 ∧ mk2 k2 < 14 ∧ mk3 k3 < 14 ∧ mk4 k4 < 14 ∧ mk5 k5 < 14 := by
 refine ⟨?_, ?_, ?_, ?_, ?_, ?_⟩
 ·exact (by decide : ∀ k : Fin 4, mk0 k.val < 14) ⟨k0, h0⟩
 ·exact (by decide : ∀ k : Fin 3, mk1 k.val < 14) ⟨k1, h1⟩
 ·exact (by decide : ∀ k : Fin 2, mk2 k.val < 14) ⟨k2, h2⟩
 ·exact (by decide : ∀ k : Fin 3, mk3 k.val < 14) ⟨k3, h3⟩
 ·exact (by decide : ∀ k : Fin 3, mk4 k.val < 14) ⟨k4, h4⟩
 ·exact (by decide : ∀ k : Fin 2, mk5 k.val < 14) ⟨k5, h5⟩
end Sch
end Go.Vl
end
section
namespace Go.Vl
namespace Fit
structure Ct where
 d : Int
 f : Int
 ok : Bool
abbrev cz : Ct := ⟨0, 0, false⟩
def ctv (c : Ct) : AV := .agg [.int c.d, .int c.f, .bool c.ok]
def tr (A : Au) (i k : Nat) : Int := (A.next.getD i []).getD k (-1)
inductive Al (A : Au) (sz : List Int) : Nat → List Nat → Int → Int → Prop
 | done {i : Nat} (h : A.final.getD i false = true) : Al A sz i [] 0 0
 | keep {i k : Nat} {ks : List Nat} {d f : Int} (h : 0 ≤ tr A i k) (r : Al A sz (tr A i k).toNat ks d f) : Al A sz i (k :: ks) d f
 | drop {i k : Nat} {ks : List Nat} {d f : Int} (r : Al A sz i ks d f) : Al A sz i (k :: ks) (d + 1) f
 | fill {i n : Nat} {ks : List Nat} {d f : Int} (h : 0 ≤ tr A i n) (r : Al A sz (tr A i n).toNat ks d f) : Al A sz i ks d (f + sz.getD n 0)
structure Sz (A : Au) (sz : List Int) : Prop where
 lo : ∀ i n, 0 ≤ tr A i n → 1 ≤ sz.getD n 0
 hi : ∀ i n, 0 ≤ tr A i n → sz.getD n 0 ≤ 150
theorem Al.nn {A : Au} {sz : List Int} (hz : Sz A sz) {i : Nat} {ks : List Nat} {d f : Int} (h : Al A sz i ks d f) : 0 ≤ d ∧ d ≤ ks.length ∧ 0 ≤ f := by
 induction h with
 | done h => simp
 | keep h r ih => simp only [List.length_cons]; omega
 | drop r ih => simp only [List.length_cons]; omega
 | fill h r ih => have := hz.lo _ _ h; omega
def Ct.Le (c : Ct) (d f : Int) : Prop := c.ok = true ∧ (c.d < d ∨ (c.d = d ∧ c.f ≤ f))
theorem Ct.Le.trans {c e : Ct} {d f : Int} (h : c.Le e.d e.f) (h2 : e.Le d f) : c.Le d f := ⟨h.1, by have := h.2; have := h2.2; omega⟩
structure Best (A : Au) (sz : List Int) (i : Nat) (ks : List Nat) (c : Ct) : Prop where
 al : c.ok = true → Al A sz i ks c.d c.f
 le : ∀ d f, Al A sz i ks d f → c.Le d f
theorem getD_set (r : List Ct) (i j : Nat) (c : Ct) (hi : i < r.length) : (r.set i c).getD j cz = if i = j then c else r.getD j cz := by
 rw [List.getD_eq_getElem?_getD, List.getD_eq_getElem?_getD, List.getElem?_set]
 split
 ·rename_i h; subst h; simp [hi]
 ·rfl
def sumG (g : Ct → Nat) : List Ct → Nat
 | [] => 0
 | c :: l => g c + sumG g l
theorem sumG_set (g : Ct → Nat) : ∀ (l : List Ct) (i : Nat) (c : Ct), i < l.length → sumG g (l.set i c) + g (l.getD i cz) = sumG g l + g c
 | [], i, c, h => by simp at h
 | a :: l, 0, c, h => by simp only [List.set_cons_zero, sumG, List.getD_cons_zero]; omega
 | a :: l, i + 1, c, h => by
  have := sumG_set g l i c (by simpa using h)
  simp only [List.set_cons_succ, sumG, List.getD_cons_succ]; omega
theorem sumG_le (g : Ct → Nat) (hg : ∀ c, g c ≤ 1) : ∀ l : List Ct, sumG g l ≤ l.length
 | [] => Nat.le_refl _
 | a :: l => by have := sumG_le g hg l; have := hg a; simp only [sumG, List.length_cons]; omega
def low (d : Int) (c : Ct) : Nat := if c.ok = true ∧ c.d ≤ d then 1 else 0
def cnt (d : Int) (r : List Ct) : Nat := sumG (low d) r
theorem cnt_le (d : Int) (r : List Ct) : cnt d r ≤ r.length := sumG_le _ (fun c => by unfold low; split <;> omega) r
def less (a b c d : Int) : Bool := decide (a < c) || (a == c && decide (b < d))
theorem less_iff (a b c d : Int) : less a b c d = true ↔ a < c ∨ (a = c ∧ b < d) := by simp [less]
def betB (r : List Ct) (i : Nat) (d f : Int) : Bool := !((r.getD i cz).ok && !(less d f (r.getD i cz).d (r.getD i cz).f))
def betR (r : List Ct) (i : Nat) (d f : Int) : List Ct := if betB r i d f = true then r.set i ⟨d, f, true⟩ else r
theorem betB_iff (r : List Ct) (i : Nat) (d f : Int) : betB r i d f = true ↔ ((r.getD i cz).ok = true → d < (r.getD i cz).d ∨ (d = (r.getD i cz).d ∧ f < (r.getD i cz).f)) := by
 unfold betB
 cases h : (r.getD i cz).ok
 ·simp
 ·simp [less_iff]
theorem betR_le (r : List Ct) (i : Nat) (d f : Int) (hi : i < r.length) : ((betR r i d f).getD i cz).Le d f := by
 unfold betR
 split
 ·rw [getD_set _ _ _ _ hi, if_pos rfl]; exact ⟨rfl, .inr ⟨rfl, Int.le_refl _⟩⟩
 ·rename_i h
  rw [betB_iff] at h
  refine ⟨Classical.byContradiction fun h2 => h fun h3 => absurd h3 h2, ?_⟩
  have : ¬ (d < (r.getD i cz).d ∨ (d = (r.getD i cz).d ∧ f < (r.getD i cz).f)) := fun h2 => h fun _ => h2
  omega
theorem betR_mono (r : List Ct) (i : Nat) (d f : Int) (hi : i < r.length) (j : Nat) (d' f' : Int) (h : (r.getD j cz).Le d' f') : ((betR r i d f).getD j cz).Le d' f' := by
 by_cases hb : betB r i d f = true
 ·unfold betR
  rw [if_pos hb, getD_set _ _ _ _ hi]
  by_cases e : i = j
  ·rw [if_pos e]
   subst e
   have := (betB_iff _ _ _ _).1 hb h.1
   have := h.2
   exact ⟨rfl, by show d < d' ∨ (d = d' ∧ f ≤ f'); omega⟩
  ·rw [if_neg e]; exact h
 ·unfold betR; rw [if_neg hb]; exact h
structure RI (A : Au) (sz : List Int) (ks : List Nat) (F : Int) (r : List Ct) : Prop where
 len : r.length = A.next.length
 al : ∀ i, i < r.length → (r.getD i cz).ok = true → Al A sz i ks (r.getD i cz).d (r.getD i cz).f
 b : ∀ i, i < r.length → (r.getD i cz).ok = true → (r.getD i cz).f ≤ F + 150 * (cnt (r.getD i cz).d r : Int)
theorem RI.init (A : Au) (sz : List Int) (ks : List Nat) (F : Int) : RI A sz ks F (List.replicate A.next.length cz) := by
 have h0 : ∀ i, (List.replicate A.next.length cz).getD i cz = cz := fun i => by
  rw [List.getD_eq_getElem?_getD, List.getElem?_replicate]; split <;> rfl
 refine ⟨List.length_replicate, fun i hi h => ?_, fun i hi h => ?_⟩ <;> (rw [h0] at h; cases h)
theorem RI.bet {A : Au} {sz : List Int} {ks : List Nat} {F : Int} {r : List Ct} (h : RI A sz ks F r) {i : Nat} {d f : Int} (hi : i < r.length) (hal : Al A sz i ks d f) (hF : f ≤ F + 150 * (cnt d r : Int) + 150) (hb : betB r i d f = true) : RI A sz ks F (r.set i ⟨d, f, true⟩) := by
 rw [betB_iff] at hb
 refine ⟨by rw [List.length_set]; exact h.len, fun j hj hok => ?_, fun j hj hok => ?_⟩
 ·rw [getD_set _ _ _ _ hi] at hok ⊢
  by_cases e : i = j
  ·rw [if_pos e] at hok ⊢; rw [← e]; exact hal
  ·rw [if_neg e] at hok ⊢; exact h.al j (by simpa using hj) hok
 ·rw [getD_set _ _ _ _ hi] at hok ⊢
  by_cases e : i = j
  ·rw [if_pos e] at hok ⊢
   subst e
   have hs := sumG_set (low d) r i ⟨d, f, true⟩ hi
   show f ≤ F + 150 * (cnt d (r.set i ⟨d, f, true⟩) : Int)
   have h1 : low d ⟨d, f, true⟩ = 1 := if_pos ⟨rfl, Int.le_refl _⟩
   rw [h1] at hs
   by_cases h2 : (r.getD i cz).ok = true ∧ (r.getD i cz).d ≤ d
   ·have h3 : low d (r.getD i cz) = 1 := if_pos h2
    rw [h3] at hs
    have h4 := hb h2.1
    have h5 := h.b i hi h2.1
    have h6 : (r.getD i cz).d = d := by omega
    rw [h6] at h5
    unfold cnt at *
    omega
   ·have h3 : low d (r.getD i cz) = 0 := if_neg h2
    rw [h3] at hs
    unfold cnt at *
    omega
  ·rw [if_neg e] at hok ⊢
   have h5 := h.b j (by simpa using hj) hok
   have hs := sumG_set (low (r.getD j cz).d) r i ⟨d, f, true⟩ hi
   generalize r.getD j cz = c at h5 hs
   have h1 : low c.d (r.getD i cz) ≤ low c.d ⟨d, f, true⟩ := by
    unfold low
    split
    ·rename_i h2
     have := hb h2.1
     rw [if_pos ⟨rfl, by show d ≤ c.d; omega⟩]; exact Nat.le_refl _
    ·exact Nat.zero_le _
   unfold cnt at *
   omega
def enc (K : Nat) (c : Ct) : Nat := if c.ok = true then (c.d * 1048576 + c.f).toNat else (K + 1) * 1048576
def meas (K : Nat) (r : List Ct) : Nat := sumG (enc K) r
theorem RI.meas_lt {A : Au} {sz : List Int} (hz : Sz A sz) {ks : List Nat} {F : Int} {r : List Ct} (h : RI A sz ks F r) {i : Nat} {d f : Int} (hi : i < r.length) (hal : Al A sz i ks d f) (hF : f < 1048576) (hb : betB r i d f = true) : meas ks.length (r.set i ⟨d, f, true⟩) < meas ks.length r := by
 rw [betB_iff] at hb
 have hs := sumG_set (enc ks.length) r i ⟨d, f, true⟩ hi
 have hn := hal.nn hz
 have h1 : enc ks.length ⟨d, f, true⟩ = (d * 1048576 + f).toNat := if_pos rfl
 have : enc ks.length ⟨d, f, true⟩ < enc ks.length (r.getD i cz) := by
  rw [h1]
  unfold enc
  split
  ·rename_i h2
   have h3 := hb h2
   have h4 := (h.al i hi h2).nn hz
   omega
  ·omega
 unfold meas
 omega
def Fx (A : Au) (sz : List Int) (r : List Ct) : Prop := ∀ i n, i < A.next.length → 0 ≤ tr A i n → (r.getD (tr A i n).toNat cz).ok = true → (r.getD i cz).Le (r.getD (tr A i n).toNat cz).d ((r.getD (tr A i n).toNat cz).f + sz.getD n 0)
theorem tr_lt {A : Au} (hsh : A.Shape) {i n : Nat} (hi : i < A.next.length) (h : 0 ≤ tr A i n) : (tr A i n).toNat < A.next.length ∧ n < 8 := by
 have hr := hsh.row i hi
 rcases Nat.lt_or_ge n 8 with h8 | h8
 ·have := hsh.ent i hi n h8
  unfold tr at *
  exact ⟨by omega, h8⟩
 ·unfold tr at h
  rw [List.getD_eq_getElem?_getD, List.getElem?_eq_none (by omega)] at h
  simp at h
theorem best_last {A : Au} {sz : List Int} (hsh : A.Shape) {F : Int} {r : List Ct} (h : RI A sz [] F r) (hx : Fx A sz r) (hb : ∀ i, i < A.next.length → A.final.getD i false = true → (r.getD i cz).Le 0 0) : ∀ i, i < A.next.length → Best A sz i [] (r.getD i cz) := by
 have key : ∀ {i : Nat} {ks : List Nat} {d f : Int}, Al A sz i ks d f → ks = [] → i < A.next.length → (r.getD i cz).Le d f := by
  intro i ks d f hal
  induction hal with
  | done h => intro _ hi; exact hb _ hi h
  | keep h r ih => intro e; cases e
  | drop r ih => intro e; cases e
  | fill h r ih =>
   intro e hi
   have h1 := ih e (tr_lt hsh hi h).1
   have h2 := hx _ _ hi h h1.1
   refine ⟨h2.1, ?_⟩
   have := h1.2; have := h2.2
   omega
 exact fun i hi => ⟨fun hok => h.al i (by rw [h.len]; exact hi) hok, fun d f hal => key hal rfl hi⟩
def Bs (A : Au) (k : Nat) (nx r : List Ct) (j : Nat) : Prop := ∀ i, i < j → (0 ≤ tr A i k → (nx.getD (tr A i k).toNat cz).ok = true → (r.getD i cz).Le (nx.getD (tr A i k).toNat cz).d (nx.getD (tr A i k).toNat cz).f) ∧
 ((nx.getD i cz).ok = true → (r.getD i cz).Le ((nx.getD i cz).d + 1) (nx.getD i cz).f)
theorem best_step {A : Au} {sz : List Int} (hsh : A.Shape) {F : Int} {k : Nat} {ks : List Nat} {nx r : List Ct} (hnx : ∀ i, i < A.next.length → Best A sz i ks (nx.getD i cz)) (h : RI A sz (k :: ks) F r) (hx : Fx A sz r) (hb : Bs A k nx r A.next.length) : ∀ i, i < A.next.length → Best A sz i (k :: ks) (r.getD i cz) := by
 have key : ∀ {i : Nat} {ls : List Nat} {d f : Int}, Al A sz i ls d f → ls = k :: ks → i < A.next.length → (r.getD i cz).Le d f := by
  intro i ls d f hal
  induction hal with
  | done h => intro e; cases e
  | keep h q ih =>
   intro e hi
   cases e
   have h1 := (hnx _ (tr_lt hsh hi h).1).le _ _ q
   exact ((hb _ hi).1 h h1.1).trans h1
  | drop q ih =>
   intro e hi
   cases e
   have h1 := (hnx _ hi).le _ _ q
   have h2 := (hb _ hi).2 h1.1
   refine ⟨h2.1, ?_⟩
   have := h1.2; have := h2.2
   omega
  | fill h q ih =>
   intro e hi
   have h1 := ih e (tr_lt hsh hi h).1
   have h2 := hx _ _ hi h h1.1
   refine ⟨h2.1, ?_⟩
   have := h1.2; have := h2.2
   omega
 exact fun i hi => ⟨fun hok => h.al i (by rw [h.len]; exact hi) hok, fun d f hal => key hal rfl hi⟩
structure Opt (A : Au) (sz : List Int) (ks : List Nat) (rows : List (List Ct)) : Prop where
 len : rows.length = ks.length + 1
 row : ∀ k, k ≤ ks.length → (rows.getD k []).length = A.next.length
 best : ∀ k, k ≤ ks.length → ∀ i, i < A.next.length → Best A sz i (ks.drop k) ((rows.getD k []).getD i cz)
 b : ∀ k, k ≤ ks.length → ∀ i, i < A.next.length → ((rows.getD k []).getD i cz).ok = true → 0 ≤ ((rows.getD k []).getD i cz).d ∧ ((rows.getD k []).getD i cz).d ≤ ks.length ∧ 0 ≤ ((rows.getD k []).getD i cz).f ∧ ((rows.getD k []).getD i cz).f < 1048576
theorem RI.bnd {A : Au} {sz : List Int} (hz : Sz A sz) {ks : List Nat} {F : Int} {r : List Ct} (h : RI A sz ks F r) (hF : F + 150 * A.next.length < 1048576) (i : Nat) (hi : i < A.next.length) (hok : (r.getD i cz).ok = true) : 0 ≤ (r.getD i cz).d ∧ (r.getD i cz).d ≤ ks.length ∧ 0 ≤ (r.getD i cz).f ∧ (r.getD i cz).f < 1048576 ∧ (r.getD i cz).f ≤ F + 150 * A.next.length := by
 have h1 := (h.al i (by rw [h.len]; exact hi) hok).nn hz
 have h2 := h.b i (by rw [h.len]; exact hi) hok
 have h3 := cnt_le (r.getD i cz).d r
 rw [h.len] at h3
 omega
structure FI (A : Au) (sz : List Int) (ks : List Nat) (F : Int) (r0 : List Ct) (i n : Nat) (r : List Ct) (mo : Bool) : Prop where
 ri : RI A sz ks F r
 mono : ∀ j d f, (r0.getD j cz).Le d f → (r.getD j cz).Le d f
 no : mo = false → r = r0 ∧ ∀ j m, (j < i ∨ (j = i ∧ m < n)) → j < A.next.length → 0 ≤ tr A j m → (r0.getD (tr A j m).toNat cz).ok = true → (r0.getD j cz).Le (r0.getD (tr A j m).toNat cz).d ((r0.getD (tr A j m).toNat cz).f + sz.getD m 0)
 yes : mo = true → meas ks.length r < meas ks.length r0
theorem FI.start {A : Au} {sz : List Int} {ks : List Nat} {F : Int} {r0 : List Ct} (h : RI A sz ks F r0) : FI A sz ks F r0 0 0 r0 false :=
 ⟨h, fun _ _ _ h => h, fun _ => ⟨rfl, fun j m h => by omega⟩, fun h => by cases h⟩
theorem FI.skip {A : Au} {sz : List Int} {ks : List Nat} {F : Int} {r0 : List Ct} {i n : Nat} {r : List Ct} {mo : Bool} (h : FI A sz ks F r0 i n r mo) (hs : 0 ≤ tr A i n → (r.getD (tr A i n).toNat cz).ok = false) : FI A sz ks F r0 i (n + 1) r mo := by
 refine ⟨h.ri, h.mono, fun e => ⟨(h.no e).1, fun j m hj hl h0 hok => ?_⟩, h.yes⟩
 by_cases e2 : j = i ∧ m = n
 ·obtain ⟨rfl, rfl⟩ := e2
  rw [← (h.no e).1, hs h0] at hok; cases hok
 ·exact (h.no e).2 j m (by omega) hl h0 hok
theorem FI.bet {A : Au} {sz : List Int} (hz : Sz A sz) (hsh : A.Shape) {ks : List Nat} {F : Int} (hF : F + 150 * A.next.length + 300 < 1048576) {r0 : List Ct} {i n : Nat} {r : List Ct} {mo : Bool} (h : FI A sz ks F r0 i n r mo) (hi : i < A.next.length) (h0 : 0 ≤ tr A i n) (hok : (r.getD (tr A i n).toNat cz).ok = true) :
 FI A sz ks F r0 i (n + 1) (betR r i (r.getD (tr A i n).toNat cz).d ((r.getD (tr A i n).toNat cz).f + sz.getD n 0)) (bif betB r i (r.getD (tr A i n).toNat cz).d ((r.getD (tr A i n).toNat cz).f + sz.getD n 0) then true else mo) := by
 have ht := tr_lt hsh hi h0
 have hb := h.ri.bnd hz (by omega) _ ht.1 hok
 have hal := Al.fill h0 (h.ri.al _ (by rw [h.ri.len]; exact ht.1) hok)
 have hbb := h.ri.b _ (by rw [h.ri.len]; exact ht.1) hok
 have hhi := hz.hi i n h0
 have hil : i < r.length := by rw [h.ri.len]; exact hi
 generalize hc : (r.getD (tr A i n).toNat cz) = c at hok hb hal hbb ⊢
 cases hbt : betB r i c.d (c.f + sz.getD n 0) with
 | true =>
  have hr : betR r i c.d (c.f + sz.getD n 0) = r.set i ⟨c.d, c.f + sz.getD n 0, true⟩ := if_pos hbt
  have hm := h.ri.meas_lt hz hil hal (by omega) hbt
  refine ⟨by rw [hr]; exact h.ri.bet hil hal (by omega) hbt, fun j d f hl => betR_mono r i _ _ hil j d f (h.mono j d f hl), (fun e => by cases e), fun _ => ?_⟩
  rw [hr]
  cases hmo : mo with
  | true => have := h.yes hmo; omega
  | false => rw [(h.no hmo).1] at hm ⊢; exact hm
 | false =>
  have hr : betR r i c.d (c.f + sz.getD n 0) = r := if_neg (by rw [hbt]; simp)
  have hle := betR_le r i c.d (c.f + sz.getD n 0) hil
  rw [hr] at hle ⊢
  refine ⟨h.ri, h.mono, fun e => ⟨(h.no e).1, fun j m hj hl h0' hok' => ?_⟩, h.yes⟩
  by_cases e2 : j = i ∧ m = n
  ·obtain ⟨rfl, rfl⟩ := e2
   rw [← (h.no e).1, hc]
   exact hle
  ·exact (h.no e).2 j m (by omega) hl h0' hok'
theorem FI.row {A : Au} {sz : List Int} (hsh : A.Shape) {ks : List Nat} {F : Int} {r0 : List Ct} {i : Nat} {r : List Ct} {mo : Bool} (h : FI A sz ks F r0 i 8 r mo) : FI A sz ks F r0 (i + 1) 0 r mo :=
 ⟨h.ri, h.mono, fun e => ⟨(h.no e).1, fun j m hj hl h0 hok => (h.no e).2 j m (by have := (tr_lt hsh hl h0).2; omega) hl h0 hok⟩, h.yes⟩
theorem FI.fin {A : Au} {sz : List Int} {ks : List Nat} {F : Int} {r0 r : List Ct} {n : Nat} (h : FI A sz ks F r0 A.next.length n r false) : r = r0 ∧ Fx A sz r := by
 obtain ⟨rfl, h2⟩ := h.no rfl
 exact ⟨rfl, fun i n hi h0 hok => h2 i n (.inl hi) hi h0 hok⟩
theorem getD_ctv (r : List Ct) (i : Nat) (h : i < r.length) : (r.map ctv)[i]? = some (ctv (r.getD i cz)) := by
 rw [List.getElem?_map, List.getD_eq_getElem?_getD, List.getElem?_eq_getElem h]; rfl
theorem set_ctv (r : List Ct) (i : Nat) (h : i < r.length) (c : Ct) : ((r.map ctv).set i (ctv c))[i]? = some (ctv c) := List.getElem?_set_self (by rw [List.length_map]; exact h)
theorem betR_map (r : List Ct) (i : Nat) (d f : Int) (c : Ct) (h : betB r i d f = true) : ((r.map ctv).set i (ctv c)).set i (ctv ⟨d, f, true⟩) = (betR r i d f).map ctv := by
 rw [List.set_set, ← List.map_set]; unfold betR; rw [if_pos h]
theorem betR_map_no (r : List Ct) (i : Nat) (d f : Int) (h : betB r i d f = false) : r.map ctv = (betR r i d f).map ctv := by
 unfold betR; rw [if_neg (by rw [h]; simp)]
structure Tail (A : Au) (sz : List Int) (ks : List Nat) (m : Nat) (rows : List (List Ct)) : Prop where
 len : m + rows.length = ks.length + 1
 row : ∀ j, j < rows.length → (rows.getD j []).length = A.next.length
 best : ∀ j, j < rows.length → ∀ i, i < A.next.length → Best A sz i (ks.drop (m + j)) ((rows.getD j []).getD i cz)
 b : ∀ j, j < rows.length → ∀ i, i < A.next.length → ((rows.getD j []).getD i cz).ok = true → 0 ≤ ((rows.getD j []).getD i cz).d ∧ ((rows.getD j []).getD i cz).d ≤ ks.length ∧ 0 ≤ ((rows.getD j []).getD i cz).f ∧ ((rows.getD j []).getD i cz).f ≤ 4800 * ((ks.length : Int) + 1 - m - j)
theorem RI.betR {A : Au} {sz : List Int} {ks : List Nat} {F : Int} {r : List Ct} (h : RI A sz ks F r) {i : Nat} {d f : Int} (hi : i < A.next.length) (hal : Al A sz i ks d f) (hF : f ≤ F) : RI A sz ks F (betR r i d f) := by
 unfold Fit.betR
 split
 ·rename_i hb; exact h.bet (by rw [h.len]; exact hi) hal (by omega) hb
 ·exact h
theorem Bs.next {A : Au} {k : Nat} {nx r r' : List Ct} {i : Nat} (h : Bs A k nx r i) (hm : ∀ j d f, (r.getD j cz).Le d f → (r'.getD j cz).Le d f) (h1 : 0 ≤ tr A i k → (nx.getD (tr A i k).toNat cz).ok = true → (r'.getD i cz).Le (nx.getD (tr A i k).toNat cz).d (nx.getD (tr A i k).toNat cz).f)
 (h2 : (nx.getD i cz).ok = true → (r'.getD i cz).Le ((nx.getD i cz).d + 1) (nx.getD i cz).f) : Bs A k nx r' (i + 1) := by
 intro j hj
 rcases Nat.lt_or_ge j i with h3 | h3
 ·exact ⟨fun a b => hm _ _ _ ((h j h3).1 a b), fun a => hm _ _ _ ((h j h3).2 a)⟩
 ·obtain rfl : j = i := by omega
  exact ⟨h1, h2⟩
theorem Bs.mono {A : Au} {k : Nat} {nx r r' : List Ct} {i : Nat} (h : Bs A k nx r i) (hm : ∀ j d f, (r.getD j cz).Le d f → (r'.getD j cz).Le d f) : Bs A k nx r' i :=
 fun j hj => ⟨fun a b => hm _ _ _ ((h j hj).1 a b), fun a => hm _ _ _ ((h j hj).2 a)⟩
theorem Tail.last {A : Au} {sz : List Int} (hz : Sz A sz) (hsh : A.Shape) (hn : A.next.length ≤ 32) (ks : List Nat) {r : List Ct} (h : RI A sz [] 0 r) (hx : Fx A sz r) (hb : ∀ i, i < A.next.length → A.final.getD i false = true → (r.getD i cz).Le 0 0) : Tail A sz ks ks.length [r] := by
 have hbest := best_last hsh h hx hb
 refine ⟨rfl, fun j hj => ?_, fun j hj i hi => ?_, fun j hj i hi hok => ?_⟩
 ·obtain rfl : j = 0 := by simpa using hj
  exact h.len
 ·obtain rfl : j = 0 := by simpa using hj
  rw [List.drop_of_length_le (by omega)]
  exact hbest i hi
 ·obtain rfl : j = 0 := by simpa using hj
  have := h.bnd hz (by omega) i hi hok
  simp only [List.getD_cons_zero, List.length_nil] at this ⊢
  omega
theorem Tail.step {A : Au} {sz : List Int} (hz : Sz A sz) (hsh : A.Shape) (hn : A.next.length ≤ 32) {ks : List Nat} (hks : ks.length ≤ 64) {m k : Nat} {rows : List (List Ct)} (ht : Tail A sz ks (m + 1) rows) (hm : m < ks.length) (hk : ks.drop m = k :: ks.drop (m + 1)) {r : List Ct} (h : RI A sz (k :: ks.drop (m + 1)) (4800 * ((ks.length : Int) - m)) r) (hx : Fx A sz r) (hb : Bs A k (rows.getD 0 []) r A.next.length) : Tail A sz ks m (r :: rows) := by
 have hl := ht.len
 have h0 : 0 < rows.length := by omega
 have hbest := best_step hsh (fun i hi => by have := ht.best 0 h0 i hi; rwa [Nat.add_zero] at this) h hx hb
 refine ⟨by rw [List.length_cons]; omega, fun j hj => ?_, fun j hj i hi => ?_, fun j hj i hi hok => ?_⟩
 ·cases j with
  | zero => exact h.len
  | succ j => exact ht.row j (by simpa using hj)
 ·cases j with
  | zero => rw [Nat.add_zero, hk]; exact hbest i hi
  | succ j =>
   have := ht.best j (by simpa using hj) i hi
   rwa [show m + 1 + j = m + (j + 1) from by omega] at this
 ·cases j with
  | zero =>
   have := h.bnd hz (by omega) i hi hok
   simp only [List.getD_cons_zero, List.length_cons, List.length_drop] at this ⊢
   omega
  | succ j =>
   have := ht.b j (by simpa using hj) i hi hok
   simp only [List.getD_cons_succ] at this ⊢
   omega
theorem Tail.opt {A : Au} {sz : List Int} {ks : List Nat} (hks : ks.length ≤ 64) {rows : List (List Ct)} (h : Tail A sz ks 0 rows) : Opt A sz ks rows := by
 have hl := h.len
 refine ⟨by omega, fun k hk => h.row k (by omega), fun k hk i hi => ?_, fun k hk i hi hok => ?_⟩
 ·have := h.best k (by omega) i hi
  rwa [Nat.zero_add] at this
 ·have := h.b k (by omega) i hi hok
  omega
abbrev Sv3 := Option Addr × Nat × Nat
abbrev slv (u : Sv3) : Value := .slice u.1 u.2.1 u.2.2
def asSl : Value → Value
 | .slice a n c => .slice a n c
 | _ => .slice none 0 0
theorem asSl_ex (v : Value) : ∃ u : Sv3, asSl v = slv u := by
 cases v <;> first | exact ⟨(_, _, _), rfl⟩ | exact ⟨(none, 0, 0), rfl⟩
theorem okSl (v : Value) : (AV.lit (asSl v)).okc = true := by cases v <;> rfl
theorem clSl (v : Value) : (AV.lit (asSl v)).cells.length = 1 := by cases v <;> rfl
abbrev rowv (r : List Ct) : AV := .sl 3 (r.map ctv)
abbrev zrow (L : Nat) : List AV := List.replicate L (ctv cz)
theorem zrow_eq (L : Nat) : zrow L = (List.replicate L cz).map ctv := by rw [List.map_replicate]
end Fit
end Go.Vl
end
section
namespace Go.Vl
namespace Fit
open Sch
def cel (rows : List (List Ct)) (k i : Nat) : Ct := (rows.getD k []).getD i cz
def goesB (rows : List (List Ct)) (i k : Nat) (d f : Int) (to : Int) (nk : Nat) : Bool :=
 if to < 0 ∨ (cel rows nk to.toNat).ok = false then false else (cel rows nk to.toNat).d + d == (cel rows k i).d && (cel rows nk to.toNat).f + f == (cel rows k i).f
theorem goesB_iff {rows : List (List Ct)} {i k : Nat} {d f : Int} {to : Int} {nk : Nat} : goesB rows i k d f to nk = true ↔ 0 ≤ to ∧ (cel rows nk to.toNat).ok = true ∧ (cel rows nk to.toNat).d + d = (cel rows k i).d ∧ (cel rows nk to.toNat).f + f = (cel rows k i).f := by
 unfold goesB
 split
 ·rename_i h
  constructor
  ·intro h2; cases h2
  ·rintro ⟨h1, h2, _⟩
   rcases h with h | h
   ·omega
   ·rw [h] at h2; cases h2
 ·rename_i h
  rw [Bool.and_eq_true, beq_iff_eq, beq_iff_eq]
  constructor
  ·intro h2; exact ⟨by omega, by cases h3 : (cel rows nk to.toNat).ok; exact absurd (.inr h3) h; rfl, h2.1, h2.2⟩
  ·intro h2; exact ⟨h2.2.2.1, h2.2.2.2⟩
def fillP (A : Au) (sz : List Int) (rows : List (List Ct)) (i k n : Nat) : Bool := decide (0 ≤ tr A i n) && goesB rows i k 0 (sz.getD n 0) (tr A i n) k
def fillI (A : Au) (sz : List Int) (rows : List (List Ct)) (i k : Nat) : Int := match firstN (fillP A sz rows i k) 8 0 with
 | some n => (n : Int)
 | none => -1
inductive Tr (A : Au) (sz : List Int) (ks : List Nat) (rows : List (List Ct)) : Nat → Nat → Nat → List Nat → List Int → Prop
 | stop {i k : Nat} (h : (cel rows k i).d = 0 ∧ (cel rows k i).f = 0) (hk : k = ks.length) : Tr A sz ks rows 0 i k [] []
 | keep {m i k : Nat} {w : List Nat} {fr : List Int} (hk : k < ks.length) (h : goesB rows i k 0 0 (tr A i (ks.getD k 0)) (k + 1) = true) (r : Tr A sz ks rows m (tr A i (ks.getD k 0)).toNat (k + 1) w fr) : Tr A sz ks rows (m + 1) i k (ks.getD k 0 :: w) ((k : Int) :: fr)
 | fill {m i k n : Nat} {w : List Nat} {fr : List Int} (hs : ¬ ((cel rows k i).d = 0 ∧ (cel rows k i).f = 0 ∧ k = ks.length)) (hg : ¬ (k < ks.length ∧ goesB rows i k 0 0 (tr A i (ks.getD k 0)) (k + 1) = true)) (hn : firstN (fillP A sz rows i k) 8 0 = some n) (r : Tr A sz ks rows m (tr A i n).toNat k w fr) : Tr A sz ks rows (m + 1) i k (n :: w) (-1 :: fr)
 | drop {m i k : Nat} {w : List Nat} {fr : List Int} (hk : k < ks.length) (hg : goesB rows i k 0 0 (tr A i (ks.getD k 0)) (k + 1) = false) (hn : firstN (fillP A sz rows i k) 8 0 = none) (hc : (cel rows (k + 1) i).ok = true ∧ (cel rows (k + 1) i).d + 1 = (cel rows k i).d ∧ (cel rows (k + 1) i).f = (cel rows k i).f) (r : Tr A sz ks rows m i (k + 1) w fr) : Tr A sz ks rows (m + 1) i k w fr
theorem firstN_some {p : Nat → Bool} : ∀ {f a n : Nat}, firstN p f a = some n → p n = true ∧ a ≤ n ∧ n < a + f
 | 0, a, n, h => by cases h
 | f + 1, a, n, h => by
  simp only [firstN] at h
  split at h
  ·rename_i hp; obtain rfl := Option.some.inj h; exact ⟨hp, Nat.le_refl _, by omega⟩
  ·have := firstN_some h; exact ⟨this.1, by omega, by omega⟩
theorem firstN_none {p : Nat → Bool} : ∀ {f a : Nat}, firstN p f a = none → ∀ n, a ≤ n → n < a + f → p n = false
 | 0, a, h, n, h1, h2 => by omega
 | f + 1, a, h, n, h1, h2 => by
  simp only [firstN] at h
  split at h
  ·cases h
  ·rename_i hp
   by_cases e : n = a
   ·subst e; exact Bool.eq_false_iff.2 hp
   ·exact firstN_none h n (by omega) (by omega)
section
variable {A : Au} {sz : List Int} {ks : List Nat} {rows : List (List Ct)}
theorem Opt.cel_best (ho : Opt A sz ks rows) {k i : Nat} (hk : k ≤ ks.length) (hi : i < A.next.length) : Best A sz i (ks.drop k) (cel rows k i) := ho.best k hk i hi
theorem drop_cons {ks : List Nat} {k : Nat} (h : k < ks.length) : ks.drop k = ks.getD k 0 :: ks.drop (k + 1) := by
 rw [List.getD_eq_getElem?_getD, List.getElem?_eq_getElem h]; exact List.drop_eq_getElem_cons h
theorem Opt.cases (hsh : A.Shape) (ho : Opt A sz ks rows) {k i : Nat} (hk : k ≤ ks.length) (hi : i < A.next.length) (hok : (cel rows k i).ok = true) :
 ((cel rows k i).d = 0 ∧ (cel rows k i).f = 0 ∧ k = ks.length) ∨ (k < ks.length ∧ goesB rows i k 0 0 (tr A i (ks.getD k 0)) (k + 1) = true) ∨ (∃ n, n < 8 ∧ fillP A sz rows i k n = true) ∨
 (k < ks.length ∧ (cel rows (k + 1) i).ok = true ∧ (cel rows (k + 1) i).d + 1 = (cel rows k i).d ∧ (cel rows (k + 1) i).f = (cel rows k i).f) := by
 have hb := ho.cel_best hk hi
 have hal := hb.al hok
 generalize hls : ks.drop k = ls at hal
 generalize hd : (cel rows k i).d = d at hal
 generalize hf : (cel rows k i).f = f at hal
 cases hal with
 | done h =>
  refine .inl ⟨rfl, rfl, ?_⟩
  have := congrArg List.length hls
  rw [List.length_drop, List.length_nil] at this; omega
 | @keep _ q qs _ _ h r =>
  have hkl : k < ks.length := by
   have := congrArg List.length hls
   rw [List.length_drop, List.length_cons] at this; omega
  rw [drop_cons hkl] at hls
  obtain ⟨hq, hqs⟩ := List.cons.inj hls
  subst hq; subst hqs
  have ht := (tr_lt hsh hi h).1
  have hb2 := ho.cel_best (k := k + 1) hkl ht
  have h1 := hb2.le _ _ r
  have h2 := hb.le _ _ (by rw [drop_cons hkl]; exact .keep h (hb2.al h1.1))
  have a := h1.2
  have b := h2.2
  exact .inr (.inl ⟨hkl, goesB_iff.2 ⟨h, h1.1, by omega, by omega⟩⟩)
 | @drop _ q qs d' _ r =>
  have hkl : k < ks.length := by
   have := congrArg List.length hls
   rw [List.length_drop, List.length_cons] at this; omega
  rw [drop_cons hkl] at hls
  obtain ⟨hq, hqs⟩ := List.cons.inj hls
  subst hq; subst hqs
  have hb2 := ho.cel_best (k := k + 1) hkl hi
  have h1 := hb2.le _ _ r
  have h2 := hb.le _ _ (by rw [drop_cons hkl]; exact .drop (hb2.al h1.1))
  have a := h1.2
  have b := h2.2
  exact .inr (.inr (.inr ⟨hkl, h1.1, by omega, by omega⟩))
 | @fill _ n _ _ f' h r =>
  subst hls
  have ht := tr_lt hsh hi h
  have hb2 := ho.cel_best hk ht.1
  have h1 := hb2.le _ _ r
  have h2 := hb.le _ _ (.fill h (hb2.al h1.1))
  have a := h1.2
  have b := h2.2
  refine .inr (.inr (.inl ⟨n, ht.2, ?_⟩))
  unfold fillP
  rw [Bool.and_eq_true, decide_eq_true_eq]
  exact ⟨h, goesB_iff.2 ⟨h, h1.1, by omega, by omega⟩⟩
theorem Opt.ex (hsh : A.Shape) (hz : Sz A sz) (ho : Opt A sz ks rows) : ∀ (q g k i : Nat), k ≤ ks.length → i < A.next.length → (cel rows k i).ok = true → ks.length - k ≤ q → (cel rows k i).f.toNat ≤ g → ∃ m w fr, Tr A sz ks rows m i k w fr := by
 intro q
 induction q using Nat.strongRecOn with
 | _ q ihq =>
 intro g
 induction g using Nat.strongRecOn with
 | _ g ihg =>
 intro k i hk hi hok hq hg
 by_cases hst : (cel rows k i).d = 0 ∧ (cel rows k i).f = 0 ∧ k = ks.length
 ·exact ⟨0, [], [], .stop ⟨hst.1, hst.2.1⟩ hst.2.2⟩
 by_cases hkp : k < ks.length ∧ goesB rows i k 0 0 (tr A i (ks.getD k 0)) (k + 1) = true
 ·have h2 := goesB_iff.1 hkp.2
  have ht := (tr_lt hsh hi h2.1).1
  have hkk := hkp.1
  obtain ⟨m, w, fr, h⟩ := ihq (q - 1) (by omega) _ (k + 1) _ hkp.1 ht h2.2.1 (by omega) (Nat.le_refl _)
  exact ⟨_, _, _, .keep hkp.1 hkp.2 h⟩
 cases hfn : firstN (fillP A sz rows i k) 8 0 with
 | some n =>
  have hp := (firstN_some hfn).1
  unfold fillP at hp
  rw [Bool.and_eq_true, decide_eq_true_eq] at hp
  have h2 := goesB_iff.1 hp.2
  have ht := (tr_lt hsh hi hp.1).1
  have h3 := hz.lo _ _ hp.1
  have h4 := (ho.cel_best hk ht).al h2.2.1 |>.nn hz
  obtain ⟨m, w, fr, h⟩ := ihg _ (by omega) k _ hk ht h2.2.1 hq (Nat.le_refl _)
  exact ⟨_, _, _, .fill hst hkp hfn h⟩
 | none =>
  rcases ho.cases hsh hk hi hok with h1 | h1 | ⟨n, hn, h⟩ | ⟨h1, h2, h3, h4⟩
  ·exact absurd h1 hst
  ·exact absurd h1 hkp
  ·rw [firstN_none hfn n (Nat.zero_le _) (by omega)] at h; cases h
  ·obtain ⟨m, w, fr, h⟩ := ihq (q - 1) (by omega) _ (k + 1) i h1 hi h2 (by omega) (Nat.le_refl _)
   exact ⟨_, _, _, .drop h1 (by cases hg : goesB rows i k 0 0 (tr A i (ks.getD k 0)) (k + 1); rfl; exact absurd ⟨h1, hg⟩ hkp) hfn ⟨h2, h3, h4⟩ h⟩
theorem Tr.inv_stop {m i k : Nat} {w : List Nat} {fr : List Int} (h : Tr A sz ks rows m i k w fr) (hs : (cel rows k i).d = 0 ∧ (cel rows k i).f = 0) (hk : k = ks.length) : w = [] ∧ fr = [] := by
 cases h with
 | stop => exact ⟨rfl, rfl⟩
 | keep h1 => omega
 | fill h1 => exact absurd ⟨hs.1, hs.2, hk⟩ h1
 | drop h1 => omega
theorem Tr.inv_keep {m i k : Nat} {w : List Nat} {fr : List Int} (h : Tr A sz ks rows m i k w fr) (hk : k < ks.length) (hg : goesB rows i k 0 0 (tr A i (ks.getD k 0)) (k + 1) = true) :
 ∃ m' w' fr', m = m' + 1 ∧ w = ks.getD k 0 :: w' ∧ fr = (k : Int) :: fr' ∧ Tr A sz ks rows m' (tr A i (ks.getD k 0)).toNat (k + 1) w' fr' := by
 cases h with
 | stop _ h1 => omega
 | keep _ _ r => exact ⟨_, _, _, rfl, rfl, rfl, r⟩
 | fill _ h1 => exact absurd ⟨hk, hg⟩ h1
 | drop _ h1 => rw [hg] at h1; cases h1
theorem Tr.inv_fill {m i k n : Nat} {w : List Nat} {fr : List Int} (h : Tr A sz ks rows m i k w fr) (hs : ¬ ((cel rows k i).d = 0 ∧ (cel rows k i).f = 0 ∧ k = ks.length)) (hg : ¬ (k < ks.length ∧ goesB rows i k 0 0 (tr A i (ks.getD k 0)) (k + 1) = true)) (hn : firstN (fillP A sz rows i k) 8 0 = some n) :
 ∃ m' w' fr', m = m' + 1 ∧ w = n :: w' ∧ fr = -1 :: fr' ∧ Tr A sz ks rows m' (tr A i n).toNat k w' fr' := by
 cases h with
 | stop h1 h2 => exact absurd ⟨h1.1, h1.2, h2⟩ hs
 | keep h1 h2 => exact absurd ⟨h1, h2⟩ hg
 | fill _ _ h1 r => rw [hn] at h1; obtain rfl := Option.some.inj h1; exact ⟨_, _, _, rfl, rfl, rfl, r⟩
 | drop _ _ h1 => rw [hn] at h1; cases h1
theorem Tr.inv_drop {m i k : Nat} {w : List Nat} {fr : List Int} (h : Tr A sz ks rows m i k w fr) (hs : ¬ ((cel rows k i).d = 0 ∧ (cel rows k i).f = 0 ∧ k = ks.length)) (hg : ¬ (k < ks.length ∧ goesB rows i k 0 0 (tr A i (ks.getD k 0)) (k + 1) = true)) (hn : firstN (fillP A sz rows i k) 8 0 = none) :
 k < ks.length ∧ (cel rows (k + 1) i).ok = true ∧ ∃ m', m = m' + 1 ∧ Tr A sz ks rows m' i (k + 1) w fr := by
 cases h with
 | stop h1 h2 => exact absurd ⟨h1.1, h1.2, h2⟩ hs
 | keep h1 h2 => exact absurd ⟨h1, h2⟩ hg
 | fill _ _ h1 => rw [hn] at h1; cases h1
 | drop h1 _ _ h2 r => exact ⟨h1, h2.1, _, rfl, r⟩
theorem fillP_iff {i k n : Nat} : fillP A sz rows i k n = true ↔ 0 ≤ tr A i n ∧ (cel rows k (tr A i n).toNat).ok = true ∧ (cel rows k (tr A i n).toNat).d = (cel rows k i).d ∧ (cel rows k (tr A i n).toNat).f + sz.getD n 0 = (cel rows k i).f := by
 unfold fillP
 rw [Bool.and_eq_true, decide_eq_true_eq, goesB_iff, Int.add_zero]
 exact ⟨fun h => h.2, fun h => ⟨h.1, h⟩⟩
theorem Tr.bound (hsh : A.Shape) (hz : Sz A sz) (ho : Opt A sz ks rows) {m i k : Nat} {w : List Nat} {fr : List Int} (h : Tr A sz ks rows m i k w fr) : k ≤ ks.length → i < A.next.length → (cel rows k i).ok = true → m ≤ (ks.length - k) + (cel rows k i).f.toNat ∧ w.length ≤ m ∧ fr.length = w.length := by
 induction h with
 | stop => intro _ _ _; simp
 | keep hk hg r ih =>
  intro _ hi hok
  have h2 := goesB_iff.1 hg
  have := ih hk (tr_lt hsh hi h2.1).1 h2.2.1
  simp only [List.length_cons]
  omega
 | fill hs hg hn r ih =>
  intro hk hi hok
  have h2 := fillP_iff.1 (firstN_some hn).1
  have ht := (tr_lt hsh hi h2.1).1
  have := ih hk ht h2.2.1
  have h3 := hz.lo _ _ h2.1
  have h4 := (ho.cel_best hk ht).al h2.2.1 |>.nn hz
  simp only [List.length_cons]
  omega
 | drop hk hg hn hc r ih =>
  intro _ hi hok
  have := ih hk hi hc.1
  omega
theorem Opt.drop_f (hsh : A.Shape) (ho : Opt A sz ks rows) {k i : Nat} (hk : k ≤ ks.length) (hi : i < A.next.length) (hok : (cel rows k i).ok = true) (hs : ¬ ((cel rows k i).d = 0 ∧ (cel rows k i).f = 0 ∧ k = ks.length)) (hg : ¬ (k < ks.length ∧ goesB rows i k 0 0 (tr A i (ks.getD k 0)) (k + 1) = true)) (hn : firstN (fillP A sz rows i k) 8 0 = none) : (cel rows (k + 1) i).f = (cel rows k i).f := by
 rcases ho.cases hsh hk hi hok with h1 | h1 | ⟨n, h2, h⟩ | ⟨h1, h2, h3, h4⟩
 ·exact absurd h1 hs
 ·exact absurd h1 hg
 ·rw [firstN_none hn n (Nat.zero_le _) (by omega)] at h; cases h
 ·exact h4
end
end Fit
end Go.Vl
end
section
namespace Go.Vl
namespace Fit
open Sch
structure Gf (as_ : List Au) (fin : List Int) (t : Nat) : Prop where
 sh : (as_.getD t dA).Shape
 n32 : (as_.getD t dA).next.length ≤ 32
 sz : Sz (as_.getD t dA) fin
 col : ∀ i m, 0 ≤ tr (as_.getD t dA) i m → m < fin.length
 at_ : (as_.map Au.avx)[t]? = some (Au.avx (as_.getD t dA))
theorem tr_row {A : Au} {i n : Nat} (h : 0 ≤ tr A i n) : i < A.next.length := by
 rcases Nat.lt_or_ge i A.next.length with h1 | h1
 ·exact h1
 ·unfold tr at h
  rw [List.getD_eq_getElem?_getD (l := A.next), List.getElem?_eq_none h1] at h
  simp at h
theorem gf_of {ts : List Tp} {as_ : List Au} (hg : Sch.Good ts as_) {fin : List Int} (hl : fin.length = ts.length) (hp : ∀ n ∈ fin, 1 ≤ n ∧ n ≤ 150) {t : Nat} (ht : t < ts.length) : Gf as_ fin t := by
 have hal := hg.has
 have hm : as_.getD t dA ∈ as_ := by
  rw [List.getD_eq_getElem?_getD, List.getElem?_eq_getElem (by omega)]; exact List.getElem_mem _
 obtain ⟨k, hk, _, h2, h3⟩ := hg.mach t ht
 have hs := hg.sh _ hm
 have hcol : ∀ i m, 0 ≤ tr (as_.getD t dA) i m → m < fin.length := fun i m h => by
  have hi := tr_row h
  have h8 := (tr_lt hs.1 hi h).2
  rw [hl]
  exact hs.2.2 _ (getD_memG [] _ i hi) m h8 h
 have hb : ∀ m, m < fin.length → 1 ≤ fin.getD m 0 ∧ fin.getD m 0 ≤ 150 := fun m hm => by
  rw [List.getD_eq_getElem?_getD, List.getElem?_eq_getElem hm]; exact hp _ (List.getElem_mem _)
 refine ⟨hs.1, ?_, ⟨fun i n h => (hb n (hcol i n h)).1, fun i n h => (hb n (hcol i n h)).2⟩, hcol, ?_⟩
 ·rw [h2]; exact (known k hk).n32
 ·rw [List.getElem?_map, List.getD_eq_getElem?_getD, List.getElem?_eq_getElem (show t < as_.length by omega)]; rfl
end Fit
namespace Sch
theorem any_of {a : List Int} (h : ∀ n ∈ a, 1 ≤ n ∧ n ≤ 150) : (a.any fun n => n == 0 || decide (150 < n)) = false := by
 rw [List.any_eq_false]
 intro n hn
 have := h n hn
 simp; omega
end Sch
end Go.Vl
end
section
namespace Go.Vl
namespace Sch
def idxT (ts : List Tp) (nm : List UInt8) : Int := idxI (fun u => u.name == nm) ts
def rstep (A : Au) (s : Int × Bool) (k : Int) : Int × Bool := (if 0 ≤ k ∧ 0 ≤ s.1 then (A.next.getD s.1.toNat []).getD k.toNat (-1) else s.1, s.2 && decide (0 ≤ k))
def runP (A : Au) (ks : List Int) : Int × Bool := ks.foldl (rstep A) (0, true)
def partsN (g : Nd → Nat → Option Int) (ts : List Tp) : List Nd → Option Int
 | [] => some 0
 | p :: l => if idxT ts p.name < 0 then some 5 else match g p (idxT ts p.name).toNat with
  | none => none
  | some e => if e = 0 then partsN g ts l else some e
def kinds (ts : List Tp) (l : List Nd) : List Int := l.map fun p => idxT ts p.name
def badEnd (A : Au) (s : Int × Bool) : Bool := s.2 && (decide (s.1 < 0) || !(A.final.getD s.1.toNat false))
def faultN (ts : List Tp) (as_ : List Au) : Nat → Nd → Nat → Option Int
 | 0, _, _ => none
 | f + 1, d, t =>
  if ts.length ≤ t ∨ 1000 < d.parts.length ∨ 1000 < d.attrs.length then none
  else if d.name = [] then some (if d.attrs ≠ [] ∨ d.parts ≠ [] ∨ d.text = [] then 4 else 0)
  else if d.text ≠ [] then some 4
  else match d.attrs with
   | a :: _ => if ((ts.getD t dT).attrs.any fun s => a.1 == s) = true then none else some 4
   | [] => if badEnd (as_.getD t dA) (runP (as_.getD t dA) (kinds ts d.parts)) = true then some 9 else partsN (faultN ts as_ f) ts d.parts
theorem faultN_mk (ts : List Tp) (as_ : List Au) (f : Nat) (nm : List UInt8) (at_ : List Dc) (tx : List UInt8) (ps : List Nd) (t : Nat) : faultN ts as_ (f + 1) (.mk nm at_ tx ps) t =
 if ts.length ≤ t ∨ 1000 < ps.length ∨ 1000 < at_.length then none
 else if nm = [] then some (if at_ ≠ [] ∨ ps ≠ [] ∨ tx = [] then 4 else 0)
 else if tx ≠ [] then some 4
 else match at_ with
  | a :: _ => if ((ts.getD t dT).attrs.any fun s => a.1 == s) = true then none else some 4
  | [] => if badEnd (as_.getD t dA) (runP (as_.getD t dA) (kinds ts ps)) = true then some 9 else partsN (faultN ts as_ f) ts ps := rfl
theorem runP_take (A : Au) (ks : List Int) (i : Nat) (h : i < ks.length) : runP A (ks.take (i + 1)) = rstep A (runP A (ks.take i)) (ks.getD i 0) := by
 unfold runP; rw [take_getDG 0 ks i h, List.foldl_append]; rfl
theorem runP_rng {A : Au} (hsh : A.Shape) : ∀ (ks : List Int), (∀ k ∈ ks, k < 8) → -1 ≤ (runP A ks).1 ∧ (runP A ks).1 < A.next.length := by
 intro ks
 have key : ∀ (l : List Int) (s : Int × Bool), (∀ k ∈ l, k < 8) → -1 ≤ s.1 ∧ s.1 < A.next.length → -1 ≤ (l.foldl (rstep A) s).1 ∧ (l.foldl (rstep A) s).1 < A.next.length := by
  intro l
  induction l with
  | nil => intro s _ h; exact h
  | cons a l ih =>
   intro s hk h
   refine ih _ (fun k hk' => hk k (List.mem_cons_of_mem _ hk')) ?_
   unfold rstep
   dsimp only
   split
   ·rename_i h1
    have ha := hk a List.mem_cons_self
    have := hsh.ent s.1.toNat (by omega) a.toNat (by omega)
    omega
   ·exact h
 intro h
 exact key ks (0, true) h ⟨by decide, by have := hsh.pos; show (0 : Int) < _; omega⟩
theorem idxT_lt (ts : List Tp) (nm : List UInt8) : -1 ≤ idxT ts nm ∧ idxT ts nm < ts.length := ⟨idxI_ge _ _, idxI_lt _ _⟩
theorem kinds_len (ts : List Tp) (l : List Nd) : (kinds ts l).length = l.length := by unfold kinds; rw [List.length_map]
theorem kinds_get (ts : List Tp) (l : List Nd) (i : Nat) (h : i < l.length) : (kinds ts l).getD i 0 = idxT ts (l.getD i Nd.dflt).name := by
 unfold kinds
 rw [List.getD_eq_getElem?_getD, List.getElem?_map, List.getD_eq_getElem?_getD, List.getElem?_eq_getElem h]; rfl
theorem kinds_lt {ts : List Tp} (h : ts.length ≤ 8) (l : List Nd) : ∀ k ∈ kinds ts l, k < 8 := fun k hk => by
 obtain ⟨p, _, rfl⟩ := List.mem_map.1 hk
 have := (idxT_lt ts p.name).2
 omega
theorem partsN_drop {g : Nd → Nat → Option Int} {ts : List Tp} {l : List Nd} {i : Nat} (h : i < l.length) : partsN g ts (l.drop i) = if idxT ts (l.getD i Nd.dflt).name < 0 then some 5 else match g (l.getD i Nd.dflt) (idxT ts (l.getD i Nd.dflt).name).toNat with
 | none => none
 | some e => if e = 0 then partsN g ts (l.drop (i + 1)) else some e := by
 rw [List.getD_eq_getElem?_getD, List.getElem?_eq_getElem h, List.drop_eq_getElem_cons h]; rfl
def treeFault (ts : List Tp) (as_ : List Au) (f : Nat) (d : Nd) : Option Int := if d.name ≠ (ts.getD 0 dT).name then some 5 else faultN ts as_ f d 0
theorem Good.attl {ts : List Tp} {as_ : List Au} (h : Good ts as_) (i : Nat) : (ts.getD i dT).attrs.length ≤ 1000 := by
 rcases Nat.lt_or_ge i ts.length with h1 | h1
 ·have := h.attrs i h1
  unfold attrsB at this
  simp only [Bool.and_eq_true, decide_eq_true_eq] at this
  omega
 ·rw [List.getD_eq_getElem?_getD, List.getElem?_eq_none h1]; exact Nat.zero_le _
end Sch
end Go.Vl
end
section
namespace Go.Proofs.YtphlkdbglpcikaaGreatDoor.Y
open Go.Vl
theorem ty9 : Ty Tryz.prog 9 1 16 (.string ⟨#[]⟩) := Ty.of (by kernel_rfl)
theorem ty28 : Ty Tryz.prog 28 3 56 (.agg #[.string ⟨#[]⟩, .string ⟨#[]⟩, .slice none 0 0]) := Ty.of (by kernel_rfl)
theorem ty3 : Ty Tryz.prog 3 1 8 (.int .i64 0) := Ty.of (by kernel_rfl)
theorem ty4 : Ty Tryz.prog 4 1 1 (.bool false) := Ty.of (by kernel_rfl)
theorem ty22 : Ty Tryz.prog 22 1 24 (.slice none 0 0) := Ty.of (by kernel_rfl)
theorem ty23 : Ty Tryz.prog 23 1 24 (.slice none 0 0) := Ty.of (by kernel_rfl)
theorem ty26 : Ty Tryz.prog 26 1 24 (.slice none 0 0) := Ty.of (by kernel_rfl)
theorem ty32 : Ty Tryz.prog 32 1 24 (.slice none 0 0) := Ty.of (by kernel_rfl)
theorem ty33 : Ty Tryz.prog 33 1 24 (.slice none 0 0) := Ty.of (by kernel_rfl)
theorem ty35 : Ty Tryz.prog 35 4 80 (.agg #[.string ⟨#[]⟩, .slice none 0 0, .string ⟨#[]⟩, .slice none 0 0]) := Ty.of (by kernel_rfl)
theorem ty48 : Ty Tryz.prog 48 2 32 (.agg #[.string ⟨#[]⟩, .string ⟨#[]⟩]) := Ty.of (by kernel_rfl)
theorem ty59 : Ty Tryz.prog 59 1 24 (.slice none 0 0) := Ty.of (by kernel_rfl)
theorem ty60 : Ty Tryz.prog 60 1 24 (.slice none 0 0) := Ty.of (by kernel_rfl)
theorem ty62 : Ty Tryz.prog 62 2 48 (.agg #[.slice none 0 0, .slice none 0 0]) := Ty.of (by kernel_rfl)
theorem ty74 : Ty Tryz.prog 74 1 24 (.slice none 0 0) := Ty.of (by kernel_rfl)
theorem ty174 : Ty Tryz.prog 174 1 8 (.pointer none) := Ty.of (by kernel_rfl)
theorem ty175 : Ty Tryz.prog 175 1 24 (.slice none 0 0) := Ty.of (by kernel_rfl)
theorem ty177 : Ty Tryz.prog 177 2 32 (.agg #[.pointer none, .slice none 0 0]) := Ty.of (by kernel_rfl)
theorem ty5 : Ty Tryz.prog 5 1 1 (.int .u8 0) := Ty.of (by kernel_rfl)
theorem ty54 : Ty Tryz.prog 54 1 24 (.slice none 0 0) := Ty.of (by kernel_rfl)
theorem ty56 : Ty Tryz.prog 56 3 40 (.agg #[.int .i64 0, .int .i64 0, .slice none 0 0]) := Ty.of (by kernel_rfl)
theorem ty136 : Ty Tryz.prog 136 3 56 (.agg #[.slice none 0 0, .slice none 0 0, .bool false]) := Ty.of (by kernel_rfl)
theorem ty97 : Ty Tryz.prog 97 1 24 (.slice none 0 0) := Ty.of (by kernel_rfl)
theorem ty99 : Ty Tryz.prog 99 2 48 (.agg #[.slice none 0 0, .slice none 0 0]) := Ty.of (by kernel_rfl)
theorem ty134 : Ty Tryz.prog 134 5 104 (.agg #[.slice none 0 0, .slice none 0 0, .slice none 0 0, .slice none 0 0, .bool false]) := Ty.of (by kernel_rfl)
theorem ty138 : Ty Tryz.prog 138 1 8 (.map none) := Ty.of (by kernel_rfl)
theorem ty147 : Ty Tryz.prog 147 8 64 (.agg #[.int .i64 0, .int .i64 0, .int .i64 0, .int .i64 0, .int .i64 0, .int .i64 0, .int .i64 0, .int .i64 0]) := Ty.of (by kernel_rfl)
theorem ty94 : Ty Tryz.prog 94 2 24 (.agg #[.string ⟨#[]⟩, .bool false]) := Ty.of (by kernel_rfl)
theorem ty76 : Ty Tryz.prog 76 3 72 (.agg #[.slice none 0 0, .slice none 0 0, .slice none 0 0]) := Ty.of (by kernel_rfl)
theorem ty81 : Ty Tryz.prog 81 2 16 (.agg #[.int .i64 0, .int .i64 0]) := Ty.of (by kernel_rfl)
theorem ty82 : Ty Tryz.prog 82 3 24 (.agg #[.int .i64 0, .int .i64 0, .bool false]) := Ty.of (by kernel_rfl)
theorem ty83 : Ty Tryz.prog 83 1 24 (.slice none 0 0) := Ty.of (by kernel_rfl)
theorem ty84 : Ty Tryz.prog 84 1 24 (.slice none 0 0) := Ty.of (by kernel_rfl)
theorem ty71 : Ty Tryz.prog 71 1 8 (.pointer none) := Ty.of (by kernel_rfl)
theorem ty86 : Ty Tryz.prog 86 5 104 (.agg #[.pointer none, .slice none 0 0, .slice none 0 0, .slice none 0 0, .slice none 0 0]) := Ty.of (by kernel_rfl)
theorem ag9 : IsAgg Tryz.prog 9 false := ⟨_, Tryz.underlying9, rfl⟩
theorem ag28 : IsAgg Tryz.prog 28 true := ⟨_, Tryz.underlying28, rfl⟩
theorem ag3 : IsAgg Tryz.prog 3 false := ⟨_, Tryz.underlying3, rfl⟩
theorem ag4 : IsAgg Tryz.prog 4 false := ⟨_, Tryz.underlying4, rfl⟩
theorem ag22 : IsAgg Tryz.prog 22 false := ⟨_, Tryz.underlying22, rfl⟩
theorem ag23 : IsAgg Tryz.prog 23 false := ⟨_, Tryz.underlying23, rfl⟩
theorem ag26 : IsAgg Tryz.prog 26 false := ⟨_, Tryz.underlying26, rfl⟩
theorem ag32 : IsAgg Tryz.prog 32 false := ⟨_, Tryz.underlying32, rfl⟩
theorem ag33 : IsAgg Tryz.prog 33 false := ⟨_, Tryz.underlying33, rfl⟩
theorem ag35 : IsAgg Tryz.prog 35 true := ⟨_, Tryz.underlying35, rfl⟩
theorem ag48 : IsAgg Tryz.prog 48 true := ⟨_, Tryz.underlying48, rfl⟩
theorem ag59 : IsAgg Tryz.prog 59 false := ⟨_, Tryz.underlying59, rfl⟩
theorem ag60 : IsAgg Tryz.prog 60 false := ⟨_, Tryz.underlying60, rfl⟩
theorem ag74 : IsAgg Tryz.prog 74 false := ⟨_, Tryz.underlying74, rfl⟩
theorem ag62 : IsAgg Tryz.prog 62 true := ⟨_, Tryz.underlying62, rfl⟩
theorem ag174 : IsAgg Tryz.prog 174 false := ⟨_, Tryz.underlying174, rfl⟩
theorem ag175 : IsAgg Tryz.prog 175 false := ⟨_, Tryz.underlying175, rfl⟩
theorem ag138 : IsAgg Tryz.prog 138 false := ⟨_, Tryz.underlying138, rfl⟩
theorem ag54 : IsAgg Tryz.prog 54 false := ⟨_, Tryz.underlying54, rfl⟩
theorem ag56 : IsAgg Tryz.prog 56 true := ⟨_, Tryz.underlying56, rfl⟩
theorem ag136 : IsAgg Tryz.prog 136 true := ⟨_, Tryz.underlying136, rfl⟩
theorem ag97 : IsAgg Tryz.prog 97 false := ⟨_, Tryz.underlying97, rfl⟩
theorem ag99 : IsAgg Tryz.prog 99 true := ⟨_, Tryz.underlying99, rfl⟩
theorem ag147 : IsAgg Tryz.prog 147 true := ⟨_, Tryz.underlying147, rfl⟩
theorem ag81 : IsAgg Tryz.prog 81 true := ⟨_, Tryz.underlying81, rfl⟩
theorem ag83 : IsAgg Tryz.prog 83 false := ⟨_, Tryz.underlying83, rfl⟩
theorem ag84 : IsAgg Tryz.prog 84 false := ⟨_, Tryz.underlying84, rfl⟩
theorem ag71 : IsAgg Tryz.prog 71 false := ⟨_, Tryz.underlying71, rfl⟩
theorem ag82 : IsAgg Tryz.prog 82 true := ⟨_, Tryz.underlying82, rfl⟩
theorem fa28_0 : FieldAt Tryz.prog 28 0 0 1 false := ⟨_, _, Tryz.underlying28, rfl, rfl, ty9.size, ag9, by decide⟩
theorem fa28_2 : FieldAt Tryz.prog 28 2 2 1 false := ⟨_, _, Tryz.underlying28, rfl, rfl, ty26.size, ag26, by decide⟩
theorem fa35_0 : FieldAt Tryz.prog 35 0 0 1 false := ⟨_, _, Tryz.underlying35, rfl, rfl, ty9.size, ag9, by decide⟩
theorem fa35_1 : FieldAt Tryz.prog 35 1 1 1 false := ⟨_, _, Tryz.underlying35, rfl, rfl, ty32.size, ag32, by decide⟩
theorem fa35_2 : FieldAt Tryz.prog 35 2 2 1 false := ⟨_, _, Tryz.underlying35, rfl, rfl, ty9.size, ag9, by decide⟩
theorem fa35_3 : FieldAt Tryz.prog 35 3 3 1 false := ⟨_, _, Tryz.underlying35, rfl, rfl, ty33.size, ag33, by decide⟩
theorem fa48_0 : FieldAt Tryz.prog 48 0 0 1 false := ⟨_, _, Tryz.underlying48, rfl, rfl, ty9.size, ag9, by decide⟩
theorem fa62_0 : FieldAt Tryz.prog 62 0 0 1 false := ⟨_, _, Tryz.underlying62, rfl, rfl, ty59.size, ag59, by decide⟩
theorem fa62_1 : FieldAt Tryz.prog 62 1 1 1 false := ⟨_, _, Tryz.underlying62, rfl, rfl, ty60.size, ag60, by decide⟩
theorem fa76_0 : FieldAt Tryz.prog 76 0 0 1 false := ⟨_, _, Tryz.underlying76, rfl, rfl, ty23.size, ag23, by decide⟩
theorem fa76_1 : FieldAt Tryz.prog 76 1 1 1 false := ⟨_, _, Tryz.underlying76, rfl, rfl, ty74.size, ag74, by decide⟩
theorem fa76_2 : FieldAt Tryz.prog 76 2 2 1 false := ⟨_, _, Tryz.underlying76, rfl, rfl, ty22.size, ag22, by decide⟩
theorem fa177_0 : FieldAt Tryz.prog 177 0 0 1 false := ⟨_, _, Tryz.underlying177, rfl, rfl, ty174.size, ag174, by decide⟩
theorem fa177_1 : FieldAt Tryz.prog 177 1 1 1 false := ⟨_, _, Tryz.underlying177, rfl, rfl, ty175.size, ag175, by decide⟩
theorem fa99_1 : FieldAt Tryz.prog 99 1 1 1 false := ⟨_, _, Tryz.underlying99, rfl, rfl, ty60.size, ag60, by decide⟩
theorem fa134_1 : FieldAt Tryz.prog 134 1 1 1 false := ⟨_, _, Tryz.underlying134, rfl, rfl, ty59.size, ag59, by decide⟩
theorem fa56_0 : FieldAt Tryz.prog 56 0 0 1 false := ⟨_, _, Tryz.underlying56, rfl, rfl, ty3.size, ag3, by decide⟩
theorem fa56_1 : FieldAt Tryz.prog 56 1 1 1 false := ⟨_, _, Tryz.underlying56, rfl, rfl, ty3.size, ag3, by decide⟩
theorem fa56_2 : FieldAt Tryz.prog 56 2 2 1 false := ⟨_, _, Tryz.underlying56, rfl, rfl, ty54.size, ag54, by decide⟩
theorem fa134_0 : FieldAt Tryz.prog 134 0 0 1 false := ⟨_, _, Tryz.underlying134, rfl, rfl, ty22.size, ag22, by decide⟩
theorem fa136_0 : FieldAt Tryz.prog 136 0 0 1 false := ⟨_, _, Tryz.underlying136, rfl, rfl, ty22.size, ag22, by decide⟩
theorem fa136_1 : FieldAt Tryz.prog 136 1 1 1 false := ⟨_, _, Tryz.underlying136, rfl, rfl, ty22.size, ag22, by decide⟩
theorem fa136_2 : FieldAt Tryz.prog 136 2 2 1 false := ⟨_, _, Tryz.underlying136, rfl, rfl, ty4.size, ag4, by decide⟩
theorem fa99_0 : FieldAt Tryz.prog 99 0 0 1 false := ⟨_, _, Tryz.underlying99, rfl, rfl, ty97.size, ag97, by decide⟩
theorem fa94_0 : FieldAt Tryz.prog 94 0 0 1 false := ⟨_, _, Tryz.underlying94, rfl, rfl, ty9.size, ag9, by decide⟩
theorem fa94_1 : FieldAt Tryz.prog 94 1 1 1 false := ⟨_, _, Tryz.underlying94, rfl, rfl, ty4.size, ag4, by decide⟩
theorem fa28_1 : FieldAt Tryz.prog 28 1 1 1 false := ⟨_, _, Tryz.underlying28, rfl, rfl, ty9.size, ag9, by decide⟩
theorem fa81_0 : FieldAt Tryz.prog 81 0 0 1 false := ⟨_, _, Tryz.underlying81, rfl, rfl, ty3.size, ag3, by decide⟩
theorem fa81_1 : FieldAt Tryz.prog 81 1 1 1 false := ⟨_, _, Tryz.underlying81, rfl, rfl, ty3.size, ag3, by decide⟩
theorem fa82_0 : FieldAt Tryz.prog 82 0 0 2 true := ⟨_, _, Tryz.underlying82, rfl, rfl, ty81.size, ag81, by decide⟩
theorem fa82_1 : FieldAt Tryz.prog 82 1 2 1 false := ⟨_, _, Tryz.underlying82, rfl, rfl, ty4.size, ag4, by decide⟩
theorem fa86_3 : FieldAt Tryz.prog 86 3 4 1 false := ⟨_, _, Tryz.underlying86, rfl, rfl, ty84.size, ag84, by decide⟩
theorem fa86_0 : FieldAt Tryz.prog 86 0 0 1 false := ⟨_, _, Tryz.underlying86, rfl, rfl, ty71.size, ag71, by decide⟩
theorem fa86_1 : FieldAt Tryz.prog 86 1 1 2 true := ⟨_, _, Tryz.underlying86, rfl, rfl, ty62.size, ag62, by decide⟩
theorem st136 : StructAt Tryz.prog 136 [(0, 1), (1, 1), (2, 1)] := ⟨_, Tryz.underlying136, rfl, ty22.size, rfl, ty22.size, rfl, ty4.size, trivial⟩
theorem st134 : StructAt Tryz.prog 134 [(0, 1), (1, 1), (2, 1), (3, 1), (4, 1)] := ⟨_, Tryz.underlying134, rfl, ty22.size, rfl, ty59.size, rfl, ty22.size, rfl, ty60.size, rfl, ty4.size, trivial⟩
theorem st62 : StructAt Tryz.prog 62 [(0, 1), (1, 1)] := ⟨_, Tryz.underlying62, rfl, ty59.size, rfl, ty60.size, trivial⟩
theorem st56 : StructAt Tryz.prog 56 [(0, 1), (1, 1), (2, 1)] := ⟨_, Tryz.underlying56, rfl, ty3.size, rfl, ty3.size, rfl, ty54.size, trivial⟩
theorem st94 : StructAt Tryz.prog 94 [(0, 1), (1, 1)] := ⟨_, Tryz.underlying94, rfl, ty9.size, rfl, ty4.size, trivial⟩
theorem st76 : StructAt Tryz.prog 76 [(0, 1), (1, 1), (2, 1)] := ⟨_, Tryz.underlying76, rfl, ty23.size, rfl, ty74.size, rfl, ty22.size, trivial⟩
theorem st35 : StructAt Tryz.prog 35 [(0, 1), (1, 1), (2, 1), (3, 1)] := ⟨_, Tryz.underlying35, rfl, ty9.size, rfl, ty32.size, rfl, ty9.size, rfl, ty33.size, trivial⟩
theorem st28 : StructAt Tryz.prog 28 [(0, 1), (1, 1), (2, 1)] := ⟨_, Tryz.underlying28, rfl, ty9.size, rfl, ty9.size, rfl, ty26.size, trivial⟩
theorem st81 : StructAt Tryz.prog 81 [(0, 1), (1, 1)] := ⟨_, Tryz.underlying81, rfl, ty3.size, rfl, ty3.size, trivial⟩
theorem st86 : StructAt Tryz.prog 86 [(0, 1), (1, 2), (3, 1), (4, 1)] := ⟨_, Tryz.underlying86, rfl, ty71.size, rfl, ty62.size, rfl, ty22.size, rfl, ty84.size, trivial⟩
theorem ni22 : NotInt Tryz.prog 22 := .inl ⟨_, Tryz.underlying22⟩
theorem ni9 : NotInt Tryz.prog 9 := .inr Tryz.underlying9
theorem ni59 : NotInt Tryz.prog 59 := .inl ⟨_, Tryz.underlying59⟩
theorem ni60 : NotInt Tryz.prog 60 := .inl ⟨_, Tryz.underlying60⟩
theorem ni97 : NotInt Tryz.prog 97 := .inl ⟨_, Tryz.underlying97⟩
theorem ni54 : NotInt Tryz.prog 54 := .inl ⟨_, Tryz.underlying54⟩
theorem ni26 : NotInt Tryz.prog 26 := .inl ⟨_, Tryz.underlying26⟩
theorem ni74 : NotInt Tryz.prog 74 := .inl ⟨_, Tryz.underlying74⟩
theorem ni33 : NotInt Tryz.prog 33 := .inl ⟨_, Tryz.underlying33⟩
theorem ni23 : NotInt Tryz.prog 23 := .inl ⟨_, Tryz.underlying23⟩
theorem ni84 : NotInt Tryz.prog 84 := .inl ⟨_, Tryz.underlying84⟩
end Go.Proofs.YtphlkdbglpcikaaGreatDoor.Y
end
section
namespace Go.Proofs.YtphlkdbglpcikaaGreatDoor
open Go.Vl
open Y
namespace Base
theorem tmod_neg (a n : Int) (hn : 0 < n) (h : a.tmod n < 0) : a.tmod n + n = a % n := by
 have h1 := Int.tmod_eq_emod (a := a) (b := n)
 have h2 := Int.emod_nonneg a (by omega : n ≠ 0)
 have h3 := Int.emod_lt_of_pos a hn
 have h4 : (n.natAbs : Int) = n := by omega
 rw [h1] at h ⊢
 split at h <;> split <;> omega
theorem tmod_nonneg (a n : Int) (hn : 0 < n) (h : ¬ a.tmod n < 0) : a.tmod n = a % n := by
 have h1 := Int.tmod_eq_emod (a := a) (b := n)
 have h2 := Int.emod_nonneg a (by omega : n ≠ 0)
 have h3 := Int.emod_lt_of_pos a hn
 have h4 : (n.natAbs : Int) = n := by omega
 rw [h1] at h ⊢
 split at h <;> split <;> omega
theorem tmod_gt (a n : Int) (hn : 0 < n) : -n < a.tmod n ∧ a.tmod n < n := by
 have h1 := Int.tmod_eq_emod (a := a) (b := n)
 have h2 := Int.emod_nonneg a (by omega : n ≠ 0)
 have h3 := Int.emod_lt_of_pos a hn
 have h4 : (n.natAbs : Int) = n := by omega
 rw [h1]
 split <;> omega
theorem c_Picked (a n : Int) (hn : 0 < n) (hb : n ≤ 4611686018427387904) : FnP Tryz.prog 13 [.int a, .int n] (.int (a % n)) :=  by
 refine FnC.mk Tryz.func13 (by kernel_rfl) rfl Tryz.ntmps13 rfl (fun w0 F => ?_)
 have htm := tmod_gt a n hn
 refine W.s (.r (.q (.assign .k) rfl (.n (.h (.s (.r (.mv rfl rfl (.mv rfl rfl ?_))))))))
 first | refine W.q (.rem (.t rfl) (.t rfl) (fun _ => by decide)) rfl ?_ | refine W.q (.rem (.t rfl) (.t rfl) (fun _ => by omega)) rfl ?_
 refine W.q (.assign (.t rfl)) rfl ?_; refine W.n ?_; refine W.h ?_; refine W.s ?_; refine W.s ?_; refine W.r ?_; refine W.q (.move (.t rfl)) rfl ?_; refine W.q (.lti (.t rfl) .k) rfl ?_; refine W.n ?_; refine W.h ?_; refine W.cond (.t rfl) (fun hc_t9 => ?_) (fun hc_t9 => ?_)
 ·have h9 := of_decide_eq_true hc_t9
  refine W.s (.r (.mv rfl rfl (.mv rfl rfl ?_)))
  first | refine W.q (.add (.t rfl) (.t rfl) (fun _ => by omega)) rfl ?_ | refine W.q (.addw (.t rfl) (.t rfl)) rfl ?_
  refine W.asg rfl rfl (.n (.h ?_)); refine W.ret ?_; refine W.hr ?_; refine W.retn (M' := []) (rs := [.tmp 4]) (avs := [_]) Tryz.results13 ⟨rfl, trivial⟩ rfl (.refl _) ?_
  exact ⟨congrArg AV.int (by first | exact (tmod_neg a n hn h9).symm ▸ rfl | exact tmod_nonneg a n hn h9), rfl⟩
 ·have h9 := of_decide_eq_false hc_t9
  refine W.k (.h (.s (.r (.mv rfl rfl (.asg rfl rfl (.n (.h ?_))))))); refine W.ret ?_; refine W.retn (M' := []) (rs := [.tmp 4]) (avs := [_]) Tryz.results13 ⟨rfl, trivial⟩ rfl (.refl _) ?_
  exact ⟨congrArg AV.int (by first | exact (tmod_neg a n hn h9).symm ▸ rfl | exact tmod_nonneg a n hn h9), rfl⟩
end Base
end Go.Proofs.YtphlkdbglpcikaaGreatDoor
end
section
namespace Go.Proofs.YtphlkdbglpcikaaGreatDoor
open Go.Vl
open Y
namespace WSLib
theorem c_Index (ns : List (List UInt8)) (v : List UInt8) (hn : ns.length ≤ 1099511627776) : FnC Tryz.prog 115 [.sl 1 (ns.map AV.str), .str v] [] (fun r M => M = [] ∧ ∃ k : Int, r = .int k ∧ decide (0 ≤ k) = ns.any fun s => v == s) :=  by
 refine FnC.mk Tryz.func115 (by kernel_rfl) rfl Tryz.ntmps115 rfl (fun w0 F => ?_)
 have hnl : (ns.map AV.str).length = ns.length := List.length_map ..
 refine W.s (.r (.q (.assign .k) rfl (.n (.h (.s (.s (.r (.mv rfl rfl (.q (.lensl (.t rfl) Tryz.underlying26) rfl (.q (.move .k) rfl (.n (.h (.b ?_))))))))))))); refine W.loop (D := []) (ι := Nat) (fun i => [(8, true, .int (i : Int)), (7, true, .int ((ns.map AV.str).length : Int)), (0, true, .sl 1 (ns.map AV.str)), (1, true, .str v)]) (fun _ => []) (fun i => i ≤ ns.length ∧ ∀ d ∈ ns.take i, (v == d) = false) (fun i => ns.length - i) 0 ⟨rfl, rfl, rfl, rfl, trivial⟩ (.refl _) ⟨Nat.zero_le _, by simp⟩ ?_
 rintro i ⟨hi1, hi2⟩
 dsimp only at hi1 hi2 ⊢
 rcases (show i < ns.length ∨ i = ns.length from by omega) with hlt | hend
 ·have hga := getD_mapG AV.str [] ns i hlt
  refine W.s (.r (.q (.lti (.t rfl) (.t rfl)) rfl (.n (.h (.s ?_))))); refine W.isb 9 true rfl (by simp; omega) ?_; refine W.condT (.t rfl) (.k (.h (.s (.b (.s (.r (.mv rfl rfl (.asg rfl rfl (.n (.h (.s (.r (.mv rfl rfl (.mv rfl rfl (.mv rfl rfl ?_))))))))))))))); refine W.q (.at (E := 9) (.t rfl) (.t rfl) Tryz.underlying26 ty9 (fun _ => ⟨by omega, hga⟩) rfl rfl) rfl ?_; refine W.q (.lde1 (.t rfl) ag9) rfl ?_
  refine W.q (.eqs (.t rfl) (.t rfl)) rfl ?_; refine W.n ?_; refine W.h ?_; refine W.cond (.t rfl) (fun hc_t16 => ?_) (fun hc_t16 => ?_)
  ·have hq : (ns.any fun s => v == s) = true := by rw [List.any_eq_true]; exact ⟨_, getD_memG [] ns i hlt, hc_t16⟩
   refine W.s (.r (.mv rfl rfl (.asg rfl rfl (.n (.h ?_))))); refine W.ret ?_; refine W.br (.hr (.hr (.br (.hr ?_)))); refine W.retn (M' := []) (rs := [.tmp 4]) (avs := [_]) Tryz.results115 ⟨rfl, trivial⟩ rfl (.refl _) ?_
   refine ⟨rfl, _, rfl, ?_⟩
   rw [hq]
   (rfl)
  ·have hq : (v == ns.getD i []) = false := hc_t16
   refine W.k (.bn (.h (.r (.q (.add (.t rfl) .k (fun _ => by omega)) rfl ?_))))
   refine W.q (.move (.t rfl)) rfl ?_; refine W.n ?_; refine W.h ?_; refine W.reach (D := []) (i + 1) ⟨rfl, rfl, rfl, rfl, trivial⟩ (.refl _) ⟨⟨by omega, ?_⟩, by omega⟩
   rw [take_getDG [] ns i hlt]
   intro d hd
   cases List.mem_append.1 hd with
   | inl h => exact hi2 d h
   | inr h => rw [List.mem_singleton.1 h]; exact hq
 ·rw [List.take_of_length_le (by omega)] at hi2
  have hq := any_take_false (fun d => v == d) ns hi2
  refine W.s (.r (.q (.lti (.t rfl) (.t rfl)) rfl (.n (.h (.s ?_))))); refine W.isb 9 false rfl (by simp; omega) ?_; refine W.condF (.t rfl) (.ex (.he (.he (.bh (.h (.s (.r (.q (.assign .k) rfl (.n (.h ?_)))))))))); refine W.ret ?_; refine W.retn (M' := []) (rs := [.tmp 4]) (avs := [_]) Tryz.results115 ⟨rfl, trivial⟩ rfl (.refl _) ?_
  refine ⟨rfl, _, rfl, ?_⟩
  rw [hq]
  (rfl)
theorem c_Contains (ns : List (List UInt8)) (v : List UInt8) (hn : ns.length ≤ 1099511627776) : FnP Tryz.prog 88 [.sl 1 (ns.map AV.str), .str v] (.bool (ns.any fun s => v == s)) :=  by
 refine FnC.mk Tryz.func88 (by kernel_rfl) rfl Tryz.ntmps88 rfl (fun w0 F => ?_)
 refine W.s (.r (.q (.assign .k) rfl (.n (.h (.s (.r (.mv rfl rfl (.mv rfl rfl ?_)))))))); refine W.call (c_Index ns v hn) ⟨(.t rfl), (.t rfl), trivial⟩ (.refl _) rfl ?_
 rintro _ _ ⟨rfl, k, rfl, hk⟩
 refine W.q (.gei (.t rfl) .k) rfl (.asg rfl rfl (.n (.h ?_))); refine W.ret ?_; refine W.retn (M' := []) (rs := [.tmp 4]) (avs := [_]) Tryz.results88 ⟨rfl, trivial⟩ rfl (.refl _) ?_
 exact ⟨congrArg AV.bool hk, rfl⟩
theorem c_IndexFuncS (l : List (List UInt8)) (g : Nat) (caps : List Value) (M0 : List ME) (p : (List UInt8) → Bool) (hg : ∀ d ∈ l, FnC Tryz.prog g ([AV.str d] ++ caps.map .lit) M0 (fun r M => r = .bool (p d) ∧ M = M0)) (hn : l.length ≤ 1099511627776) : FnC Tryz.prog 114 [.sl 1 (l.map AV.str), .lit (.func (.func g) #[] caps.toArray)] M0 (fun r M => r = .int (idxI p l) ∧ M = M0) :=  by
 refine FnC.mk Tryz.func114 (by kernel_rfl) rfl Tryz.ntmps114 rfl (fun w0 F => ?_)
 have hnl : (l.map AV.str).length = l.length := List.length_map ..
 refine W.s (.r (.q (.assign .k) rfl (.n (.h (.s (.s (.r (.mv rfl rfl (.q (.lensl (.t rfl) Tryz.underlying26) rfl (.q (.move .k) rfl (.n (.h (.b ?_))))))))))))); refine W.loop (D := []) (ι := Nat) (fun i => [(8, true, .int (i : Int)), (7, true, .int ((l.map AV.str).length : Int)), (0, true, .sl 1 (l.map AV.str)), (1, true, .lit (.func (.func g) #[] caps.toArray))]) (fun _ => M0) (fun i => i ≤ l.length ∧ ∀ d ∈ l.take i, p d = false) (fun i => l.length - i) 0 ⟨rfl, rfl, rfl, rfl, trivial⟩ (List.Perm.of_eq (List.append_nil _).symm) ⟨Nat.zero_le _, by simp⟩ ?_
 rintro i ⟨hi1, hi2⟩
 dsimp only at hi1 hi2 ⊢
 rcases (show i < l.length ∨ i = l.length from by omega) with hlt | hend
 ·have hga := getD_mapG AV.str [] l i hlt
  refine W.s (.r (.q (.lti (.t rfl) (.t rfl)) rfl (.n (.h (.s ?_))))); refine W.isb 9 true rfl (by simp; omega) ?_; refine W.condT (.t rfl) (.k (.h (.s (.b (.s (.r (.mv rfl rfl (.asg rfl rfl (.n (.h (.s (.r (.mv rfl rfl (.mv rfl rfl (.mv rfl rfl ?_))))))))))))))); refine W.q (.at (E := 9) (.t rfl) (.t rfl) Tryz.underlying26 ty9 (fun _ => ⟨by omega, hga⟩) rfl rfl) rfl ?_; refine W.q (.lde1 (.t rfl) ag9) rfl ?_; refine W.callv (caps := caps) (avs := [_]) (hg (l.getD i []) (getD_memG [] l i hlt)) (.t rfl) ⟨(.t rfl), trivial⟩ rfl ((List.Perm.of_eq (List.append_nil _).symm)) rfl ?_
  rintro _ M' ⟨rfl, hM⟩
  rw [hM, List.append_nil]
  refine W.n ?_; refine W.h ?_; refine W.cond (.t rfl) (fun hc_t16 => ?_) (fun hc_t16 => ?_)
  ·have hq := idxI_hit p [] l i hlt hi2 hc_t16
   refine W.s (.r (.mv rfl rfl (.asg rfl rfl (.n (.h ?_))))); refine W.ret ?_; refine W.br (.hr (.hr (.br (.hr ?_)))); refine W.retn (M' := M0) (D := []) (rs := [.tmp 4]) (avs := [_]) Tryz.results114 ⟨rfl, trivial⟩ rfl (List.Perm.of_eq (List.append_nil _).symm) ?_
   exact ⟨congrArg AV.int (by rw [hq]), rfl⟩
  ·have hq : p (l.getD i []) = false := hc_t16
   refine W.k (.bn (.h (.r (.q (.add (.t rfl) .k (fun _ => by omega)) rfl ?_))))
   refine W.q (.move (.t rfl)) rfl ?_; refine W.n ?_; refine W.h ?_; refine W.reach (D := []) (i + 1) ⟨rfl, rfl, rfl, rfl, trivial⟩ (List.Perm.of_eq (List.append_nil _).symm) ⟨⟨by omega, ?_⟩, by omega⟩
   rw [take_getDG [] l i hlt]
   intro d hd
   cases List.mem_append.1 hd with
   | inl h => exact hi2 d h
   | inr h => rw [List.mem_singleton.1 h]; exact hq
 ·rw [List.take_of_length_le (by omega)] at hi2
  have hq := idxI_miss p l hi2
  refine W.s (.r (.q (.lti (.t rfl) (.t rfl)) rfl (.n (.h (.s ?_))))); refine W.isb 9 false rfl (by simp; omega) ?_; refine W.condF (.t rfl) (.ex (.he (.he (.bh (.h (.s (.r (.q (.assign .k) rfl (.n (.h ?_)))))))))); refine W.ret ?_; refine W.retn (M' := M0) (D := []) (rs := [.tmp 4]) (avs := [_]) Tryz.results114 ⟨rfl, trivial⟩ rfl (List.Perm.of_eq (List.append_nil _).symm) ?_
  exact ⟨congrArg AV.int (by rw [hq]), rfl⟩
theorem c_ContainsFuncS (l : List (List UInt8)) (g : Nat) (caps : List Value) (M0 : List ME) (p : (List UInt8) → Bool) (hg : ∀ d ∈ l, FnC Tryz.prog g ([AV.str d] ++ caps.map .lit) M0 (fun r M => r = .bool (p d) ∧ M = M0)) (hn : l.length ≤ 1099511627776) : FnC Tryz.prog 86 [.sl 1 (l.map AV.str), .lit (.func (.func g) #[] caps.toArray)] M0 (fun r M => r = .bool (l.any p) ∧ M = M0) :=  by
 refine FnC.mk Tryz.func86 (by kernel_rfl) rfl Tryz.ntmps86 rfl (fun w0 F => ?_)
 refine W.s (.r (.q (.assign .k) rfl (.n (.h (.s (.r (.mv rfl rfl (.mv rfl rfl ?_)))))))); refine W.call (c_IndexFuncS l g caps M0 p hg hn) ⟨(.t rfl), (.t rfl), trivial⟩ ((List.Perm.of_eq (List.append_nil _).symm)) rfl ?_
 rintro _ M' ⟨rfl, hM⟩
 rw [hM, List.append_nil]
 refine W.q (.gei (.t rfl) .k) rfl (.asg rfl rfl (.n (.h ?_))); refine W.ret ?_; refine W.retn (M' := M0) (D := []) (rs := [.tmp 4]) (avs := [_]) Tryz.results86 ⟨rfl, trivial⟩ rfl (List.Perm.of_eq (List.append_nil _).symm) ?_
 exact ⟨congrArg AV.bool (idxI_any p l), rfl⟩
theorem c_IndexFuncY (l : List Tp) (g : Nat) (caps : List Value) (M0 : List ME) (p : Tp → Bool) (hg : ∀ d ∈ l, FnC Tryz.prog g ([tpv d] ++ caps.map .lit) M0 (fun r M => r = .bool (p d) ∧ M = M0)) (hn : l.length ≤ 1099511627776) : FnC Tryz.prog 85 [.sl 3 (l.map tpv), .lit (.func (.func g) #[] caps.toArray)] M0 (fun r M => r = .int (idxI p l) ∧ M = M0) :=  by
 refine FnC.mk Tryz.func85 (by kernel_rfl) rfl Tryz.ntmps85 rfl (fun w0 F => ?_)
 have hnl : (l.map tpv).length = l.length := List.length_map ..
 refine W.s (.r (.q (.assign .k) rfl (.n (.h (.s (.s (.r (.mv rfl rfl (.q (.lensl (.t rfl) Tryz.underlying23) rfl (.q (.move .k) rfl (.n (.h (.b ?_))))))))))))); refine W.loop (D := []) (ι := Nat) (fun i => [(8, true, .int (i : Int)), (7, true, .int ((l.map tpv).length : Int)), (0, true, .sl 3 (l.map tpv)), (1, true, .lit (.func (.func g) #[] caps.toArray))]) (fun _ => M0) (fun i => i ≤ l.length ∧ ∀ d ∈ l.take i, p d = false) (fun i => l.length - i) 0 ⟨rfl, rfl, rfl, rfl, trivial⟩ (List.Perm.of_eq (List.append_nil _).symm) ⟨Nat.zero_le _, by simp⟩ ?_
 rintro i ⟨hi1, hi2⟩
 dsimp only at hi1 hi2 ⊢
 rcases (show i < l.length ∨ i = l.length from by omega) with hlt | hend
 ·have hga := getD_mapG tpv ⟨[], [], []⟩ l i hlt
  refine W.s (.r (.q (.lti (.t rfl) (.t rfl)) rfl (.n (.h (.s ?_))))); refine W.isb 9 true rfl (by simp; omega) ?_; refine W.condT (.t rfl) (.k (.h (.s (.b (.s (.r (.mv rfl rfl (.asg rfl rfl (.n (.h (.s (.r (.mv rfl rfl (.mv rfl rfl (.mv rfl rfl ?_))))))))))))))); refine W.q (.at (E := 28) (.t rfl) (.t rfl) Tryz.underlying23 ty28 (fun _ => ⟨by omega, hga⟩) rfl rfl) rfl ?_; refine W.q (.lden (.t rfl) ag28 ty28 rfl rfl) rfl ?_; refine W.callv (caps := caps) (avs := [_]) (hg (l.getD i ⟨[], [], []⟩) (getD_memG ⟨[], [], []⟩ l i hlt)) (.t rfl) ⟨(.t rfl), trivial⟩ rfl ((List.Perm.of_eq (List.append_nil _).symm)) rfl ?_
  rintro _ M' ⟨rfl, hM⟩
  rw [hM, List.append_nil]
  refine W.n ?_; refine W.h ?_; refine W.cond (.t rfl) (fun hc_t16 => ?_) (fun hc_t16 => ?_)
  ·have hq := idxI_hit p ⟨[], [], []⟩ l i hlt hi2 hc_t16
   refine W.s (.r (.mv rfl rfl (.asg rfl rfl (.n (.h ?_))))); refine W.ret ?_; refine W.br (.hr (.hr (.br (.hr ?_)))); refine W.retn (M' := M0) (D := []) (rs := [.tmp 4]) (avs := [_]) Tryz.results85 ⟨rfl, trivial⟩ rfl (List.Perm.of_eq (List.append_nil _).symm) ?_
   exact ⟨congrArg AV.int (by rw [hq]), rfl⟩
  ·have hq : p (l.getD i ⟨[], [], []⟩) = false := hc_t16
   refine W.k (.bn (.h (.r (.q (.add (.t rfl) .k (fun _ => by omega)) rfl ?_))))
   refine W.q (.move (.t rfl)) rfl ?_; refine W.n ?_; refine W.h ?_; refine W.reach (D := []) (i + 1) ⟨rfl, rfl, rfl, rfl, trivial⟩ (List.Perm.of_eq (List.append_nil _).symm) ⟨⟨by omega, ?_⟩, by omega⟩
   rw [take_getDG ⟨[], [], []⟩ l i hlt]
   intro d hd
   cases List.mem_append.1 hd with
   | inl h => exact hi2 d h
   | inr h => rw [List.mem_singleton.1 h]; exact hq
 ·rw [List.take_of_length_le (by omega)] at hi2
  have hq := idxI_miss p l hi2
  refine W.s (.r (.q (.lti (.t rfl) (.t rfl)) rfl (.n (.h (.s ?_))))); refine W.isb 9 false rfl (by simp; omega) ?_; refine W.condF (.t rfl) (.ex (.he (.he (.bh (.h (.s (.r (.q (.assign .k) rfl (.n (.h ?_)))))))))); refine W.ret ?_; refine W.retn (M' := M0) (D := []) (rs := [.tmp 4]) (avs := [_]) Tryz.results85 ⟨rfl, trivial⟩ rfl (List.Perm.of_eq (List.append_nil _).symm) ?_
  exact ⟨congrArg AV.int (by rw [hq]), rfl⟩
theorem c_ContainsFuncY (l : List Tp) (g : Nat) (caps : List Value) (M0 : List ME) (p : Tp → Bool) (hg : ∀ d ∈ l, FnC Tryz.prog g ([tpv d] ++ caps.map .lit) M0 (fun r M => r = .bool (p d) ∧ M = M0)) (hn : l.length ≤ 1099511627776) : FnC Tryz.prog 47 [.sl 3 (l.map tpv), .lit (.func (.func g) #[] caps.toArray)] M0 (fun r M => r = .bool (l.any p) ∧ M = M0) :=  by
 refine FnC.mk Tryz.func47 (by kernel_rfl) rfl Tryz.ntmps47 rfl (fun w0 F => ?_)
 refine W.s (.r (.q (.assign .k) rfl (.n (.h (.s (.r (.mv rfl rfl (.mv rfl rfl ?_)))))))); refine W.call (c_IndexFuncY l g caps M0 p hg hn) ⟨(.t rfl), (.t rfl), trivial⟩ ((List.Perm.of_eq (List.append_nil _).symm)) rfl ?_
 rintro _ M' ⟨rfl, hM⟩
 rw [hM, List.append_nil]
 refine W.q (.gei (.t rfl) .k) rfl (.asg rfl rfl (.n (.h ?_))); refine W.ret ?_; refine W.retn (M' := M0) (D := []) (rs := [.tmp 4]) (avs := [_]) Tryz.results47 ⟨rfl, trivial⟩ rfl (List.Perm.of_eq (List.append_nil _).symm) ?_
 exact ⟨congrArg AV.bool (idxI_any p l), rfl⟩
end WSLib
end Go.Proofs.YtphlkdbglpcikaaGreatDoor
end
section
namespace Go.Vl
structure Rl where
 name : List UInt8
 act : Int
 to : List UInt8
namespace Nd
def lastT (p : Bool) (l : List Nd) : Bool := match l.getLast? with
 | none => p
 | some d => d.name == []
mutual
def apt : Nd → Bool
 | mk _ _ _ q => apts false q
def apts : Bool → List Nd → Bool
 | _, [] => true
 | p, d :: l => (if d.name = [] then (!(d.text == []) && (d.parts.length == 0 && d.attrs.length == 0)) && !p else (d.text == []) && apt d) && apts (d.name == []) l
end
mutual
def wd : Nd → List UInt8
 | mk _ _ _ q => wds q
def wds : List Nd → List UInt8
 | [] => []
 | d :: l => (d.text ++ wd d) ++ wds l
end
mutual
def tsz : Nd → Nat
 | mk _ _ t q => t.length + tszs q
def tszs : List Nd → Nat
 | [] => 0
 | d :: l => tsz d + tszs l
end
mutual
def onl (ns : List (List UInt8)) : Nd → Bool
 | mk _ _ _ q => onls ns q
def onls (ns : List (List UInt8)) : List Nd → Bool
 | [] => true
 | d :: l => ((d.name == [] || ns.any fun s => d.name == s) && onl ns d) && onls ns l
end
def jn1 (out : List Nd) (n : Nd) : List Nd :=
 if n.name = [] ∧ lastT false out = true then out.dropLast ++ [mk [] (out.getD (out.length - 1) dflt).attrs ((out.getD (out.length - 1) dflt).text ++ n.text) (out.getD (out.length - 1) dflt).parts] else out ++ [n]
def jn : List Nd → List Nd → List Nd
 | out, [] => out
 | out, n :: more => jn (jn1 out n) more
end Nd
namespace Rl
open Nd
abbrev dfl : Rl := ⟨[], 2, []⟩
def of (rs : List Rl) (nm : List UInt8) : Rl := if 0 ≤ idxI (fun q => q.name == nm) rs then rs.getD (idxI (fun q => q.name == nm) rs).toNat dfl else dfl
def step (rs : List Rl) (out : List Nd) (d : Nd) (sub : List Nd) : List Nd :=
 if d.name = [] then (if d.text = [] then out else jn1 out (Nd.mk [] [] d.text []))
 else if (of rs d.name).act = 1 then out ++ [Nd.mk (of rs d.name).to d.attrs [] sub]
 else if (of rs d.name).act = 2 then jn out sub else out
mutual
def subs (rs : List Rl) : Nd → List Nd
 | .mk _ _ _ q => run rs [] q
def run (rs : List Rl) : List Nd → List Nd → List Nd
 | out, [] => out
 | out, d :: l => run rs (step rs out d (subs rs d)) l
end
mutual
def plain : Nd → Prop
 | .mk n a t q => (n = [] → q = [] ∧ a = []) ∧ (n ≠ [] → t = []) ∧ plains q
def plains : List Nd → Prop
 | [] => True
 | d :: l => plain d ∧ plains l
end
def kept (rs : List Rl) (nm : List UInt8) : Prop := (of rs nm).act = 1 ∧ (of rs nm).to = nm
mutual
def kp (rs : List Rl) : Nd → Prop
 | .mk n _ _ q => (n ≠ [] → kept rs n) ∧ kps rs q
def kps (rs : List Rl) : List Nd → Prop
 | [] => True
 | d :: l => kp rs d ∧ kps rs l
end
end Rl
end Go.Vl
end
section
namespace Go.Vl
namespace Nd
abbrev tx6 : List (List UInt8) := [[120], [97, 60, 98], [38, 97, 109, 112, 59], [121, 32, 122], [32], [60, 112, 62]]
abbrev vd2 : List (List UInt8) := [[98, 114], [105, 109, 103]]
abbrev el6 : List (List UInt8) := [[100, 105, 118], [98], [101, 109], [112], [97], [117, 108]]
abbrev vl5 : List (List UInt8) := [[], [120], [97, 34, 98, 38], [60], [104, 116, 116, 112, 58, 47, 47, 121]]
abbrev href : List UInt8 := [104, 114, 101, 102]
mutual
def dr : Nat → Nd → Prop
 | k, mk n a t q => (n = [] ∧ a = [] ∧ t ∈ tx6 ∧ q = []) ∨ (n ∈ vd2 ∧ a = [] ∧ t = [] ∧ q = []) ∨ (n ∈ el6 ∧ (a = [] ∨ ∃ v ∈ vl5, a = [(href, v)]) ∧ t = [] ∧ 2 ≤ k ∧ drs (k - 1) false q ∧ q.length ≤ 4)
def drs : Nat → Bool → List Nd → Prop
 | _, _, [] => True
 | k, p, d :: l => (d.name = [] → p = false) ∧ dr k d ∧ drs k (d.name == []) l
end
end Nd
namespace Rl
structure ok (r : Rl) : Prop where
 n : nameOk r.name = true
 nl : r.name.length ≤ 1000
 a1 : 1 ≤ r.act
 a3 : r.act ≤ 3
 t : r.act = 1 → nameOk r.to = true
 tl : r.to.length ≤ 1000
 t0 : r.act ≠ 1 → r.to = []
structure oks (l : List Rl) : Prop where
 len : l.length ≤ 12
 all : ∀ r ∈ l, r.ok
 one : ∀ i, i < l.length → ((l.take i).any fun q => q.name == (l.getD i dfl).name) = false
abbrev nm6 : List (List UInt8) := [[100, 105, 118], [98], [101, 109], [112], [97], [117, 108]]
structure drawn (l : List Rl) : Prop where
 names : l.map (·.name) = nm6.take l.length
 all : ∀ r ∈ l, r.ok
abbrev lv (l : List (List UInt8)) : List Rl := l.map fun s => ⟨s, 3, []⟩
end Rl
end Go.Vl
end
section
namespace Go.Vl
structure Ch where
 kind : Int
 path : List Int
 node : Nd
abbrev Ch.dfl : Ch := ⟨0, [], Nd.dflt⟩
namespace Nd
end Nd
section app0
open Go Go.Sem
variable {x : Cx} {L : List En} {M : List ME} {ty : TypeId} {pos : String} {aft : Array Edge}
theorem Sv.app0 {d : Tmp} {T T' E k bytes : Nat} {z : Value} {o1 o2 : Operand} {xs : List AV} (h1 : Ov true L o1 (.lit (.slice none 0 0))) (h2 : SrcOv x L M o2 k xs) (hT : x.P.underlying T = some (.slice E)) (hT' : NotInt x.P T') (hE : Ty x.P E k bytes z) (hzk : z.cells.size = k)
 (hb1 : Nat.ble 1 bytes = true) (hb : xs.length * bytes ≤ 140737488355328) : Sv x L M ⟨some d, .call ⟨.builtin .append, #[o1, o2], #[T, T']⟩, ty, pos, aft, none⟩ (.sl k xs) := by
 intro a w hs K Q hK
 have hsrc := h2.src hs
 have e1 : a.eval o1 = .slice none 0 0 := h1.lit rfl hs
 have hb1' := Nat.le_of_ble_eq_true hb1
 have h63 : xs.length ≤ maxLen := by
  have : xs.length ≤ xs.length * bytes := Nat.le_mul_of_pos_right _ hb1'
  simp only [maxLen]; omega
 unfold Oper.wp
 by_cases hx : xs = []
 ·subst hx
  obtain ⟨hlen, news, hn1, _, _, hn4⟩ := hsrc
  have hf := hn4 w rfl
  obtain ⟨ii, hi1, hi2, hi3, hi4⟩ := hE
  have hlen' : (Builtin.lenOf (a.eval o2)).run x.P w = .ok 0 w := hlen
  have hf' : (Builtin.firstCells k 0 (a.eval o2)).run x.P w = .ok news w := hf
  have hr : (execOp a.eval ⟨some d, .call ⟨.builtin .append, #[o1, o2], #[T, T']⟩, ty, pos, aft, none⟩).run x.P w = .ok (.value (.slice none 0 0)) w := by
   rcases hT' with ⟨e', hd'⟩ | hd' <;>
    simp [execOp, resolve, invoke, builtin, e1, Builtin.append_, run_underlying hT, run_underlying hd', sizeOf, typeInfo, hi1, hi2, hlen', hf']
  rw [hr]
  exact hK _ _ (fun b c T fr hb hc => ⟨hb, hc⟩) hs.mem hs.fr (Rep.slI (es := []) (Nat.le_refl _) (by simp [maxLen]) (.inl rfl))
 ·have hpos : 0 < xs.length := List.length_pos_iff.2 hx
  have hold : Src0 x.P w (bl M ++ x.F) k (.slice none 0 0) [] := src0_cells rfl (.inl rfl)
  obtain ⟨cells, hsz, hrE, hrun⟩ := run_append_new (ty := ty) hT hT' hE hzk hold hsrc.to0 rfl (by omega) (by simpa using hb) hb1'
  simp only [Nat.zero_add, List.nil_append] at hrun hrE hsz
  obtain ⟨hg1, hg2⟩ := cap_cut w xs.length 0 E h63
  have hd1 : St x L M a w.drew := hs.same rfl rfl rfl rfl
  obtain ⟨hs', hk, hnew⟩ := hd1.allocI (.cells cells E)
  have hk0 : Keep w (bl M ++ x.F) (w.drew.alloc (.cells cells E)) (bl M ++ x.F) := hk
  have hr : (execOp a.eval ⟨some d, .call ⟨.builtin .append, #[o1, o2], #[T, T']⟩, ty, pos, aft, none⟩).run x.P w = .ok (.value (.slice (some ⟨w.heap.size, 0, none⟩) xs.length (grownCap w xs.length 0 E))) (w.drew.alloc (.cells cells E)) := by
   simp only [execOp, resolve, invoke, builtin, Sem.run_bind, Sem.run_pure, Result.andThen_ok, List.map_toArray, List.map_cons, List.map_nil, e1, hrun]
  rw [hr]
  refine hK _ _ hk0 hs'.mem hs'.fr ?_
  exact Rep.slI hg1 hg2 (.inr ⟨w.heap.size, 0, cells, E, (0, 0), rfl, hnew, alloc_new w.drew _, RepE.keep hk0 _ _ _ (by simpa using hrE)⟩)
end app0
end Go.Vl
end
section
namespace Go.Vl
section
variable {x : Cx} {L : List En} {M : List ME} {ty : TypeId} {pos : String} {aft : Array Edge}
theorem Sv.callm {f : FuncId} {d : Option Tmp} {os : List Operand} {ats : Array TypeId} {g : Option (Nat × Bool)} {avs : List AV} {r : AV} {Mc Mr : List ME} (hc : FnC x.P f avs Mc (fun r' M' => r' = r ∧ M' = Mc)) (hp : List.Perm M (Mc ++ Mr)) (ha : ArgsOv L os avs) : Sv x L M ⟨d, .call ⟨.value (.func f), os.toArray, ats⟩, ty, pos, aft, g⟩ r := by
 intro a w hs K Q hK
 obtain ⟨⟨fn, hfn, hnm, hbd⟩, hcall⟩ := hc
 have hr : (execOp a.eval ⟨d, .call ⟨.value (.func f), os.toArray, ats⟩, ty, pos, aft, g⟩).run x.P w = .ok (.enter f (os.map a.eval).toArray) w := by
  have hv : a.eval (.func f) = .func (.func f) #[] #[] := rfl
  simp only [execOp, resolve, hv, Deferred.ofValue, Sem.run_bind, Sem.run_pure, Result.andThen_ok, invoke, callFunc, run_program, hfn, hnm, hbd]
  simp
 unfold Oper.wp
 rw [hr]
 obtain ⟨hF, hm0, hk0⟩ := hs.ahead hp
 have hargs := ArgsOv.rep hs ha
 refine (hcall w (bl Mr ++ x.F) _ hF hm0 (RepT.keep hk0 _ _ hargs)).mono ?_
 rintro e w' ⟨v, r', M', rfl, ⟨rfl, rfl⟩, hm', hrep, hf⟩
 have hs' := (hs.back hp hm' hf).perm hp.symm
 have hmem := bl_sub_of_perm hp
 have hk : Keep w (bl M ++ x.F) w' (bl M ++ x.F) := by
  intro b c T fr hb hc
  have h1 := hf.block b (heap_lt hc) (fun h => hb (List.mem_append_left _ ((hmem b).2 (.inl h))))
  exact ⟨hb, by rw [h1.1]; exact hc⟩
 refine hK v w' hk hs'.mem hs'.fr (hrep.keep ?_)
 intro b c T fr hb hc
 refine ⟨fun h => hb ?_, hc⟩
 simp only [List.mem_append] at h ⊢
 rcases h with h | h
 ·rcases (hmem b).1 h with h | h
  ·exact .inl h
  ·exact .inr (.inl h)
 ·exact .inr (.inr h)
end
section
variable {x : Cx} {ops : Array Oper} {L : List En} {R : Act → World → Prop} {rest : List Oper} {ty : TypeId} {pos : String} {aft : Array Edge} {i i0 : Nat}
theorem DE.callm {ι : Type} {Mf : (Nat → Bool) → ι → List ME} {done : ι → List En} {f : FuncId} {d : Tmp} {os : List Operand} {ats : Array TypeId} {avs : ι → List AV} {r : ι → AV} {Mc : List ME} (hc : ∀ c, FnC x.P f (avs c) Mc (fun r' M' => r' = r c ∧ M' = Mc)) (hp : ∀ e c, ∃ Mr, List.Perm (Mf e c) (Mc ++ Mr))
 (ha : ∀ c, ArgsOv (sel (Oper.looksAt ops ⟨some d, .call ⟨.value (.func f), os.toArray, ats⟩, ty, pos, aft, none⟩) (done c ++ L)) os (avs c)) (hdn : Nat.blt d x.n = true)
 (hMf : ∀ e c, Mf (addE e i) c = Mf e c) (hi : anc ops i0 i = true ∨ ∀ c c', r c = r c') (next : DE x ops L Mf i0 R (i + 1) rest (fun c => (d, true, r c) :: done c)) :
 DE x ops L Mf i0 R i (⟨some d, .call ⟨.value (.func f), os.toArray, ats⟩, ty, pos, aft, none⟩ :: rest) done := DE.pure rfl hdn (fun _ => .inl ⟨rfl, rfl⟩) (fun e c _ _ => by obtain ⟨Mr, h⟩ := hp e c; exact Sv.callm (hc c) h (ha c)) hMf hi next
theorem DM.callm {Mf : (Nat → Bool) → Ks → List ME} {done : Ks → List En} {f : FuncId} {d : Tmp} {os : List Operand} {ats : Array TypeId} {avs : Ks → List AV} {r : Ks → AV} {Mc : List ME} (hc : ∀ c, FnC x.P f (avs c) Mc (fun r' M' => r' = r c ∧ M' = Mc)) (hp : ∀ e c, ∃ Mr, List.Perm (Mf e c) (Mc ++ Mr))
 (ha : ∀ c, ArgsOv (sel (Oper.looksAt ops ⟨some d, .call ⟨.value (.func f), os.toArray, ats⟩, ty, pos, aft, none⟩) (done c ++ L)) os (avs c)) (hdn : Nat.blt d x.n = true)
 (hMf : ∀ e c, Mf (addE e i) c = Mf e c) (hi : ∀ c c' : Ks, (∀ k, (k = i ∨ anc ops k i = true) → c k = c' k) → r c = r c') (next : DM x ops L Mf R (i + 1) rest (fun c => (d, true, r c) :: done c)) :
 DM x ops L Mf R i (⟨some d, .call ⟨.value (.func f), os.toArray, ats⟩, ty, pos, aft, none⟩ :: rest) done := DM.pure rfl hdn (fun _ => .inl ⟨rfl, rfl⟩) (fun e c _ _ => by obtain ⟨Mr, h⟩ := hp e c; exact Sv.callm (hc c) h (ha c)) hMf hi next
end
theorem W.ofSv {x : Cx} {L : List En} {M : List ME} {ops : Array Oper} {Q : Exit → Act → World → Prop} {rest : List Oper} {d : Tmp} {op : Op} {ty : TypeId} {pos : String} {aft : Array Edge} {av : AV} (h : Sv x L M ⟨some d, op, ty, pos, aft, none⟩ av) (hd : Nat.blt d x.n = true)
 (next : W x ((d, true, av) :: L) M (wpList x.P ops Q rest)) : W x L M (wpList x.P ops Q (⟨some d, op, ty, pos, aft, none⟩ :: rest)) := by
 intro a w hs
 refine wpList_cons_want (by simp [Region.wanted]) ?_
 refine h a w hs _ _ fun v w' hk hm hf hr => ?_
 exact next _ _ ((hs.world hk hm hf).put hd true av v (fun _ => hr) (by simp))
theorem W.app0 {x : Cx} {L : List En} {M : List ME} {ops : Array Oper} {Q : Exit → Act → World → Prop} {rest : List Oper} {d : Tmp} {T T' E k bytes : Nat} {z : Value} {o1 o2 : Operand} {xs : List AV} {ty : TypeId} {pos : String} {aft : Array Edge} (h1 : Ov true L o1 (.lit (.slice none 0 0))) (h2 : SrcOv x L M o2 k xs) (hT : x.P.underlying T = some (.slice E)) (hT' : NotInt x.P T') (hE : Ty x.P E k bytes z) (hzk : z.cells.size = k)
 (hb1 : Nat.ble 1 bytes = true) (hb : xs.length * bytes ≤ 140737488355328) (hd : Nat.blt d x.n = true) (next : W x ((d, true, .sl k xs) :: L) M (wpList x.P ops Q rest)) :
 W x L M (wpList x.P ops Q (⟨some d, .call ⟨.builtin .append, #[o1, o2], #[T, T']⟩, ty, pos, aft, none⟩ :: rest)) := W.ofSv (Sv.app0 h1 h2 hT hT' hE hzk hb1 hb) hd next
end Go.Vl
end
