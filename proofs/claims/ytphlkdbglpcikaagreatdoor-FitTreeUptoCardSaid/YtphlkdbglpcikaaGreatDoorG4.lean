/-
  Merged: Glu Map ArrV Moore Pairs Least Row8 Key ExprR ExprP Reach Live Ord Cnt Copy Que.
-/
import Derived.Test.YtphlkdbglpcikaaGreatDoorG3
import Derived.MapKept
import Derived.Lib.Join
import Derived.Lib.Overlaps
import Derived.Laws.Externs
set_option linter.unusedVariables false
set_option linter.unusedSimpArgs false
set_option maxRecDepth 100000

section
namespace Go.Vl
structure Gl where
 F : Nat → Prop
 L : Nat → Prop
 N : Prop
 E : Nat → Nat → Prop
namespace Gl
def rd (ty : Nat → Int) (g : Gl) : Nat → Lg
 | p, [] => g.L p
 | p, c :: w => ∃ q, g.E p q ∧ ty q = c ∧ rd ty g q w
def lg (ty : Nat → Int) (g : Gl) : Lg
 | [] => g.N
 | c :: w => ∃ q, g.F q ∧ ty q = c ∧ rd ty g q w
structure In (g : Gl) (b e : Nat) : Prop where
 F : ∀ p, g.F p → b ≤ p ∧ p < e
 L : ∀ p, g.L p → b ≤ p ∧ p < e
 E : ∀ p q, g.E p q → (b ≤ p ∧ p < e) ∧ (b ≤ q ∧ q < e)
theorem rd_congr {ty : Nat → Int} {g h : Gl} (R : Nat → Prop) (hL : ∀ p, R p → (g.L p ↔ h.L p)) (hE : ∀ p q, R p → (g.E p q ↔ h.E p q)) (hR : ∀ p q, R p → g.E p q → R q) : ∀ (w : List Int) (p : Nat), R p → (g.rd ty p w ↔ h.rd ty p w)
 | [], p, hp => hL p hp
 | c :: w, p, hp => by
  simp only [rd]
  constructor
  ·rintro ⟨q, h1, h2, h3⟩
   exact ⟨q, (hE p q hp).1 h1, h2, (rd_congr R hL hE hR w q (hR p q hp h1)).1 h3⟩
  ·rintro ⟨q, h1, h2, h3⟩
   have h1' := (hE p q hp).2 h1
   exact ⟨q, h1', h2, (rd_congr R hL hE hR w q (hR p q hp h1')).2 h3⟩
def one (i : Nat) : Gl := ⟨fun p => p = i, fun p => p = i, False, fun _ _ => False⟩
theorem one_lg (ty : Nat → Int) (i : Nat) : (one i).lg ty = Lg.one (ty i) := Lg.ext fun w => by
 cases w with
 | nil => simp [lg, one, Lg.one]
 | cons c w =>
  simp only [lg, Lg.one, one]
  constructor
  ·rintro ⟨q, rfl, rfl, h⟩
   cases w with
   | nil => rfl
   | cons d w => obtain ⟨_, h, _⟩ := h; exact h.elim
  ·intro h
   obtain ⟨rfl, rfl⟩ : c = ty i ∧ w = [] := by simpa using h
   exact ⟨i, rfl, rfl, rfl⟩
def nothing (b : Prop) : Gl := ⟨fun _ => False, fun _ => False, b, fun _ _ => False⟩
theorem none_lg (ty : Nat → Int) : (nothing False).lg ty = Lg.none := Lg.ext fun w => by cases w <;> simp [lg, nothing, Lg.none]
theorem eps_lg (ty : Nat → Int) : (nothing True).lg ty = Lg.eps := Lg.ext fun w => by cases w <;> simp [lg, nothing, Lg.eps]
theorem nothing_in (b : Prop) (x : Nat) : (nothing b).In x x := ⟨fun _ h => h.elim, fun _ h => h.elim, fun _ _ h => h.elim⟩
section two
variable {ty : Nat → Int} {g h : Gl} {b m e : Nat}
def or (g h : Gl) : Gl := ⟨fun p => g.F p ∨ h.F p, fun p => g.L p ∨ h.L p, g.N ∨ h.N, fun p q => g.E p q ∨ h.E p q⟩
theorem or_in (hg : g.In b m) (hh : h.In m e) (h1 : b ≤ m) (h2 : m ≤ e) : (or g h).In b e := by
 refine ⟨fun p hp => ?_, fun p hp => ?_, fun p q hp => ?_⟩
 ·rcases hp with hp | hp
  ·have := hg.F p hp; omega
  ·have := hh.F p hp; omega
 ·rcases hp with hp | hp
  ·have := hg.L p hp; omega
  ·have := hh.L p hp; omega
 ·rcases hp with hp | hp
  ·have := hg.E p q hp; omega
  ·have := hh.E p q hp; omega
theorem or_lg (hg : g.In b m) (hh : h.In m e) : (or g h).lg ty = Lg.alt (g.lg ty) (h.lg ty) := Lg.ext fun w => by
 have r1 : ∀ w p, p < m → ((or g h).rd ty p w ↔ g.rd ty p w) := fun w p hp => by
  refine rd_congr (fun p => p < m) (fun p hp => ?_) (fun p q hp => ?_) (fun p q hp hpq => ?_) w p hp
  ·exact ⟨fun h' => h'.resolve_right fun h' => by have := hh.L p h'; omega, .inl⟩
  ·exact ⟨fun h' => h'.resolve_right fun h' => by have := hh.E p q h'; omega, .inl⟩
  ·rcases hpq with h' | h'
   ·have := hg.E p q h'; omega
   ·have := hh.E p q h'; omega
 have r2 : ∀ w p, m ≤ p → ((or g h).rd ty p w ↔ h.rd ty p w) := fun w p hp => by
  refine rd_congr (fun p => m ≤ p) (fun p hp => ?_) (fun p q hp => ?_) (fun p q hp hpq => ?_) w p hp
  ·exact ⟨fun h' => h'.resolve_left fun h' => by have := hg.L p h'; omega, .inr⟩
  ·exact ⟨fun h' => h'.resolve_left fun h' => by have := hg.E p q h'; omega, .inr⟩
  ·rcases hpq with h' | h'
   ·have := hg.E p q h'; omega
   ·have := hh.E p q h'; omega
 cases w with
 | nil => exact Iff.rfl
 | cons c w =>
  simp only [lg, Lg.alt]
  constructor
  ·rintro ⟨q, hq | hq, h2, h3⟩
   ·exact .inl ⟨q, hq, h2, (r1 w q (hg.F q hq).2).1 h3⟩
   ·exact .inr ⟨q, hq, h2, (r2 w q (hh.F q hq).1).1 h3⟩
  ·rintro (⟨q, hq, h2, h3⟩ | ⟨q, hq, h2, h3⟩)
   ·exact ⟨q, .inl hq, h2, (r1 w q (hg.F q hq).2).2 h3⟩
   ·exact ⟨q, .inr hq, h2, (r2 w q (hh.F q hq).1).2 h3⟩
def seq (g h : Gl) : Gl := ⟨fun p => g.F p ∨ (g.N ∧ h.F p), fun p => (h.N ∧ g.L p) ∨ h.L p, g.N ∧ h.N, fun p q => (g.E p q ∨ h.E p q) ∨ (g.L p ∧ h.F q)⟩
theorem seq_in (hg : g.In b m) (hh : h.In m e) (h1 : b ≤ m) (h2 : m ≤ e) : (seq g h).In b e := by
 refine ⟨fun p hp => ?_, fun p hp => ?_, fun p q hp => ?_⟩
 ·rcases hp with hp | ⟨_, hp⟩
  ·have := hg.F p hp; omega
  ·have := hh.F p hp; omega
 ·rcases hp with ⟨_, hp⟩ | hp
  ·have := hg.L p hp; omega
  ·have := hh.L p hp; omega
 ·rcases hp with (hp | hp) | ⟨hp, hq⟩
  ·have := hg.E p q hp; omega
  ·have := hh.E p q hp; omega
  ·have := hg.L p hp; have := hh.F q hq; omega
theorem seq_lg (hg : g.In b m) (hh : h.In m e) : (seq g h).lg ty = Lg.cat (g.lg ty) (h.lg ty) := Lg.ext fun w => by
 have r2 : ∀ w p, m ≤ p → ((seq g h).rd ty p w ↔ h.rd ty p w) := fun w p hp => by
  refine rd_congr (fun p => m ≤ p) (fun p hp => ?_) (fun p q hp => ?_) (fun p q hp hpq => ?_) w p hp
  ·exact ⟨fun h' => h'.resolve_left fun h' => by have := hg.L p h'.2; omega, .inr⟩
  ·exact ⟨fun h' => (h'.resolve_right fun h' => by have := hg.L p h'.1; omega).resolve_left fun h' => by have := hg.E p q h'; omega, fun h' => .inl (.inr h')⟩
  ·rcases hpq with (h' | h') | ⟨h', h''⟩
   ·have := hg.E p q h'; omega
   ·have := hh.E p q h'; omega
   ·have := hg.L p h'; omega
 have r1 : ∀ w p, p < m → ((seq g h).rd ty p w ↔ ∃ u v, w = u ++ v ∧ g.rd ty p u ∧ h.lg ty v) := by
  intro w
  induction w with
  | nil =>
   intro p hp
   constructor
   ·rintro (⟨h1, h2⟩ | h1)
    ·exact ⟨[], [], rfl, h2, h1⟩
    ·have := hh.L p h1; omega
   ·rintro ⟨u, v, e, h1, h2⟩
    obtain ⟨rfl, rfl⟩ := List.append_eq_nil_iff.1 e.symm
    exact .inl ⟨h2, h1⟩
  | cons c w ih =>
   intro p hp
   simp only [rd]
   constructor
   ·rintro ⟨q, (h1 | h1) | ⟨h1, h1'⟩, h2, h3⟩
    ·obtain ⟨u, v, rfl, h4, h5⟩ := (ih q (hg.E p q h1).2.2).1 h3
     exact ⟨c :: u, v, rfl, ⟨q, h1, h2, h4⟩, h5⟩
    ·have := hh.E p q h1; omega
    ·exact ⟨[], c :: w, rfl, h1, q, h1', h2, (r2 w q (hh.F q h1').1).1 h3⟩
   ·rintro ⟨u, v, e, h1, h2⟩
    cases u with
    | nil =>
     have e : c :: w = v := e
     subst e
     obtain ⟨q, h3, h4, h5⟩ := h2
     exact ⟨q, .inr ⟨h1, h3⟩, h4, (r2 w q (hh.F q h3).1).2 h5⟩
    | cons d u =>
     obtain ⟨rfl, rfl⟩ : c = d ∧ w = u ++ v := by simpa using e
     obtain ⟨q, h3, h4, h5⟩ := h1
     exact ⟨q, .inl (.inl h3), h4, (ih q (hg.E p q h3).2.2).2 ⟨u, v, rfl, h5, h2⟩⟩
 cases w with
 | nil =>
  constructor
  ·rintro ⟨h1, h2⟩; exact ⟨[], [], rfl, h1, h2⟩
  ·rintro ⟨u, v, e, h1, h2⟩
   obtain ⟨rfl, rfl⟩ := List.append_eq_nil_iff.1 e.symm
   exact ⟨h1, h2⟩
 | cons c w =>
  constructor
  ·rintro ⟨q, h1 | ⟨h1, h1'⟩, h2, h3⟩
   ·obtain ⟨u, v, rfl, h4, h5⟩ := (r1 w q (hg.F q h1).2).1 h3
    exact ⟨c :: u, v, rfl, ⟨q, h1, h2, h4⟩, h5⟩
   ·exact ⟨[], c :: w, rfl, h1, q, h1', h2, (r2 w q (hh.F q h1').1).1 h3⟩
  ·rintro ⟨u, v, e, h1, h2⟩
   cases u with
   | nil =>
    have e : c :: w = v := e
    subst e
    obtain ⟨q, h3, h4, h5⟩ := h2
    exact ⟨q, .inr ⟨h1, h3⟩, h4, (r2 w q (hh.F q h3).1).2 h5⟩
   | cons d u =>
    obtain ⟨rfl, rfl⟩ : c = d ∧ w = u ++ v := by simpa using e
    obtain ⟨q, h3, h4, h5⟩ := h1
    exact ⟨q, .inl h3, h4, (r1 (u ++ v) q (hg.F q h3).2).2 ⟨u, v, rfl, h5, h2⟩⟩
def loop (g : Gl) (n : Prop) : Gl := ⟨g.F, g.L, n, fun p q => g.E p q ∨ (g.L p ∧ g.F q)⟩
theorem loop_in {n : Prop} (hg : g.In b e) : (loop g n).In b e := by
 refine ⟨hg.F, hg.L, fun p q hp => ?_⟩
 rcases hp with hp | ⟨hp, hq⟩
 ·exact hg.E p q hp
 ·exact ⟨hg.L p hp, hg.F q hq⟩
theorem star_cons {A : Lg} {z : List Int} (hz : Lg.star A z) : ∀ c w, z = c :: w → ∃ u v, w = u ++ v ∧ A (c :: u) ∧ Lg.star A v := by
 induction hz with
 | nil => intro c w e; cases e
 | cons u v hu hv ih =>
  intro c w e
  cases u with
  | nil => exact ih c w e
  | cons d u =>
   obtain ⟨rfl, rfl⟩ : d = c ∧ u ++ v = w := by simpa using e
   exact ⟨u, v, rfl, hu, hv⟩
theorem loop_rd {n : Prop} : ∀ (w : List Int) (p : Nat), (loop g n).rd ty p w ↔ ∃ u v, w = u ++ v ∧ g.rd ty p u ∧ Lg.star (g.lg ty) v
 | [], p => by
  constructor
  ·intro h1; exact ⟨[], [], rfl, h1, .nil⟩
  ·rintro ⟨u, v, e, h1, h2⟩
   obtain ⟨rfl, rfl⟩ := List.append_eq_nil_iff.1 e.symm
   exact h1
 | c :: w, p => by
  have ih := loop_rd (n := n) w
  simp only [rd]
  constructor
  ·rintro ⟨q, h1 | ⟨h1, h1'⟩, h2, h3⟩
   ·obtain ⟨u, v, rfl, h4, h5⟩ := (ih q).1 h3
    exact ⟨c :: u, v, rfl, ⟨q, h1, h2, h4⟩, h5⟩
   ·obtain ⟨u, v, rfl, h4, h5⟩ := (ih q).1 h3
    exact ⟨[], c :: (u ++ v), rfl, h1, .cons (c :: u) v ⟨q, h1', h2, h4⟩ h5⟩
  ·rintro ⟨u, v, e, h1, h2⟩
   cases u with
   | nil =>
    have e : c :: w = v := e
    obtain ⟨u, v, rfl, ⟨q, h3, h4, h5⟩, h6⟩ := star_cons h2 c w e.symm
    exact ⟨q, .inr ⟨h1, h3⟩, h4, (ih q).2 ⟨u, v, rfl, h5, h6⟩⟩
   | cons d u =>
    obtain ⟨rfl, rfl⟩ : c = d ∧ w = u ++ v := by simpa using e
    obtain ⟨q, h3, h4, h5⟩ := h1
    exact ⟨q, .inl h3, h4, (ih q).2 ⟨u, v, rfl, h5, h2⟩⟩
theorem loop_lg_cons {n : Prop} (c : Int) (w : List Int) : (loop g n).lg ty (c :: w) ↔ Lg.star (g.lg ty) (c :: w) := by
 constructor
 ·rintro ⟨q, h1, h2, h3⟩
  obtain ⟨u, v, rfl, h4, h5⟩ := (loop_rd w q).1 h3
  exact .cons (c :: u) v ⟨q, h1, h2, h4⟩ h5
 ·intro h1
  obtain ⟨u, v, rfl, ⟨q, h3, h4, h5⟩, h6⟩ := star_cons h1 c w rfl
  exact ⟨q, h3, h4, (loop_rd (u ++ v) q).2 ⟨u, v, rfl, h5, h6⟩⟩
theorem star_lg : (loop g True).lg ty = Lg.star (g.lg ty) := Lg.ext fun w => by
 cases w with
 | nil => exact ⟨fun _ => .nil, fun _ => trivial⟩
 | cons c w => exact loop_lg_cons c w
theorem plus_lg : (loop g g.N).lg ty = Lg.cat (g.lg ty) (Lg.star (g.lg ty)) := Lg.ext fun w => by
 cases w with
 | nil =>
  constructor
  ·intro h1; exact ⟨[], [], rfl, h1, .nil⟩
  ·rintro ⟨u, v, e, h1, h2⟩
   obtain ⟨rfl, rfl⟩ := List.append_eq_nil_iff.1 e.symm
   exact h1
 | cons c w =>
  rw [loop_lg_cons]
  constructor
  ·intro h1
   obtain ⟨u, v, rfl, h2, h3⟩ := star_cons h1 c w rfl
   exact ⟨c :: u, v, rfl, h2, h3⟩
  ·rintro ⟨u, v, e, h1, h2⟩
   rw [e]; exact .cons u v h1 h2
def opt (g : Gl) : Gl := ⟨g.F, g.L, True, g.E⟩
theorem opt_in (hg : g.In b e) : (opt g).In b e := ⟨hg.F, hg.L, hg.E⟩
theorem opt_lg : (opt g).lg ty = Lg.alt Lg.eps (g.lg ty) := Lg.ext fun w => by
 cases w with
 | nil => exact ⟨fun _ => .inl rfl, fun _ => trivial⟩
 | cons c w =>
  have hr : ∀ w p, (opt g).rd ty p w ↔ g.rd ty p w := fun w p => rd_congr (g := opt g) (h := g) (fun _ => True) (fun _ _ => Iff.rfl) (fun _ _ _ => Iff.rfl) (fun _ _ _ _ => trivial) w p trivial
  constructor
  ·rintro ⟨q, h1, h2, h3⟩; exact .inr ⟨q, h1, h2, (hr w q).1 h3⟩
  ·rintro (h1 | ⟨q, h1, h2, h3⟩)
   ·cases h1
   ·exact ⟨q, h1, h2, (hr w q).2 h3⟩
theorem lg_ty {ty' : Nat → Int} (hg : g.In b e) (ht : ∀ p, b ≤ p → p < e → ty p = ty' p) : g.lg ty = g.lg ty' := Lg.ext fun w => by
 have hr : ∀ w p, g.rd ty p w ↔ g.rd ty' p w := by
  intro w
  induction w with
  | nil => intro p; exact Iff.rfl
  | cons c w ih =>
   intro p
   simp only [rd]
   constructor
   ·rintro ⟨q, h1, h2, h3⟩
    have := (hg.E p q h1).2
    exact ⟨q, h1, by rw [← ht q this.1 this.2]; exact h2, (ih q).1 h3⟩
   ·rintro ⟨q, h1, h2, h3⟩
    have := (hg.E p q h1).2
    exact ⟨q, h1, by rw [ht q this.1 this.2]; exact h2, (ih q).2 h3⟩
 cases w with
 | nil => exact Iff.rfl
 | cons c w =>
  simp only [lg]
  constructor
  ·rintro ⟨q, h1, h2, h3⟩
   have := hg.F q h1
   exact ⟨q, h1, by rw [← ht q this.1 this.2]; exact h2, (hr w q).1 h3⟩
  ·rintro ⟨q, h1, h2, h3⟩
   have := hg.F q h1
   exact ⟨q, h1, by rw [ht q this.1 this.2]; exact h2, (hr w q).2 h3⟩
theorem ext' {g h : Gl} (hF : ∀ p, g.F p ↔ h.F p) (hL : ∀ p, g.L p ↔ h.L p) (hN : g.N ↔ h.N) (hE : ∀ p q, g.E p q ↔ h.E p q) : g = h := by
 cases g; cases h
 simp only [Gl.mk.injEq]
 exact ⟨funext fun p => propext (hF p), funext fun p => propext (hL p), propext hN, funext fun p => funext fun q => propext (hE p q)⟩
end two
end Gl
end Go.Vl
end
section
namespace Go.Vl
def mEnts : Nat → List Value → List MapEntry
 | _, [] => []
 | i, k :: ks => ⟨k, .int .i64 (i : Int), i⟩ :: mEnts (i + 1) ks
def mObj (ks : List Value) : Obj := .map (mEnts 0 ks).toArray ks.length
theorem mEnts_length : ∀ (ks : List Value) (i : Nat), (mEnts i ks).length = ks.length
 | [], _ => rfl
 | k :: ks, i => by rw [mEnts, List.length_cons, List.length_cons, mEnts_length ks]
theorem mEnts_snoc (k : Value) : ∀ (ks : List Value) (i : Nat), mEnts i (ks ++ [k]) = mEnts i ks ++ [⟨k, .int .i64 ((i + ks.length : Nat) : Int), i + ks.length⟩]
 | [], i => rfl
 | q :: ks, i => by
  rw [List.cons_append, mEnts, mEnts_snoc k ks, mEnts, List.cons_append, List.length_cons]
  rw [show i + 1 + ks.length = i + (ks.length + 1) from by omega]
def place {α : Type} [DecidableEq α] (k : α) : List α → Option Nat
 | [] => none
 | q :: ks => if k = q then some 0 else (place k ks).map (· + 1)
theorem place_none {α : Type} [DecidableEq α] {k : α} : ∀ {ks : List α}, place k ks = none ↔ k ∉ ks
 | [] => by simp [place]
 | q :: ks => by
  simp only [place, List.mem_cons, not_or]
  split
  ·rename_i h; simp [h]
  ·rename_i h; rw [Option.map_eq_none_iff, place_none]; simp [h]
theorem place_some {α : Type} [DecidableEq α] {k : α} : ∀ {ks : List α} {i : Nat}, place k ks = some i → ks[i]? = some k
 | [], i, h => by cases h
 | q :: ks, i, h => by
  simp only [place] at h
  split at h
  ·rename_i e; cases h; rw [e]; rfl
  ·obtain ⟨j, hj, rfl⟩ := Option.map_eq_some_iff.1 h
   have := place_some hj
   simpa using this
theorem place_lt {α : Type} [DecidableEq α] {k : α} {ks : List α} {i : Nat} (h : place k ks = some i) : i < ks.length := by
 have := place_some h
 rcases Nat.lt_or_ge i ks.length with h1 | h1
 ·exact h1
 ·rw [List.getElem?_eq_none h1] at this; cases this
theorem place_new {α : Type} [DecidableEq α] {k : α} {ks : List α} (h : k ∉ ks) : place k (ks ++ [k]) = some ks.length := by
 induction ks with
 | nil => simp [place]
 | cons r ks ih =>
  rw [List.mem_cons, not_or] at h
  rw [List.cons_append, place, if_neg h.1, ih h.2]; rfl
structure KeyKind (P : Program) (K : TypeId) {α : Type} [DecidableEq α] (f : α → Value) : Prop where
 check : ∀ (e : Bool) (k : α) (w : World), (Instr.checkKey e 10000 K (f k)).run P w = .ok () w
 find : ∀ (k : α) (ks : List α) (w : World), (Instr.findKey K (f k) (mEnts 0 (ks.map f))).run P w = .ok ((place k ks).map fun i => (i, .int .i64 (i : Int))) w
theorem findNow_place {α : Type} [DecidableEq α] {f : α → Value} {d : TypeDesc} (hs : ∀ a b : α, Instr.sameNow d (f a) (f b) = some (decide (a = b))) (k : α) :
 ∀ (ks : List α) (i : Nat), Instr.findNow d (f k) (mEnts i (ks.map f)) i = some ((place k ks).map fun j => (i + j, .int .i64 ((i + j : Nat) : Int)))
 | [], i => rfl
 | q :: ks, i => by
  rw [List.map_cons, mEnts, Instr.findNow, hs, place]
  by_cases h : k = q
  ·rw [if_pos h, decide_eq_true h]; rfl
  ·rw [if_neg h, decide_eq_false h]
   show Instr.findNow d (f k) (mEnts (i + 1) (ks.map f)) (i + 1) = _
   rw [findNow_place hs k ks (i + 1), Option.map_map]
   congr 2
   funext j
   show (i + 1 + j, Value.int .i64 ((i + 1 + j : Nat) : Int)) = (i + (j + 1), Value.int .i64 ((i + (j + 1) : Nat) : Int))
   rw [show i + 1 + j = i + (j + 1) from by omega]
theorem KeyKind.str {P : Program} {K : TypeId} (hK : P.underlying K = some .string) : KeyKind P K (fun s : List UInt8 => Value.string ⟨s.toArray⟩) := by
 refine ⟨fun e k w => ?_, fun k ks w => ?_⟩
 ·exact Go.MapKept.run_checkKey hK (by trivial) e 9999
 ·have h := findNow_place (d := .string) (f := fun s : List UInt8 => Value.string ⟨s.toArray⟩) (fun a b => by
   show some ((⟨a.toArray⟩ : ByteArray) == ⟨b.toArray⟩) = _
   congr 1
   show (a.toArray == b.toArray) = _
   by_cases h : a = b
   ·subst h; simp
   ·rw [decide_eq_false h]
    exact beq_eq_false_iff_ne.2 fun h' => h (by simpa using congrArg Array.toList h')) k ks 0
  simp only [Instr.findKey, Sem.run_bind, run_underlying hK, Result.andThen_ok, h, Sem.run_pure]
  simp
theorem KeyKind.int {P : Program} {K : TypeId} (hK : P.underlying K = some (.int .i64)) : KeyKind P K (fun n : Int => Value.int .i64 n) := by
 refine ⟨fun e k w => ?_, fun k ks w => ?_⟩
 ·exact Go.MapKept.run_checkKey (k := .int .i64 k) hK rfl e 9999
 ·have h := findNow_place (d := .int .i64) (f := fun n : Int => Value.int .i64 n) (fun a b => by
   by_cases h : a = b
   ·subst h; simp [Instr.sameNow]
   ·simp [Instr.sameNow, h]) k ks 0
  simp only [Instr.findKey, Sem.run_bind, run_underlying hK, Result.andThen_ok, h, Sem.run_pure]
  simp
section map
variable {x : Cx} {g : Bool} {L : List (Tmp × Bool × AV)} {M : List ME} {ops : Array Oper} {Q : Exit → Act → World → Prop} {rest : List Oper} {ty : TypeId} {pos : String} {aft : Array Edge}
theorem W.mkmap {d : Tmp} {T : TypeId} (hd : Nat.blt d x.n = true) (next : ∀ b, W x ((d, true, .lit (.map (some b))) :: L) (ME.obj b (mObj []) :: M) (wpList x.P ops Q rest)) :
 W x L M (wpList x.P ops Q (⟨some d, .makeMap T none, ty, pos, aft, none⟩ :: rest)) := by
 refine W.opv (ι := Nat) (fun b => ME.obj b (mObj []) :: M) (fun b => .lit (.map (some b))) hd ?_ next; intro a w hs
 refine ⟨.map (some w.heap.size), w.alloc (mObj []), w.heap.size, ?_, ?_, Rep.lit _⟩
 ·simp [execOp, Instr.makeMap, newObj, Sem.run, mObj, mEnts]
 ·refine hs.alloc _ _ rfl ?_
  intro N hN
  exact ⟨alloc_new _ _, by intro c T fr h; cases h⟩
theorem Ev.lenmap (i : Nat) {T K V b : Nat} {ks : List Value} {o1 : Operand} (h1 : Ov g L o1 (.lit (.map (some b)))) (hM : M[i]? = some (ME.obj b (mObj ks))) (hT : x.P.underlying T = some (.map K V)) :
 Ev x g L M (.call ⟨.builtin .len, #[o1], #[T]⟩) ty (.lit (.int .i64 (ks.length : Int))) := Ev.pure fun a w hs hg => by
 obtain ⟨hh, _⟩ := hs.mem.holds _ (List.mem_of_getElem? hM)
 have he := h1.lit hg hs
 simp only [mObj] at hh
 simp [execOp, resolve, he, getObj, Sem.run, hh, run_underlying hT, mEnts_length, goInt, invoke, builtin, Builtin.len_]
theorem Ev.look1 (i : Nat) {T K V b k' bytes : Nat} {α : Type} [DecidableEq α] {f : α → Value} {ks : List α} {k : α} {o1 o2 : Operand} (h1 : Ov g L o1 (.lit (.map (some b)))) (hM : M[i]? = some (ME.obj b (mObj (ks.map f)))) (h2 : Ov g L o2 (.lit (f k)))
 (hT : x.P.underlying T = some (.map K V)) (hk : KeyKind x.P K f) (hV : Ty x.P V k' bytes (.int .i64 0)) :
 Ev x g L M (.lookup T o1 o2 false) ty (.lit (.int .i64 (((place k ks).getD 0 : Nat) : Int))) := Ev.pure fun a w hs hg => by
 obtain ⟨hh, _⟩ := hs.mem.holds _ (List.mem_of_getElem? hM)
 have e1 := h1.lit hg hs
 have e2 := h2.lit hg hs
 simp only [mObj] at hh
 have hf := hk.find k ks w
 have hc := fun e => hk.check e k w
 simp only [execOp, e1, e2, Instr.lookup, getObj, Sem.run_bind, Sem.run, hh, Result.andThen_ok, run_underlying hT, Sem.run_pure, hc, hf]
 cases place k ks with
 | none => simp [hV.zero w]
 | some j => simp
theorem Ev.look2 (i : Nat) {T K V b k' bytes : Nat} {α : Type} [DecidableEq α] {f : α → Value} {ks : List α} {k : α} {o1 o2 : Operand} (h1 : Ov g L o1 (.lit (.map (some b)))) (hM : M[i]? = some (ME.obj b (mObj (ks.map f)))) (h2 : Ov g L o2 (.lit (f k)))
 (hT : x.P.underlying T = some (.map K V)) (hk : KeyKind x.P K f) (hV : Ty x.P V k' bytes (.int .i64 0)) :
 Ev x g L M (.lookup T o1 o2 true) ty (.tup [.lit (.int .i64 (((place k ks).getD 0 : Nat) : Int)), .lit (.bool (place k ks).isSome)]) := fun a w hs hg => by
 obtain ⟨hh, _⟩ := hs.mem.holds _ (List.mem_of_getElem? hM)
 have e1 := h1.lit hg hs
 have e2 := h2.lit hg hs
 simp only [mObj] at hh
 have hf := hk.find k ks w
 have hc := fun e => hk.check e k w
 refine ⟨.tuple #[.int .i64 (((place k ks).getD 0 : Nat) : Int), .bool (place k ks).isSome], ?_, rfl, ?_⟩
 ·simp only [execOp, e1, e2, Instr.lookup, getObj, Sem.run_bind, Sem.run, hh, Result.andThen_ok, run_underlying hT, Sem.run_pure, hc, hf]
  cases place k ks with
  | none => simp [hV.zero w]
  | some j => simp
 ·simp only [RepC]
  exact ⟨_, rfl, by simp only [RepT]; exact ⟨_, _, rfl, Rep.lit _, _, _, rfl, Rep.lit _, rfl⟩⟩
theorem W.mapnew (i : Nat) {T K V b : Nat} {α : Type} [DecidableEq α] {f : α → Value} {ks : List α} {k : α} {o1 o2 o3 : Operand} (h1 : Ov true L o1 (.lit (.map (some b)))) (hM : M[i]? = some (ME.obj b (mObj (ks.map f)))) (h2 : Ov true L o2 (.lit (f k)))
 (h3 : Ov true L o3 (.lit (.int .i64 (ks.length : Int)))) (hT : x.P.underlying T = some (.map K V)) (hk : KeyKind x.P K f) (hn : k ∉ ks) (op : Op) (hop : op = .mapUpdate T o1 o2 o3 ∨ op = .insert T o1 o2 o3)
 (next : W x L (M.set i (ME.obj b (mObj ((ks ++ [k]).map f)))) (wpList x.P ops Q rest)) :
 W x L M (wpList x.P ops Q (⟨none, op, ty, pos, aft, none⟩ :: rest)) := by
 refine W.opu (ι := Unit) (fun _ => M.set i (ME.obj b (mObj ((ks ++ [k]).map f)))) ?_ (fun _ => next); intro a w hs
 obtain ⟨hh, _⟩ := hs.mem.holds _ (List.mem_of_getElem? hM)
 have e1 := h1.lit rfl hs
 have e2 := h2.lit rfl hs
 have e3 := h3.lit rfl hs
 have hf := hk.find k ks w
 have hc := fun e => hk.check e k w
 rw [place_none.2 hn, Option.map_none] at hf
 refine ⟨{ w with heap := w.heap.setIfInBounds b (mObj ((ks ++ [k]).map f)) }, (), ?_, ?_⟩
 ·have hnew : (mEnts 0 (ks.map f)).toArray.push ⟨f k, .int .i64 (ks.length : Int), ks.length⟩ = (mEnts 0 ((ks ++ [k]).map f)).toArray := by
   rw [List.map_append, List.map_cons, List.map_nil, mEnts_snoc, List.length_map]; simp
  simp only [mObj] at hh
  have hrun : (Instr.mapUpdate T (.map (some b)) (f k) (.int .i64 (ks.length : Int))).run x.P w = .ok () { w with heap := w.heap.setIfInBounds b (mObj ((ks ++ [k]).map f)) } := by
   simp only [Instr.mapUpdate, getObj, setObj, Sem.run_bind, Sem.run, hh, Result.andThen_ok, run_underlying hT, Sem.run_pure, hc, hf, List.length_map]
   simp only [mObj, hnew, List.length_map, List.length_append, List.length_singleton, hh]
  rcases hop with rfl | rfl
  ·simp only [execOp, e1, e2, e3, Sem.run_bind, hrun, Result.andThen_ok, Sem.run_pure]
  ·simp only [execOp, e1, e2, e3, Sem.run_bind, hrun, Result.andThen_ok, Sem.run_pure]
 ·refine hs.write hM rfl rfl ?_
  intro w' _ hnew _
  exact ⟨hnew, by intro c T fr h; cases h⟩
end map
end Go.Vl
end
section
namespace Go.Vl
section arrv
variable {x : Cx} {g : Bool} {L : List (Tmp × Bool × AV)} {M : List ME} {ty T : TypeId} {o1 o2 : Operand}
theorem Ev.boxat {E b bytes len : Nat} {z : Value} {i : Int} {ki : IntKind} (h1 : Ov g L o1 (.lit (.pointer (some ⟨b, 0, none⟩)))) (h2 : Ov g L o2 (.lit (.int ki i))) (hT : x.P.underlying T = some (.array len E)) (hE : Ty x.P E 1 bytes z)
 (hi : g = true → 0 ≤ i ∧ i < len) : Ev x g L M (.indexAddr T o1 o2) ty (.lit (.pointer (some ⟨b, i.toNat, none⟩))) := Ev.pure fun a w hs hg => by
 obtain ⟨hi0, hi1⟩ := hi hg
 simp [execOp, h1.lit hg hs, h2.lit hg hs, Instr.indexAt, Instr.sureAddr, asIntOf, run_underlying hT, hi0, hi1, hE.size, Addr.add_lit]
theorem Ev.arrat {E len : Nat} {cs : List AV} {c : AV} {i : Int} {ki : IntKind} (h1 : Ov g L o1 (.agg cs)) (h2 : Ov g L o2 (.lit (.int ki i))) (hT : x.P.underlying T = some (.array len E)) (hE : x.P.underlying E = some (.int .i64))
 (hi : g = true → 0 ≤ i ∧ i < len ∧ cs[i.toNat]? = some c) (hz : Ty x.P E 1 8 (.int .i64 0)) : Ev x g L M (.index T o1 o2) ty c := fun a w hs hg => by
 obtain ⟨hi0, hi1, hc⟩ := hi hg
 obtain ⟨us, e1, hr⟩ := (h1.rep hg hs).agg_inv
 obtain ⟨v, hv, hrep⟩ := RepL.get hr hc
 refine ⟨v, ?_, hrep⟩
 have hv' : us[i.toNat]? = some v := by simpa using hv
 have hp : (part E us i.toNat).run x.P w = .ok v w := by
  have hag : (isAgg E).run x.P w = .ok false w := IsAgg.run ⟨_, hE, rfl⟩ w
  have hsz := hz.size w
  simp only [part, Sem.run_bind, hag, Result.andThen_ok]
  simp [hv']
 simp only [execOp, e1, h2.lit hg hs, Instr.index, asIntOf, Sem.run_bind, run_underlying hT, Result.andThen_ok, Sem.run_pure, hi0, hi1, hz.size w]
 simp [hi0, hi1, hp, Sem.run_bind, hz.size w]
end arrv
end Go.Vl
end
section
namespace Go.Vl
namespace Au
def lives (w : Au) (i : Nat) : Prop := ∃ u, w.acc (i : Int) u
def cto (w : Au) (out : Nat → Int) (i c : Nat) : Int := if 0 ≤ w.to (i : Int) (c : Int) then out (w.to (i : Int) (c : Int)).toNat else -1
structure Moore (w : Au) (out : Nat → Int) (many : Nat) : Prop where
 neg : ∀ i, i < w.next.length → (out i < 0 ↔ ¬ w.lives i)
 same : ∀ i j, i < w.next.length → j < w.next.length → w.lives i → (∀ u, w.acc (i : Int) u ↔ w.acc (j : Int) u) → out i = out j
 fin : ∀ i j, i < w.next.length → j < w.next.length → 0 ≤ out i → out i = out j → w.final.getD i false = w.final.getD j false
 cnt : many ≠ 0 → (∀ i, i < w.next.length → out i < (many : Int)) ∧ ∀ v : Nat, v < many → ∃ i, i < w.next.length ∧ out i = (v : Int)
structure Div (w : Au) (out next : Nat → Int) (m : Nat) : Prop where
 neg : ∀ i, i < w.next.length → (next i < 0 ↔ out i < 0)
 eq : ∀ i j, i < w.next.length → j < w.next.length → 0 ≤ out i → 0 ≤ out j → (next i = next j ↔ (out i = out j ∧ ∀ c : Nat, c < 8 → w.cto out i c = w.cto out j c))
 lt : ∀ i, i < w.next.length → next i < (m : Int)
 hit : ∀ v : Nat, v < m → ∃ i, i < w.next.length ∧ next i = (v : Int)
theorem to_state {w : Au} (hs : w.Shape) {i c : Nat} (hi : i < w.next.length) (hc : c < 8) : w.to (i : Int) (c : Int) < 0 ∨ ∃ j : Nat, j < w.next.length ∧ w.to (i : Int) (c : Int) = (j : Int) := by
 have := to_range hs (i := (i : Int)) (c := (c : Int)) (by omega) (by omega) (by omega) (by omega)
 rcases Int.lt_or_le (w.to (i : Int) (c : Int)) 0 with h | h
 ·exact .inl h
 ·exact .inr ⟨(w.to (i : Int) (c : Int)).toNat, by omega, by omega⟩
theorem cto_neg {w : Au} {out : Nat → Int} {i c : Nat} (h : w.to (i : Int) (c : Int) < 0) : w.cto out i c = -1 := by
 unfold cto; rw [if_neg (by omega)]
theorem cto_nat {w : Au} {out : Nat → Int} {i c j : Nat} (h : w.to (i : Int) (c : Int) = (j : Int)) : w.cto out i c = out j := by
 unfold cto; rw [h, if_pos (by omega)]; rfl
theorem acc_step {w : Au} (i : Nat) (c : Nat) (hc : c < 8) (u : List Int) : w.acc (i : Int) ((c : Int) :: u) ↔ w.acc (w.to (i : Int) (c : Int)) u := acc_cons (by omega) (by omega) (by omega)
section div
variable {w : Au} {out next : Nat → Int} {many m : Nat}
theorem Moore.step (hs : w.Shape) (h : w.Moore out many) {i j : Nat} (hi : i < w.next.length) (hj : j < w.next.length) (hl : ∀ u, w.acc (i : Int) u ↔ w.acc (j : Int) u) {c : Nat} (hc : c < 8) (hneg1 : ∀ k, k < w.next.length → out k < 0 → out k = -1) : w.cto out i c = w.cto out j c := by
 have hl2 : ∀ u, w.acc (w.to (i : Int) (c : Int)) u ↔ w.acc (w.to (j : Int) (c : Int)) u := fun u => by
  rw [← acc_step i c hc, ← acc_step j c hc]; exact hl _
 rcases to_state hs hi hc with h1 | ⟨a, ha, h1⟩ <;> rcases to_state hs hj hc with h2 | ⟨b, hb, h2⟩
 ·rw [cto_neg h1, cto_neg h2]
 ·rw [cto_neg h1, cto_nat h2]
  rw [h2] at hl2
  have : out b < 0 := (h.neg b hb).2 fun ⟨u, hu⟩ => acc_neg h1 u ((hl2 u).2 hu)
  rw [hneg1 b hb this]
 ·rw [cto_nat h1, cto_neg h2]
  rw [h1] at hl2
  have : out a < 0 := (h.neg a ha).2 fun ⟨u, hu⟩ => acc_neg h2 u ((hl2 u).1 hu)
  rw [hneg1 a ha this]
 ·rw [cto_nat h1, cto_nat h2]
  rw [h1, h2] at hl2
  by_cases hlv : w.lives a
  ·exact h.same a b ha hb hlv hl2
  ·have h3 := (h.neg a ha).2 hlv
   have h4 : out b < 0 := (h.neg b hb).2 fun ⟨u, hu⟩ => hlv ⟨u, (hl2 u).2 hu⟩
   rw [hneg1 a ha h3, hneg1 b hb h4]
theorem Moore.div (hs : w.Shape) (h : w.Moore out many) (hn : ∀ k, k < w.next.length → out k < 0 → out k = -1) (hd : w.Div out next m) : w.Moore next m := by
 refine ⟨fun i hi => (hd.neg i hi).trans (h.neg i hi), fun i j hi hj hl he => ?_, fun i j hi hj h0 he => ?_, fun _ => ⟨hd.lt, hd.hit⟩⟩
 ·have hi0 : 0 ≤ out i := Int.not_lt.1 fun h' => ((h.neg i hi).1 h') hl
  have hlj : w.lives j := by obtain ⟨u, hu⟩ := hl; exact ⟨u, (he u).1 hu⟩
  have hj0 : 0 ≤ out j := Int.not_lt.1 fun h' => ((h.neg j hj).1 h') hlj
  exact (hd.eq i j hi hj hi0 hj0).2 ⟨h.same i j hi hj hl he, fun c hc => h.step hs hi hj he hc hn⟩
 ·have hi0 : 0 ≤ out i := Int.not_lt.1 fun h' => by have := (hd.neg i hi).2 h'; omega
  have hj0 : 0 ≤ out j := Int.not_lt.1 fun h' => by have := (hd.neg j hj).2 h'; omega
  exact h.fin i j hi hj hi0 ((hd.eq i j hi hj hi0 hj0).1 he).1
theorem Moore.grows (h : w.Moore out many) (hd : w.Div out next m) : many ≤ m := by
 classical
 rcases Nat.eq_zero_or_pos many with h0 | h0
 ·omega
 ·obtain ⟨_, hh⟩ := h.cnt (by omega)
  let g : Nat → Nat := fun v => if hv : v < many then (next (Classical.choose (hh v hv))).toNat else 0
  refine pigeon m many g (fun v hv => ?_) (fun v u hv hu e => ?_)
  ·simp only [g, dif_pos hv]
   obtain ⟨h1, h2⟩ := Classical.choose_spec (hh v hv)
   have h3 := hd.lt _ h1
   have h4 : ¬ next (Classical.choose (hh v hv)) < 0 := fun h' => by have := (hd.neg _ h1).1 h'; omega
   omega
  ·simp only [g, dif_pos hv, dif_pos hu] at e
   obtain ⟨h1, h2⟩ := Classical.choose_spec (hh v hv)
   obtain ⟨h3, h4⟩ := Classical.choose_spec (hh u hu)
   have h5 : ¬ next (Classical.choose (hh v hv)) < 0 := fun h' => by have := (hd.neg _ h1).1 h'; omega
   have h6 : ¬ next (Classical.choose (hh u hu)) < 0 := fun h' => by have := (hd.neg _ h3).1 h'; omega
   have := ((hd.eq _ _ h1 h3 (by omega) (by omega)).1 (by omega)).1
   omega
theorem Div.most (hd : w.Div out next m) : m ≤ w.next.length := by
 classical
 let g : Nat → Nat := fun v => if hv : v < m then Classical.choose (hd.hit v hv) else 0
 refine pigeon w.next.length m g (fun v hv => ?_) (fun v u hv hu e => ?_)
 ·simp only [g, dif_pos hv]; exact (Classical.choose_spec (hd.hit v hv)).1
 ·simp only [g, dif_pos hv, dif_pos hu] at e
  have h1 := (Classical.choose_spec (hd.hit v hv)).2
  have h2 := (Classical.choose_spec (hd.hit u hu)).2
  rw [e] at h1
  omega
theorem Moore.still (h : w.Moore out many) (hd : w.Div out next many) {i j : Nat} (hi : i < w.next.length) (hj : j < w.next.length) (hi0 : 0 ≤ out i) (he : out i = out j) : next i = next j := by
 classical
 by_cases hne : next i = next j
 ·exact hne
 exfalso
 have hj0 : 0 ≤ out j := by omega
 have ni : 0 ≤ next i := Int.not_lt.1 fun h' => by have := (hd.neg i hi).1 h'; omega
 have nj : 0 ≤ next j := Int.not_lt.1 fun h' => by have := (hd.neg j hj).1 h'; omega
 have hm : many ≠ 0 := fun h0 => by have := hd.lt i hi; omega
 obtain ⟨hlt, hh⟩ := h.cnt hm
 -- a state of each class; that of i's class is i
 let rep : Nat → Nat := fun v => if (v : Int) = out i then i else if hv : v < many then Classical.choose (hh v hv) else 0
 have hrep : ∀ v, v < many → rep v < w.next.length ∧ out (rep v) = (v : Int) := fun v hv => by
  by_cases e : (v : Int) = out i
  ·have : rep v = i := if_pos e
   rw [this]; exact ⟨hi, e.symm⟩
  ·have : rep v = Classical.choose (hh v hv) := by simp only [rep]; rw [if_neg e, dif_pos hv]
   rw [this]; exact Classical.choose_spec (hh v hv)
 have hnot : ∀ v, v < many → next (rep v) ≠ next j := fun v hv e => by
  obtain ⟨h1, h2⟩ := hrep v hv
  have h3 : out (rep v) = out j := ((hd.eq _ _ h1 hj (by omega) hj0).1 e).1
  have h4 : rep v = i := by simp only [rep]; rw [if_pos (by omega)]
  rw [h4] at e
  exact hne e
 have hpos : ∀ v, v < many → 0 ≤ next (rep v) := fun v hv => by
  obtain ⟨h1, h2⟩ := hrep v hv
  exact Int.not_lt.1 fun h' => by have := (hd.neg _ h1).1 h'; omega
 have := pigeon (many - 1) many (fun v => if next (rep v) < next j then (next (rep v)).toNat else (next (rep v)).toNat - 1) (fun v hv => by
  have h1 := hnot v hv; have h2 := hpos v hv; have h3 := hd.lt _ (hrep v hv).1; have h4 := hd.lt j hj
  show (if next (rep v) < next j then (next (rep v)).toNat else (next (rep v)).toNat - 1) < many - 1
  split <;> omega) (fun v u hv hu e => by
  have h1 := hnot v hv; have h2 := hpos v hv
  have g1 := hnot u hu; have g2 := hpos u hu
  have e : next (rep v) = next (rep u) := by
   have e : (if next (rep v) < next j then (next (rep v)).toNat else (next (rep v)).toNat - 1) = (if next (rep u) < next j then (next (rep u)).toNat else (next (rep u)).toNat - 1) := e
   split at e <;> split at e <;> omega
  obtain ⟨a1, a2⟩ := hrep v hv
  obtain ⟨b1, b2⟩ := hrep u hu
  have := ((hd.eq _ _ a1 b1 (by omega) (by omega)).1 e).1
  omega)
 omega
theorem Moore.done (hs : w.Shape) (h : w.Moore out many) (hd : w.Div out next many) (hn : ∀ k, k < w.next.length → out k < 0 → out k = -1) :
 ∀ (u : List Int) (i j : Nat), i < w.next.length → j < w.next.length → 0 ≤ next i → next i = next j → (w.acc (i : Int) u ↔ w.acc (j : Int) u) := by
 intro u
 induction u with
 | nil =>
  intro i j hi hj h0 he
  have hi0 : 0 ≤ out i := Int.not_lt.1 fun h' => by have := (hd.neg i hi).2 h'; omega
  have hj0 : 0 ≤ out j := Int.not_lt.1 fun h' => by have := (hd.neg j hj).2 h'; omega
  have := h.fin i j hi hj hi0 ((hd.eq i j hi hj hi0 hj0).1 he).1
  simp only [acc, Int.toNat_natCast, this]
  exact ⟨fun h => ⟨by omega, h.2⟩, fun h => ⟨by omega, h.2⟩⟩
 | cons c u ih =>
  intro i j hi hj h0 he
  have hi0 : 0 ≤ out i := Int.not_lt.1 fun h' => by have := (hd.neg i hi).2 h'; omega
  have hj0 : 0 ≤ out j := Int.not_lt.1 fun h' => by have := (hd.neg j hj).2 h'; omega
  by_cases hc : 0 ≤ c ∧ c < 8
  ·obtain ⟨c, rfl⟩ : ∃ k : Nat, c = (k : Int) := ⟨c.toNat, by omega⟩
   rw [acc_step i c (by omega), acc_step j c (by omega)]
   have hct := ((hd.eq i j hi hj hi0 hj0).1 he).2 c (by omega)
   rcases to_state hs hi (c := c) (by omega) with h1 | ⟨a, ha, h1⟩ <;> rcases to_state hs hj (c := c) (by omega) with h2 | ⟨b, hb, h2⟩
   ·exact ⟨fun h => absurd h (acc_neg h1 _), fun h => absurd h (acc_neg h2 _)⟩
   ·rw [cto_neg h1, cto_nat h2] at hct
    have hnl := (h.neg b hb).1 (by omega)
    rw [h2]
    exact ⟨fun h => absurd h (acc_neg h1 _), fun h => absurd ⟨u, h⟩ hnl⟩
   ·rw [cto_nat h1, cto_neg h2] at hct
    have hnl := (h.neg a ha).1 (by omega)
    rw [h1]
    exact ⟨fun h => absurd ⟨u, h⟩ hnl, fun h => absurd h (acc_neg h2 _)⟩
   ·rw [cto_nat h1, cto_nat h2] at hct
    rw [h1, h2]
    rcases Int.lt_or_le (out a) 0 with h3 | h3
    ·have n1 := (h.neg a ha).1 h3
     have n2 := (h.neg b hb).1 (by omega)
     exact ⟨fun h => absurd ⟨u, h⟩ n1, fun h => absurd ⟨u, h⟩ n2⟩
    ·have h4 := h.still hd ha hb h3 hct
     refine ih a b ha hb (Int.not_lt.1 fun h' => by have := (hd.neg a ha).1 h'; omega) h4
  ·simp only [acc]
   exact ⟨fun h => absurd ⟨h.2.1, h.2.2.1⟩ hc, fun h => absurd ⟨h.2.1, h.2.2.1⟩ hc⟩
end div
structure Cls (w : Au) (cl : Nat → Int) : Prop where
 neg : ∀ i, i < w.next.length → (cl i < 0 ↔ ¬ w.lives i)
 eq : ∀ i j, i < w.next.length → j < w.next.length → 0 ≤ cl i → (cl i = cl j ↔ ∀ u, w.acc (i : Int) u ↔ w.acc (j : Int) u)
theorem Moore.cls {w : Au} {out next : Nat → Int} {many : Nat} (hs : w.Shape) (h : w.Moore out many) (hn : ∀ k, k < w.next.length → out k < 0 → out k = -1) (hd : w.Div out next many) : w.Cls next := by
 have h2 := h.div hs hn hd
 refine ⟨h2.neg, fun i j hi hj h0 => ⟨fun he u => h.done hs hd hn u i j hi hj h0 he, fun he => h2.same i j hi hj ?_ he⟩⟩
 exact Classical.byContradiction fun h' => by have := (h2.neg i hi).2 h'; omega
/-! ### a machine in order -/
structure Bfs (w : Au) (cl : Nat → Int) (S : List Nat) (T : Nat → Nat → Int) (i c : Nat) : Prop where
 zero : S.getD 0 0 = 0 ∧ 0 < S.length
 lt : ∀ k, k < S.length → S.getD k 0 < w.next.length ∧ 0 ≤ cl (S.getD k 0)
 apart : ∀ j k, j < S.length → k < S.length → cl (S.getD j 0) = cl (S.getD k 0) → j = k
 ent : ∀ i' c', (i' < i ∨ i' = i ∧ c' < c) → c' < 8 → i' < S.length → (T i' c' = -1 ∧ w.cto cl (S.getD i' 0) c' < 0) ∨ ∃ k : Nat, k < S.length ∧ T i' c' = (k : Int) ∧ cl (S.getD k 0) = w.cto cl (S.getD i' 0) c'
 first : ∀ k, 0 < k → k < S.length → ∃ i' c', (i' < i ∨ i' = i ∧ c' < c) ∧ i' < k ∧ c' < 8 ∧ T i' c' = (k : Int) ∧ ∀ i2 c2, (i2 < i' ∨ i2 = i' ∧ c2 < c') → c2 < 8 → T i2 c2 < (k : Int)
theorem Bfs.congr {w : Au} {cl : Nat → Int} {S : List Nat} {T T' : Nat → Nat → Int} {i c : Nat} (h : Bfs w cl S T i c) (hT : ∀ i' c', (i' < i ∨ i' = i ∧ c' < c) → c' < 8 → T' i' c' = T i' c') : Bfs w cl S T' i c := by
 refine ⟨h.zero, h.lt, h.apart, fun i' c' hp hc hi => ?_, fun k h0 hk => ?_⟩
 ·rw [hT i' c' hp hc]; exact h.ent i' c' hp hc hi
 ·obtain ⟨i', c', hp, h1, h2, h3, h4⟩ := h.first k h0 hk
  refine ⟨i', c', hp, h1, h2, by rw [hT i' c' hp h2]; exact h3, fun i2 c2 hp2 hc2 => ?_⟩
  rw [hT i2 c2 (by omega) hc2]; exact h4 i2 c2 hp2 hc2
theorem Bfs.start {w : Au} {cl : Nat → Int} (T : Nat → Nat → Int) (hs : w.Shape) (h : 0 ≤ cl 0) : Bfs w cl [0] T 0 0 := by
 refine ⟨⟨rfl, by simp⟩, fun k hk => ?_, fun j k hj hk _ => ?_, fun i' c' hp _ _ => by omega, fun k h0 hk => ?_⟩
 ·obtain rfl : k = 0 := by simpa using hk
  exact ⟨hs.pos, h⟩
 ·simp only [List.length_singleton] at hj hk; omega
 ·simp only [List.length_singleton] at hk; omega
theorem Bfs.row {w : Au} {cl : Nat → Int} {S : List Nat} {T : Nat → Nat → Int} {i : Nat} (h : Bfs w cl S T i 8) : Bfs w cl S T (i + 1) 0 := by
 refine ⟨h.zero, h.lt, h.apart, fun i' c' hp hc hi => h.ent i' c' (by omega) hc hi, fun k h0 hk => ?_⟩
 obtain ⟨i', c', hp, h1, h2, h3, h4⟩ := h.first k h0 hk
 exact ⟨i', c', by omega, h1, h2, h3, h4⟩
section bfs
variable {w : Au} {cl : Nat → Int} {S : List Nat} {T : Nat → Nat → Int} {i c : Nat}
theorem Bfs.none (h : Bfs w cl S T i c) (hT : T i c = -1) (hn : w.cto cl (S.getD i 0) c < 0) : Bfs w cl S T i (c + 1) := by
 refine ⟨h.zero, h.lt, h.apart, fun i' c' hp hc hi => ?_, fun k h0 hk => ?_⟩
 ·by_cases hh : i' < i ∨ i' = i ∧ c' < c
  ·exact h.ent i' c' hh hc hi
  ·obtain ⟨rfl, rfl⟩ : i' = i ∧ c' = c := by omega
   exact .inl ⟨hT, hn⟩
 ·obtain ⟨i', c', hp, h1, h2, h3, h4⟩ := h.first k h0 hk
  exact ⟨i', c', by omega, h1, h2, h3, h4⟩
theorem Bfs.old (h : Bfs w cl S T i c) {k : Nat} (hT : T i c = (k : Int)) (hk : k < S.length) (he : cl (S.getD k 0) = w.cto cl (S.getD i 0) c) : Bfs w cl S T i (c + 1) := by
 refine ⟨h.zero, h.lt, h.apart, fun i' c' hp hc hi => ?_, fun k h0 hk => ?_⟩
 ·by_cases hh : i' < i ∨ i' = i ∧ c' < c
  ·exact h.ent i' c' hh hc hi
  ·obtain ⟨rfl, rfl⟩ : i' = i ∧ c' = c := by omega
   exact .inr ⟨k, hk, hT, he⟩
 ·obtain ⟨i', c', hp, h1, h2, h3, h4⟩ := h.first k h0 hk
  exact ⟨i', c', by omega, h1, h2, h3, h4⟩
theorem getD_snoc_lt {α : Type} (z : α) (l : List α) (x : α) (k : Nat) (h : k < l.length) : (l ++ [x]).getD k z = l.getD k z := by
 rw [List.getD_eq_getElem?_getD, List.getD_eq_getElem?_getD, List.getElem?_append_left h]
theorem getD_snoc_eq {α : Type} (z : α) (l : List α) (x : α) : (l ++ [x]).getD l.length z = x := by
 rw [List.getD_eq_getElem?_getD, List.getElem?_append_right (Nat.le_refl _)]; simp
theorem Bfs.new (h : Bfs w cl S T i c) {t : Nat} (hT : T i c = (S.length : Int)) (hi : i < S.length) (hc : c < 8) (ht : t < w.next.length) (hto : w.to ((S.getD i 0 : Nat) : Int) (c : Int) = (t : Int)) (h0 : 0 ≤ cl t) (hnew : ∀ k, k < S.length → cl (S.getD k 0) ≠ cl t) :
 Bfs w cl (S ++ [t]) T i (c + 1) := by
 have hl : (S ++ [t]).length = S.length + 1 := by simp
 refine ⟨⟨by rw [getD_snoc_lt 0 S t 0 h.zero.2]; exact h.zero.1, by omega⟩, fun k hk => ?_, fun j k hj hk e => ?_, fun i' c' hp hc' hi' => ?_, fun k hk0 hk => ?_⟩
 ·rcases Nat.lt_or_ge k S.length with h1 | h1
  ·rw [getD_snoc_lt 0 S t k h1]; exact h.lt k h1
  ·obtain rfl : k = S.length := by omega
   rw [getD_snoc_eq]; exact ⟨ht, h0⟩
 ·rcases Nat.lt_or_ge k S.length with h1 | h1 <;> rcases Nat.lt_or_ge j S.length with h2 | h2
  ·rw [getD_snoc_lt 0 S t k h1, getD_snoc_lt 0 S t j h2] at e; exact h.apart j k h2 h1 e
  ·obtain rfl : j = S.length := by omega
   rw [getD_snoc_lt 0 S t k h1, getD_snoc_eq] at e; exact absurd e.symm (hnew k h1)
  ·obtain rfl : k = S.length := by omega
   rw [getD_snoc_lt 0 S t j h2, getD_snoc_eq] at e; exact absurd e (hnew j h2)
  ·omega
 ·by_cases hh : i' < i ∨ i' = i ∧ c' < c
  ·have hi2 : i' < S.length := by omega
   rw [getD_snoc_lt 0 S t i' hi2]
   rcases h.ent i' c' hh hc' hi2 with h1 | ⟨k, h1, h2, h3⟩
   ·exact .inl h1
   ·exact .inr ⟨k, by omega, h2, by rw [getD_snoc_lt 0 S t k h1]; exact h3⟩
  ·obtain ⟨rfl, rfl⟩ : i' = i ∧ c' = c := by omega
   refine .inr ⟨S.length, by omega, hT, ?_⟩
   rw [getD_snoc_eq, getD_snoc_lt 0 S t i' hi, cto_nat hto]
 ·rcases Nat.lt_or_ge k S.length with h1 | h1
  ·obtain ⟨i', c', hp, h2, h3, h4, h5⟩ := h.first k hk0 h1
   exact ⟨i', c', by omega, h2, h3, h4, h5⟩
  ·obtain rfl : k = S.length := by omega
   refine ⟨i, c, by omega, hi, hc, hT, fun i2 c2 hp2 hc2 => ?_⟩
   rcases h.ent i2 c2 (by omega) hc2 (by omega) with ⟨h2, _⟩ | ⟨k, h2, h3, _⟩ <;> omega
theorem Bfs.canon {a : Au} (hs : w.Shape) (hc : w.Cls cl) (h : Bfs w cl S T S.length 0) (hn : a.next.length = S.length) (hf : a.final = S.map fun k => w.final.getD k false)
 (hrow : ∀ k, k < S.length → (a.next.getD k []).length = 8) (ha : ∀ k c : Nat, k < S.length → c < 8 → a.to (k : Int) (c : Int) = T k c) : a.Canon ∧ ∀ u, a.acc 0 u ↔ w.acc 0 u := by
 have hfin : ∀ k, k < S.length → a.final.getD k false = w.final.getD (S.getD k 0) false := fun k hk => by
  rw [hf, List.getD_eq_getElem?_getD, List.getElem?_map, List.getD_eq_getElem?_getD (l := S), List.getElem?_eq_getElem hk]; rfl
 have hent : ∀ k c, k < S.length → c < 8 → (T k c = -1 ∧ w.cto cl (S.getD k 0) c < 0) ∨ ∃ j : Nat, j < S.length ∧ T k c = (j : Int) ∧ cl (S.getD j 0) = w.cto cl (S.getD k 0) c := fun k c hk hc => h.ent k c (.inl hk) hc hk
 have hacc : ∀ (u : List Int) (k : Nat), k < S.length → (a.acc (k : Int) u ↔ w.acc ((S.getD k 0 : Nat) : Int) u) := by
  intro u
  induction u with
  | nil =>
   intro k hk
   simp only [acc, Int.toNat_natCast, hfin k hk]
   exact ⟨fun h => ⟨by omega, h.2⟩, fun h => ⟨by omega, h.2⟩⟩
  | cons c u ih =>
   intro k hk
   by_cases hcc : 0 ≤ c ∧ c < 8
   ·obtain ⟨c, rfl⟩ : ∃ k : Nat, c = (k : Int) := ⟨c.toNat, by omega⟩
    rw [acc_step k c (by omega), acc_step _ c (by omega), ha k c hk (by omega)]
    obtain ⟨hlt, hcl⟩ := h.lt k hk
    rcases hent k c hk (by omega) with ⟨h1, h2⟩ | ⟨j, h1, h2, h3⟩
    ·rw [h1]
     refine ⟨fun h => absurd h (acc_neg (by decide) _), fun h => ?_⟩
     rcases to_state hs hlt (c := c) (by omega) with h4 | ⟨b, hb, h4⟩
     ·exact absurd h (acc_neg h4 _)
     ·rw [cto_nat h4] at h2
      rw [h4] at h
      exact absurd ⟨u, h⟩ ((hc.neg b hb).1 h2)
    ·rw [h2, ih j h1]
     obtain ⟨jlt, jcl⟩ := h.lt j h1
     rcases to_state hs hlt (c := c) (by omega) with h4 | ⟨b, hb, h4⟩
     ·rw [cto_neg h4] at h3; omega
     ·rw [cto_nat h4] at h3
      rw [h4]
      exact (hc.eq _ b jlt hb jcl).1 h3 u
   ·simp only [acc]
    exact ⟨fun h => absurd ⟨h.2.1, h.2.2.1⟩ hcc, fun h => absurd ⟨h.2.1, h.2.2.1⟩ hcc⟩
 have hz : ((S.getD 0 0 : Nat) : Int) = 0 := by rw [h.zero.1]; rfl
 refine ⟨⟨⟨by rw [hn]; exact h.zero.2, by rw [hf, List.length_map, hn], fun k hk => hrow k (by omega), fun k hk c hc8 => ?_⟩, fun k hk => ?_, fun j k hj hk he => ?_, fun k hk0 hk => ?_⟩, fun u => ?_⟩
 ·have h1 := ha k c (by omega) hc8
  simp only [to, Int.toNat_natCast] at h1
  rw [h1, hn]
  rcases hent k c (by omega) hc8 with ⟨h2, _⟩ | ⟨j, h2, h3, _⟩ <;> omega
 ·obtain ⟨hlt, hcl⟩ := h.lt k (by omega)
  have : w.lives (S.getD k 0) := Classical.byContradiction fun h' => by have := (hc.neg _ hlt).2 h'; omega
  obtain ⟨u, hu⟩ := this
  exact ⟨u, (hacc u k (by omega)).2 hu⟩
 ·obtain ⟨jlt, jcl⟩ := h.lt j (by omega)
  obtain ⟨klt, kcl⟩ := h.lt k (by omega)
  exact h.apart j k (by omega) (by omega) ((hc.eq _ _ jlt klt jcl).2 fun u => (hacc u j (by omega)).symm.trans ((he u).trans (hacc u k (by omega))))
 ·obtain ⟨i', c', hp, h1, h2, h3, h4⟩ := h.first k hk0 (by omega)
  refine ⟨i', c', h1, h2, by rw [ha i' c' (by omega) h2]; exact h3, fun i2 c2 hp2 hc2 => ?_⟩
  rw [ha i2 c2 (by omega) hc2]; exact h4 i2 c2 hp2 hc2
 ·have := hacc u 0 h.zero.2
  rw [hz] at this
  exact this
end bfs
end Au
end Go.Vl
end
section
namespace Go.Vl
namespace Au
def fin (a : Au) (i : Int) : Bool := decide (0 ≤ i) && a.final.getD i.toNat false
theorem acc_nil (a : Au) (i : Int) : a.acc i [] ↔ a.fin i = true := by simp [acc, fin]
def stp (a b : Au) (p : Int × Int) (c : Nat) : Int × Int := (if 0 ≤ p.1 then a.to p.1 (c : Int) else -1, if 0 ≤ p.2 then b.to p.2 (c : Int) else -1)
structure PIn (a b : Au) (p : Int × Int) : Prop where
 l1 : -1 ≤ p.1
 u1 : p.1 < a.next.length
 l2 : -1 ≤ p.2
 u2 : p.2 < b.next.length
structure Prs (a b : Au) (all : List (Int × Int)) (T : Nat → Nat → Nat) : Prop where
 zero : all.getD 0 (0, 0) = (0, 0) ∧ 0 < all.length
 rng : ∀ p ∈ all, PIn a b p
 ent : ∀ k c, k < all.length → c < 8 → T k c < all.length ∧ all.getD (T k c) (0, 0) = stp a b (all.getD k (0, 0)) c
 met : ∀ p ∈ all, ∃ u : List Nat, (∀ c ∈ u, c < 8) ∧ p = u.foldl (stp a b) (0, 0)
/-! ### how many words -/
def sum8 (f : Nat → Nat) : Nat := f 0 + f 1 + f 2 + f 3 + f 4 + f 5 + f 6 + f 7
def cnt (a : Au) : Nat → Int → Nat
 | 0, i => if a.fin i = true then 1 else 0
 | n + 1, i => if 0 ≤ i then sum8 fun c => cnt a n (a.to i (c : Int)) else 0
def dig : Nat → Nat → List Int
 | 0, _ => []
 | n + 1, x => ((x % 3 : Nat) : Int) :: dig n (x / 3)
def found (a : Au) (n : Nat) (i : Int) (m : Nat) : Nat := ((List.range m).filter fun x => a.fin (a.run i (dig n x))).length
structure Prb (a b : Au) (all : List (Int × Int)) (T : Nat → Nat → Nat) (i c : Nat) : Prop where
 zero : all.getD 0 (0, 0) = (0, 0) ∧ 0 < all.length
 nodup : all.Nodup
 rng : ∀ p ∈ all, PIn a b p
 ent : ∀ k d, k < all.length → d < 8 → (k < i ∨ (k = i ∧ d < c)) → T k d < all.length ∧ all.getD (T k d) (0, 0) = stp a b (all.getD k (0, 0)) d
 met : ∀ p ∈ all, ∃ u : List Nat, (∀ d ∈ u, d < 8) ∧ p = u.foldl (stp a b) (0, 0)
end Au
end Go.Vl
end
section
namespace Go.Vl
namespace Au
abbrev Qe := Nat × List Int
structure Lst (a : Au) (sn : Nat → Bool) (Q1 Q2 : List Qe) (D : Nat → Prop) (h c : Nat) : Prop where
 ne : Q1 ≠ []
 seen : ∀ s, s < a.next.length → (sn s = true ↔ D s ∨ ∃ q, q ∈ Q1 ++ Q2 ∧ q.1 = s)
 ok : ∀ q ∈ Q1 ++ Q2, q.1 < a.next.length ∧ a.run 0 q.2 = (q.1 : Int) ∧ ∀ x ∈ q.2, 0 ≤ x ∧ x < 8
 l1 : ∀ q ∈ Q1, q.2.length = h
 l2 : ∀ q ∈ Q2, q.2.length = h + 1
 less : ∀ (u : List Int) (s : Nat), (∀ x ∈ u, 0 ≤ x ∧ x < 8) → a.run 0 u = (s : Int) → u.length < h → D s
 eq : ∀ (u : List Int) (s : Nat), (∀ x ∈ u, 0 ≤ x ∧ x < 8) → a.run 0 u = (s : Int) → u.length = h → D s ∨ ∃ q, q ∈ Q1 ∧ q.1 = s
 done : ∀ s, D s → a.fin (s : Int) = false ∧ ∀ x t : Nat, x < 8 → a.to (s : Int) (x : Int) = (t : Int) → sn t = true
 head : ∀ x t : Nat, x < c → a.to (((Q1.getD 0 (0, [])).1 : Nat) : Int) (x : Int) = (t : Int) → sn t = true
variable {a : Au} {seen : Nat → Bool} {Q1 Q2 : List Qe} {D : Nat → Prop} {h c : Nat}
end Au
end Go.Vl
end
section
namespace Go.Vl
def row8 (f : Nat → Int) : List AV := [.int (f 0), .int (f 1), .int (f 2), .int (f 3), .int (f 4), .int (f 5), .int (f 6), .int (f 7)]
theorem row8_congr {f g : Nat → Int} (h : ∀ c, c < 8 → f c = g c) : row8 f = row8 g := by
 unfold row8
 rw [h 0 (by decide), h 1 (by decide), h 2 (by decide), h 3 (by decide), h 4 (by decide), h 5 (by decide), h 6 (by decide), h 7 (by decide)]
theorem row8_splice (f : Nat → Int) (c : Nat) (hc : c < 8) (x : Int) : splice (row8 f) c [.int x] = row8 (fun d => if d = c then x else f d) := by
 rcases (show c = 0 ∨ c = 1 ∨ c = 2 ∨ c = 3 ∨ c = 4 ∨ c = 5 ∨ c = 6 ∨ c = 7 from by omega) with rfl | rfl | rfl | rfl | rfl | rfl | rfl | rfl <;> rfl
theorem row8_get (f : Nat → Int) (c : Nat) (hc : c < 8) : (row8 f)[c]? = some (.int (f c)) := by
 rcases (show c = 0 ∨ c = 1 ∨ c = 2 ∨ c = 3 ∨ c = 4 ∨ c = 5 ∨ c = 6 ∨ c = 7 from by omega) with rfl | rfl | rfl | rfl | rfl | rfl | rfl | rfl <;> rfl
abbrev r8av (f : Nat → Int) : AV := .agg (row8 f)
theorem rows_snoc (n : Nat) (T : Nat → Nat → Int) : ((List.range n).map fun k => r8av (T k)) ++ [r8av (T n)] = (List.range (n + 1)).map fun k => r8av (T k) := by
 rw [List.range_succ, List.map_append]; rfl
theorem rows_congr (n : Nat) {T T' : Nat → Nat → Int} (h : ∀ k, k < n → ∀ c, c < 8 → T k c = T' k c) : ((List.range n).map fun k => r8av (T k)) = (List.range n).map fun k => r8av (T' k) :=
 List.map_congr_left fun k hk => congrArg AV.agg (row8_congr (h k (List.mem_range.1 hk)))
namespace Au
end Au
end Go.Vl
end
section
namespace Go.Vl
def dgt (n : Nat) : UInt8 := 48 + UInt8.ofNat n
def itoa (n : Int) : List UInt8 := if n < 0 then [45, 49] else if n < 10 then [dgt n.toNat] else [dgt (n.toNat / 10), dgt (n.toNat % 10)]
def keyL (l : List Int) : List UInt8 := l.flatMap fun n => itoa n ++ [32]
theorem keyL_cons (n : Int) (l : List Int) : keyL (n :: l) = itoa n ++ 32 :: keyL l := by simp [keyL]
theorem keyL_append (l m : List Int) : keyL (l ++ m) = keyL l ++ keyL m := by simp [keyL]
theorem keyL_snoc (l : List Int) (i : Nat) (h : i < l.length) : keyL (l.take (i + 1)) = keyL (l.take i) ++ (itoa (l.getD i 0) ++ [32]) := by
 rw [take_getDG 0 l i h, keyL_append]; simp [keyL]
def sml (l : List Int) : Prop := ∀ n ∈ l, -1 ≤ n ∧ n < 100
theorem dgt_ne (n : Nat) (h : n < 10) : dgt n ≠ 32 ∧ dgt n ≠ 45 := by
 unfold dgt
 rcases (show n = 0 ∨ n = 1 ∨ n = 2 ∨ n = 3 ∨ n = 4 ∨ n = 5 ∨ n = 6 ∨ n = 7 ∨ n = 8 ∨ n = 9 from by omega) with rfl | rfl | rfl | rfl | rfl | rfl | rfl | rfl | rfl | rfl <;> decide
theorem dgt_nat (n : Nat) (h : n < 10) : (dgt n).toNat = 48 + n := by
 unfold dgt
 rcases (show n = 0 ∨ n = 1 ∨ n = 2 ∨ n = 3 ∨ n = 4 ∨ n = 5 ∨ n = 6 ∨ n = 7 ∨ n = 8 ∨ n = 9 from by omega) with rfl | rfl | rfl | rfl | rfl | rfl | rfl | rfl | rfl | rfl <;> rfl
theorem dgt_inj {m n : Nat} (hm : m < 10) (hn : n < 10) (h : dgt m = dgt n) : m = n := by
 have := congrArg UInt8.toNat h
 rw [dgt_nat m hm, dgt_nat n hn] at this; omega
theorem itoa_split {m n : Int} (hm : -1 ≤ m ∧ m < 100) (hn : -1 ≤ n ∧ n < 100) {r s : List UInt8} (h : itoa m ++ 32 :: r = itoa n ++ 32 :: s) : m = n ∧ r = s := by
 unfold itoa at h
 by_cases m0 : m < 0
 ·rw [if_pos m0] at h
  by_cases n0 : n < 0
  ·rw [if_pos n0] at h
   exact ⟨by omega, by simpa using h⟩
  ·exfalso
   rw [if_neg n0] at h
   by_cases n1 : n < 10
   ·rw [if_pos n1] at h
    have := (List.cons.inj h).1
    exact (dgt_ne n.toNat (by omega)).2 this.symm
   ·rw [if_neg n1] at h
    have := (List.cons.inj h).1
    exact (dgt_ne (n.toNat / 10) (by omega)).2 this.symm
 ·rw [if_neg m0] at h
  by_cases n0 : n < 0
  ·exfalso
   rw [if_pos n0] at h
   by_cases m1 : m < 10
   ·rw [if_pos m1] at h
    exact (dgt_ne m.toNat (by omega)).2 (List.cons.inj h).1
   ·rw [if_neg m1] at h
    exact (dgt_ne (m.toNat / 10) (by omega)).2 (List.cons.inj h).1
  ·rw [if_neg n0] at h
   by_cases m1 : m < 10 <;> by_cases n1 : n < 10
   ·rw [if_pos m1, if_pos n1] at h
    obtain ⟨h1, h2⟩ := List.cons.inj h
    have := dgt_inj (by omega) (by omega) h1
    exact ⟨by omega, by simpa using h2⟩
   ·exfalso
    rw [if_pos m1, if_neg n1] at h
    obtain ⟨h1, h2⟩ := List.cons.inj h
    exact (dgt_ne (n.toNat % 10) (by omega)).1 (List.cons.inj h2).1.symm
   ·exfalso
    rw [if_neg m1, if_pos n1] at h
    obtain ⟨h1, h2⟩ := List.cons.inj h
    exact (dgt_ne (m.toNat % 10) (by omega)).1 (List.cons.inj h2).1
   ·rw [if_neg m1, if_neg n1] at h
    obtain ⟨h1, h2⟩ := List.cons.inj h
    obtain ⟨h3, h4⟩ := List.cons.inj h2
    have e1 := dgt_inj (by omega) (by omega) h1
    have e2 := dgt_inj (by omega) (by omega) h3
    exact ⟨by omega, by simpa using h4⟩
theorem itoa_head (n : Int) (hn : -1 ≤ n ∧ n < 100) : ∃ c r, itoa n = c :: r ∧ (c.toNat = 45 ∨ (48 ≤ c.toNat ∧ c.toNat ≤ 57)) := by
 unfold itoa
 split
 ·exact ⟨_, _, rfl, .inl rfl⟩
 ·split
  ·exact ⟨_, _, rfl, .inr (by rw [dgt_nat _ (by omega)]; omega)⟩
  ·exact ⟨_, _, rfl, .inr (by rw [dgt_nat _ (by omega)]; omega)⟩
theorem keyL_inj : ∀ {l m : List Int} {r s : List UInt8}, sml l → sml m → (∀ c t, r = c :: t → 57 < c.toNat) → (∀ c t, s = c :: t → 57 < c.toNat) → keyL l ++ r = keyL m ++ s → l = m ∧ r = s
 | [], [], r, s, _, _, _, _, h => ⟨rfl, h⟩
 | [], n :: m, r, s, _, hm, hr, _, h => by
  exfalso
  rw [keyL_cons] at h
  obtain ⟨c, t, e, hc⟩ := itoa_head n (hm n List.mem_cons_self)
  rw [e] at h
  have h : r = c :: (t ++ 32 :: keyL m ++ s) := by simpa [keyL] using h
  have := hr _ _ h
  omega
 | n :: l, [], r, s, hl, _, _, hs, h => by
  exfalso
  rw [keyL_cons] at h
  obtain ⟨c, t, e, hc⟩ := itoa_head n (hl n List.mem_cons_self)
  rw [e] at h
  have h : s = c :: (t ++ 32 :: keyL l ++ r) := by simpa [keyL] using h.symm
  have := hs _ _ h
  omega
 | n :: l, k :: m, r, s, hl, hm, hr, hs, h => by
  rw [keyL_cons, keyL_cons, List.append_assoc, List.append_assoc, List.cons_append, List.cons_append] at h
  obtain ⟨e1, e2⟩ := itoa_split (hl n List.mem_cons_self) (hm k List.mem_cons_self) h
  obtain ⟨e3, e4⟩ := keyL_inj (fun x hx => hl x (List.mem_cons_of_mem _ hx)) (fun x hx => hm x (List.mem_cons_of_mem _ hx)) hr hs e2
  exact ⟨by rw [e1, e3], e4⟩
theorem keyL_inj' {l m : List Int} (hl : sml l) (hm : sml m) (h : keyL l = keyL m) : l = m :=
 (keyL_inj (r := []) (s := []) hl hm (by intro c t h; cases h) (by intro c t h; cases h) (by rw [h])).1
theorem itoa_len (n : Int) : 1 ≤ (itoa n).length ∧ (itoa n).length ≤ 2 := by
 unfold itoa; split
 ·exact ⟨by decide, by decide⟩
 ·split <;> exact ⟨by simp, by simp⟩
theorem keyL_len (l : List Int) : (keyL l).length ≤ 3 * l.length := by
 induction l with
 | nil => exact Nat.le_refl _
 | cons n l ih => rw [keyL_cons, List.length_append, List.length_cons, List.length_cons]; have := itoa_len n; omega
def fmtB (b : Bool) : List UInt8 := if b then [116, 114, 117, 101] else [102, 97, 108, 115, 101]
theorem fmtB_inj {a b : Bool} (h : fmtB a = fmtB b) : a = b := by cases a <;> cases b <;> first | rfl | (simp [fmtB] at h)
theorem fmtB_head (b : Bool) : ∀ c t, fmtB b = c :: t → 57 < c.toNat := by
 intro c t h
 cases b
 ·have h : [102, 97, 108, 115, 101] = c :: t := h
  cases h; decide
 ·have h : [116, 114, 117, 101] = c :: t := h
  cases h; decide
theorem keyB_inj {l m : List Int} {a b : Bool} (hl : sml l) (hm : sml m) (h : keyL l ++ fmtB a = keyL m ++ fmtB b) : l = m ∧ a = b := by
 obtain ⟨h1, h2⟩ := keyL_inj hl hm (fmtB_head a) (fmtB_head b) h
 exact ⟨h1, fmtB_inj h2⟩
theorem place_map {α β : Type} [DecidableEq α] [DecidableEq β] {f : α → β} {k : α} : ∀ {ks : List α}, (∀ q ∈ ks, f k = f q → k = q) → place (f k) (ks.map f) = place k ks
 | [], _ => rfl
 | q :: ks, h => by
  simp only [List.map_cons, place]
  by_cases e : k = q
  ·rw [if_pos e, if_pos (by rw [e])]
  ·rw [if_neg e, if_neg (fun e' => e (h q List.mem_cons_self e')), place_map fun q hq => h q (List.mem_cons_of_mem _ hq)]
end Go.Vl
end
section
namespace Go.Vl
namespace Lg
def over (N : Int) (A : Lg) : Prop := ∀ w, A w → ∀ c ∈ w, 0 ≤ c ∧ c < N
def live (A : Lg) : Prop := ∃ w, A w
section closed
variable {N : Int} {A B : Lg}
end closed
end Lg
namespace It
mutual
def blw (N : Nat) : It → Prop
 | ch n _ => n < N
 | gr s a _ => blws N s ∧ blwa N a
def blws (N : Nat) : List It → Prop
 | [] => True
 | i :: s => blw N i ∧ blws N s
def blwa (N : Nat) : List (List It) → Prop
 | [] => True
 | s :: a => blws N s ∧ blwa N a
end
mutual
def ren (k : Nat) : It → It
 | ch n sf => ch (n + k) sf
 | gr s a sf => gr (rens k s) (rena k a) sf
def rens (k : Nat) : List It → List It
 | [] => []
 | i :: s => ren k i :: rens k s
def rena (k : Nat) : List (List It) → List (List It)
 | [] => []
 | s :: a => rens k s :: rena k a
end
def rc (k : Nat) (c : UInt8) : UInt8 := if 97 ≤ c.toNat ∧ c.toNat ≤ 99 then c + UInt8.ofNat k else c
end It
end Go.Vl
end
section
namespace Go.Vl
namespace It
def endA (r : List UInt8) : Prop := r = [] ∨ ∃ t, r = 41 :: t
def endS (r : List UInt8) : Prop := r = [] ∨ ∃ t, r = 41 :: t ∨ r = 124 :: t
def endI (r : List UInt8) : Prop := ∀ c t, r = c :: t → c ≠ 42 ∧ c ≠ 43 ∧ c ≠ 63
theorem ch_nat (n : Nat) (h : n < 8) : (97 + UInt8.ofNat n).toNat = 97 + n := by
 rcases (show n = 0 ∨ n = 1 ∨ n = 2 ∨ n = 3 ∨ n = 4 ∨ n = 5 ∨ n = 6 ∨ n = 7 from by omega) with rfl | rfl | rfl | rfl | rfl | rfl | rfl | rfl <;> rfl
theorem tx_head (i : It) (h : ok i) : ∃ c t, tx i = c :: t ∧ ((97 ≤ c.toNat ∧ c.toNat ≤ 104) ∨ c = 40) := by
 cases i with
 | ch n sf =>
  simp only [ok] at h
  refine ⟨_, _, by rw [tx], .inl ?_⟩
  rw [ch_nat n h.1]; omega
 | gr s a sf => exact ⟨_, _, by rw [tx], .inr rfl⟩
theorem endA.s {r : List UInt8} (h : endA r) : endS r := by
 rcases h with h | ⟨t, h⟩
 ·exact .inl h
 ·exact .inr ⟨t, .inl h⟩
theorem endS.i {r : List UInt8} (h : endS r) : endI r := by
 rintro c t rfl
 rcases h with h | ⟨t', h | h⟩
 ·cases h
 ·obtain ⟨rfl, rfl⟩ := List.cons.inj h; decide
 ·obtain ⟨rfl, rfl⟩ := List.cons.inj h; decide
theorem endS_atl (a : List (List It)) {r : List UInt8} (h : endA r) : endS (atl a ++ r) := by
 cases a with
 | nil => exact h.s
 | cons s a => exact .inr ⟨_, .inr rfl⟩
theorem endA_close (r : List UInt8) : endA (41 :: r) := .inr ⟨r, rfl⟩
theorem endI_stx (s : List It) (hs : oks s) {r : List UInt8} (h : endS r) : endI (stx s ++ r) := by
 cases s with
 | nil => exact h.i
 | cons i s =>
  obtain ⟨c, t, e, hc⟩ := tx_head i hs.1
  intro c' t' e'
  rw [stx, e] at e'
  obtain ⟨rfl, rfl⟩ := List.cons.inj e'
  rcases hc with hc | rfl
  ·refine ⟨?_, ?_, ?_⟩ <;> (rintro rfl; simp at hc)
  ·decide
theorem sg_idx (k : Nat) (h : k < 3) : idxI (fun b => b == sg k) [42, 43, 63] = (k : Int) := by
 rcases (show k = 0 ∨ k = 1 ∨ k = 2 from by omega) with rfl | rfl | rfl <;> rfl
theorem idx_no (c : UInt8) (h : c ≠ 42 ∧ c ≠ 43 ∧ c ≠ 63) : idxI (fun b => b == c) [42, 43, 63] = -1 := by
 refine idxI_miss _ _ fun d hd => ?_
 simp only [List.mem_cons, List.not_mem_nil, or_false] at hd
 rcases hd with rfl | rfl | rfl
 ·exact beq_eq_false_iff_ne.2 (Ne.symm h.1)
 ·exact beq_eq_false_iff_ne.2 (Ne.symm h.2.1)
 ·exact beq_eq_false_iff_ne.2 (Ne.symm h.2.2)
theorem drop_cons (s : List It) (k : Nat) (h : k < s.length) : stx (s.drop k) = tx (s.getD k (ch 0 [])) ++ stx (s.drop (k + 1)) := by
 rw [drop_getDG (ch 0 []) s k h, stx]
theorem sfdrop (sf : List Nat) (k : Nat) (h : k < sf.length) (r : List UInt8) : (sf.drop k).map sg ++ r = sg (sf.getD k 0) :: ((sf.drop (k + 1)).map sg ++ r) := by
 rw [drop_getDG 0 sf k h]; rfl
theorem tail1 (c : UInt8) (r : List UInt8) : List.drop (Int.toNat 1) (List.take (((c :: r).length : Nat) : Int).toNat (c :: r)) = r := by simp
theorem u8ne {c : UInt8} {n : Nat} (hn : n < 256) (h : c ≠ UInt8.ofNat n) : ((c.toNat : Nat) : Int) ≠ (n : Int) := by
 intro h'; apply h; apply UInt8.toNat_inj.1; simp [Nat.mod_eq_of_lt hn]; omega
theorem atl_drop (a : List (List It)) (k : Nat) (h : k < a.length) : atl (a.drop k) = 124 :: (stx (a.getD k []) ++ atl (a.drop (k + 1))) := by
 rw [drop_getDG [] a k h, atl]
end It
theorem Ex.joinW_lib (sep : List UInt8) : ∀ l : List (List UInt8), Ex.joinW sep l = Lib.join l sep
 | [] => rfl
 | [s] => by simp [Ex.joinW, Lib.join, List.intercalate]
 | s :: t :: l => by
  rw [Ex.joinW, Ex.joinW_lib sep (t :: l)]
  simp [Lib.join, List.intercalate]
theorem Ex.letter8 (t : Int) (h0 : 0 ≤ t) (h8 : t < 8) : List.drop t.toNat (List.take (t + 1).toNat [97, 98, 99, 100, 101, 102, 103, 104]) = [97 + UInt8.ofNat t.toNat] := by
 obtain ⟨n, rfl⟩ : ∃ n : Nat, t = (n : Int) := ⟨t.toNat, by omega⟩
 rw [show ((n : Int) + 1).toNat = n + 1 from by omega, Int.toNat_natCast]
 rcases (show n = 0 ∨ n = 1 ∨ n = 2 ∨ n = 3 ∨ n = 4 ∨ n = 5 ∨ n = 6 ∨ n = 7 from by omega) with rfl | rfl | rfl | rfl | rfl | rfl | rfl | rfl <;> rfl
theorem Ex.join0_le (x : Ex) : (Ex.joinW [] (x.parts.map (Ex.ptx1 x.kind))).length = Ex.sumL (x.parts.map (Ex.ptx1 x.kind)) := by
 rw [Ex.joinW_nil, List.length_flatten]; rfl
theorem Ex.join1_le (x : Ex) : (Ex.joinW [124] (x.parts.map (Ex.ptx1 x.kind))).length ≤ Ex.sumL (x.parts.map (Ex.ptx1 x.kind)) + x.parts.length := by
 have := Ex.joinW_len [124] (x.parts.map (Ex.ptx1 x.kind))
 simp only [List.length_singleton, List.length_map, Nat.mul_one] at this
 split at this <;> omega
def Ex.wz (x : Ex) : Nat := Ex.sumL (x.parts.map (Ex.ptx1 x.kind)) + x.parts.length + 2
theorem Ex.ptx_len (x : Ex) : ∀ d ∈ x.parts, (Ex.txt d).length ≤ Ex.wz x := by
 intro d hd
 have h1 : (Ex.txt d).length ≤ (Ex.ptx1 x.kind d).length := by unfold Ex.ptx1; split <;> simp; omega
 have h2 : ∀ l : List Ex, d ∈ l → (Ex.ptx1 x.kind d).length ≤ Ex.sumL (l.map (Ex.ptx1 x.kind)) := by
  intro l
  induction l with
  | nil => intro h; cases h
  | cons e l ih =>
   intro h
   rw [List.map_cons, Ex.sumL_cons]
   rcases List.mem_cons.1 h with rfl | h
   ·omega
   ·have := ih h; omega
 have := h2 _ hd
 unfold Ex.wz; omega
theorem Ex.sign3 (k : Int) (j : Nat) (h : k - 4 = (j : Int)) (hj : j < 3) : List.drop ((j : Nat) : Int).toNat (List.take (((j : Nat) : Int) + 1).toNat [42, 43, 63]) = [Ex.sgn k] := by
 rw [show (((j : Nat) : Int) + 1).toNat = j + 1 from by omega, Int.toNat_natCast]
 obtain rfl : k = 4 + (j : Int) := by omega
 rcases (show j = 0 ∨ j = 1 ∨ j = 2 from by omega) with rfl | rfl | rfl <;> rfl
theorem Ex.part_txt (x : Ex) (h1 : Ex.ok1 x) : ∀ d ∈ x.parts, (Ex.txt d).length ≤ (Ex.txt x).length := by
 intro d hd
 have hp : (Ex.txt d).length ≤ (Ex.ptx1 x.kind d).length := by unfold Ex.ptx1; split <;> simp; omega
 have hm : ∀ (sep : List UInt8) (l : List Ex), d ∈ l → (Ex.ptx1 x.kind d).length ≤ (Ex.joinW sep (l.map (Ex.ptx1 x.kind))).length := by
  intro sep l
  induction l with
  | nil => intro h; cases h
  | cons e l ih =>
   intro h
   rw [List.map_cons, Ex.joinW_cons, List.length_append]
   rcases List.mem_cons.1 h with rfl | h
   ·omega
   ·have := ih h
    cases l with
    | nil => cases h
    | cons f l =>
     rw [List.map_cons, Ex.joinW_cons, List.length_append] at this
     rw [List.map_cons, List.flatMap_cons, List.length_append, List.length_append]; omega
 rw [Ex.txt_eq x]
 split
 ·rename_i e
  rcases h1 with h1 | h1 | h1 | h1
  ·rw [h1.2.1] at hd; cases hd
  ·omega
  ·omega
  ·omega
 ·split
  ·have := hm [] _ hd; omega
  ·split
   ·have := hm [124] _ hd; omega
   ·have := hm [] _ hd; rw [List.length_append]; omega
theorem Ex.wz_le (x : Ex) (h1 : Ex.ok1 x) : Ex.wz x ≤ (Ex.txt x).length + x.parts.length + 2 := by
 have h0 := Ex.join0_le x
 have h3 := Ex.joinW_len [124] (x.parts.map (Ex.ptx1 x.kind))
 unfold Ex.wz
 rw [Ex.txt_eq x]
 simp only [List.length_singleton, List.length_map, Nat.mul_one] at h3
 split
 ·rename_i e
  have : x.parts = [] := by
   rcases h1 with h1 | h1 | h1 | h1
   ·exact h1.2.1
   ·omega
   ·omega
   ·omega
  rw [this]; simp [Ex.sumL]
 ·split
  ·omega
  ·split
   ·rename_i e
    have hn : x.parts.map (Ex.ptx1 x.kind) ≠ [] := by
     intro h'
     have : x.parts = [] := by simpa using h'
     rcases h1 with h1 | h1 | h1 | h1
     ·omega
     ·omega
     ·rw [this] at h1; simp at h1
     ·omega
    rw [if_neg hn] at h3
    have : x.parts.length ≠ 0 := fun h => hn (by rw [List.eq_nil_of_length_eq_zero h]; rfl)
    omega
   ·rw [List.length_append]; omega
theorem Ex.ok1_facts {x : Ex} (h : Ex.ok1 x) : (1 ≤ x.kind ∧ x.kind ≤ 6) ∧ (0 ≤ x.type ∧ x.type < 8) ∧ (x.kind = 1 → x.parts.length = 0) ∧ (x.kind ≠ 1 → x.type = 0) ∧ ((x.kind = 2 ∨ x.kind = 3) → x.parts.length ≠ 1) ∧ (x.kind = 3 → x.parts.length ≠ 0) ∧
 (4 ≤ x.kind → x.parts.length = 1) ∧ ((x.kind == 2 || x.kind == 3) = true → (x.parts.any fun d => d.kind == x.kind) = false) := by
 have hany : ∀ k : Int, (∀ q ∈ x.parts, q.kind ≠ k) → (x.parts.any fun d => d.kind == k) = false := fun k hk => by
  rw [List.any_eq_false]; intro q hq; simpa using hk q hq
 rcases h with ⟨h1, h2, h3, h4⟩ | ⟨h1, h2, h3, h4⟩ | ⟨h1, h2, h3, h4⟩ | ⟨h1, h2, h3, h4⟩
 ·have hl : x.parts.length = 0 := by rw [h2]; rfl
  refine ⟨by omega, by omega, by omega, by omega, by omega, by omega, by omega, fun h => ?_⟩
  rw [h1] at h; simp at h
 ·refine ⟨by omega, by omega, by omega, by omega, by omega, by omega, by omega, fun _ => ?_⟩
  rw [h1]; exact hany 2 h4
 ·refine ⟨by omega, by omega, by omega, by omega, by omega, by omega, by omega, fun _ => ?_⟩
  rw [h1]; exact hany 3 h4
 ·refine ⟨by omega, by omega, by omega, by omega, by omega, by omega, by omega, fun h => ?_⟩
  have : x.kind = 2 ∨ x.kind = 3 := by simpa using h
  omega
theorem Ex.tog_sz (k : Int) (l : List Ex) : (tog k l).sz ≤ 1 + szs l := by
 rcases tog_cases k l with ⟨x, rfl, e⟩ | ⟨h1, y, h2, e⟩ | ⟨h1, h2, e⟩
 ·rw [e]; simp [szs]
 ·have := flat_szs k l
  rw [h2] at this
  rw [e]; simp only [szs] at this; omega
 ·rw [e, sz]
  have := flat_szs k l; omega
theorem Ex.sfe_sz : ∀ (sf : List Nat) (x : Ex), (sfe x sf).sz = x.sz + sf.length
 | [], x => rfl
 | k :: sf, x => by
  show (sfe (.mk (4 + (k : Int)) 0 [x]) sf).sz = _
  rw [Ex.sfe_sz sf, sz]; simp only [szs, List.length_cons]; omega
namespace It
theorem sev_big' (s : List It) (h : ∀ i ∈ s, Ex.sz i.ev ≤ 2 * (tx i).length) : Ex.szs (sev s) ≤ 2 * (stx s).length := by
 induction s with
 | nil => exact Nat.le_refl _
 | cons i s ih =>
  have h1 := h i List.mem_cons_self
  have h2 := ih fun j hj => h j (List.mem_cons_of_mem _ hj)
  rw [sev, Ex.szs, stx, List.length_append]; omega
theorem aev_big' (a : List (List It)) (h : ∀ t ∈ a, Ex.szs (sev t) ≤ 2 * (stx t).length) : Ex.szs (aev a) ≤ 2 * (atl a).length := by
 induction a with
 | nil => exact Nat.le_refl _
 | cons t a ih =>
  have h1 := h t List.mem_cons_self
  have h2 := ih fun j hj => h j (List.mem_cons_of_mem _ hj)
  have h3 := Ex.tog_sz 2 (sev t)
  rw [aev, Ex.szs, atl, List.length_cons, List.length_append]; omega
theorem ev_big : ∀ i : It, Ex.sz i.ev ≤ 2 * (tx i).length := by
 refine rec' ?_ ?_
 ·intro n sf
  rw [ev, Ex.sfe_sz, tx, List.length_cons, List.length_map, Ex.sz]; simp only [Ex.szs]; omega
 ·intro s a sf h1 h2
  have h3 := sev_big' s h1
  have h4 := aev_big' a fun t ht => sev_big' t (h2 t ht)
  have h5 := Ex.tog_sz 2 (sev s)
  have h6 := Ex.tog_sz 3 (Ex.tog 2 (sev s) :: aev a)
  rw [ev, Ex.sfe_sz, tx]
  simp only [List.length_cons, List.length_append, List.length_map, Ex.szs] at *
  omega
theorem sev_big (s : List It) : Ex.szs (sev s) ≤ 2 * (stx s).length := sev_big' s fun i _ => ev_big i
theorem al_big (s : List It) (a : List (List It)) : Ex.szs (sq s :: aev a) ≤ 1 + 2 * (stx s ++ atl a).length := by
 have h1 := sev_big s
 have h2 := aev_big' a fun t _ => sev_big t
 have h3 : (sq s).sz ≤ 1 + Ex.szs (sev s) := Ex.tog_sz 2 (sev s)
 rw [Ex.szs, List.length_append]; omega
theorem al_sz (s : List It) (a : List (List It)) : (al s a).sz ≤ 2 + 2 * (stx s ++ atl a).length := by
 have h1 := Ex.tog_sz 3 (sq s :: aev a)
 have h2 := al_big s a
 show (Ex.tog 3 (sq s :: aev a)).sz ≤ _
 omega
theorem stx_mem {s : List It} {i : It} (h : i ∈ s) : (tx i).length ≤ (stx s).length := by
 induction s with
 | nil => cases h
 | cons e l ih =>
  rw [stx, List.length_append]
  rcases List.mem_cons.1 h with rfl | h
  ·omega
  ·have := ih h; omega
theorem atl_mem {a : List (List It)} {t : List It} (h : t ∈ a) : (stx t).length ≤ (atl a).length := by
 induction a with
 | nil => cases h
 | cons e l ih =>
  rw [atl, List.length_cons, List.length_append]
  rcases List.mem_cons.1 h with rfl | h
  ·omega
  ·have := ih h; omega
theorem al_mem {s : List It} {a : List (List It)} {t : List It} (h : t = s ∨ t ∈ a) : (stx t).length ≤ (stx s ++ atl a).length := by
 rw [List.length_append]
 rcases h with rfl | h
 ·omega
 ·have := atl_mem h; omega
end It
end Go.Vl
end
section
namespace Go.Vl
def seg (w : List Int) (i j : Nat) : List Int := (w.take j).drop i
section rch
variable {A B : Lg} {w : List Int} {f g h : Nat → Bool}
structure WayR (A : Lg) (w : List Int) (f o : Nat → Bool) : Prop where
 all : ∀ j, j ≤ w.length → f j = true → o j = true
 some : ∀ j, j ≤ w.length → o j = true → ∃ i, i ≤ j ∧ f i = true ∧ Lg.star A (seg w i j)
def outs (n : Nat) (o : Nat → Bool) : Nat := ((List.range n).filter fun j => !o j).length
theorem outs_lt (n : Nat) (o p : Nat → Bool) (h : ∀ j, j < n → o j = true → p j = true) (hne : ¬ ∀ j, j < n → p j = o j) : outs n p < outs n o := by
 induction n with
 | zero => exact absurd (fun j hj => absurd hj (Nat.not_lt_zero _)) hne
 | succ n ih =>
  have hle : ∀ m, m ≤ n → outs m p ≤ outs m o := by
   intro m
   induction m with
   | zero => intro _; exact Nat.le_refl _
   | succ m ih2 =>
    intro hm
    have := ih2 (by omega)
    simp only [outs, List.range_succ, List.filter_append, List.length_append] at this ⊢
    have h2 := h m (by omega)
    cases h3 : o m <;> cases h4 : p m <;> simp_all <;> omega
  simp only [outs, List.range_succ, List.filter_append, List.length_append]
  by_cases hn : p n = o n
  ·have := ih (fun j hj => h j (by omega)) fun hall => hne fun j hj => by
    rcases Nat.lt_or_ge j n with h1 | h1
    ·exact hall j h1
    ·obtain rfl : j = n := by omega
     exact hn
   simp only [outs] at this
   simp only [List.filter_cons, List.filter_nil, hn]
   omega
  ·have h1 := hle n (Nat.le_refl _)
   have h2 := h n (by omega)
   simp only [outs] at h1
   cases h3 : o n <;> cases h4 : p n <;> simp_all
   omega
end rch
noncomputable def Lg.dec (A : Lg) (w : List Int) : Bool := @decide (A w) (Classical.propDecidable _)
def tb : Nat → Nat
 | 0 => 2
 | 1 => 2
 | d + 2 => 2 * tb (d + 1) + 4
def nb : Nat → Nat
 | 0 => 1
 | 1 => 1
 | d + 2 => 2 * nb (d + 1)
structure Dx (d : Nat) (s : List It) : Prop where
 ok : It.oks s
 abc : It.blws 3 s
 len : (It.stx s).length ≤ tb d
 nl : It.snl s ≤ nb d
section dx
variable {d : Nat} {s t : List It}
end dx
noncomputable def cutB (A B : Lg) (w : List Int) (i : Nat) : Bool := (List.range i).any fun j => Lg.dec A (w.take j) && Lg.dec B (w.drop j)
end Go.Vl
end
section
namespace Go.Vl
theorem outs_congr {n : Nat} {f g : Nat → Bool} (h : ∀ k, k < n → f k = g k) : outs n f = outs n g := by
 unfold outs
 congr 1
 exact List.filter_congr fun k hk => by rw [h k (List.mem_range.1 hk)]
namespace Au
structure Lv (w : Au) (f0 f : Nat → Bool) (m : Bool) (i c : Nat) : Prop where
 sound : ∀ k, k < w.next.length → f k = true → w.lives k
 fin : ∀ k, k < w.next.length → w.final.getD k false = true → f k = true
 up : ∀ k, k < w.next.length → f0 k = true → f k = true
 still : m = false → (∀ k, k < w.next.length → f k = f0 k) ∧ ∀ k d, k < w.next.length → d < 8 → (k < i ∨ (k = i ∧ d < c)) → ∀ t : Nat, w.to (k : Int) (d : Int) = (t : Int) → f t = true → f k = true
 less : m = true → outs w.next.length f < outs w.next.length f0
variable {w : Au} {f0 f : Nat → Bool} {m : Bool} {i c : Nat}
theorem Lv.start : Lv w (fun k => w.final.getD k false) (fun k => w.final.getD k false) false 0 0 := by
 refine ⟨fun k hk h => ⟨[], ?_⟩, fun k _ h => h, fun k _ h => h, fun _ => ⟨fun _ _ => rfl, fun k d _ _ h => by omega⟩, fun h => by cases h⟩
 simp only [acc, Int.toNat_natCast]
 exact ⟨by omega, h⟩
theorem Lv.again (h : Lv w f0 f m i c) : Lv w f f false 0 0 :=
 ⟨h.sound, h.fin, fun k _ h => h, fun _ => ⟨fun _ _ => rfl, fun k d _ _ h => by omega⟩, fun h => by cases h⟩
theorem Lv.row (h : Lv w f0 f m i 8) : Lv w f0 f m (i + 1) 0 :=
 ⟨h.sound, h.fin, h.up, fun hm => ⟨(h.still hm).1, fun k d hk hd hx => (h.still hm).2 k d hk hd (by omega)⟩, h.less⟩
theorem Lv.skip (h : Lv w f0 f m i c) (hn : ∀ t : Nat, w.to (i : Int) (c : Int) = (t : Int) → f t = true → f i = true) : Lv w f0 f m i (c + 1) := by
 refine ⟨h.sound, h.fin, h.up, fun hm => ⟨(h.still hm).1, fun k d hk hd hx t ht hf => ?_⟩, h.less⟩
 by_cases h1 : k < i ∨ (k = i ∧ d < c)
 ·exact (h.still hm).2 k d hk hd h1 t ht hf
 ·obtain ⟨rfl, rfl⟩ : k = i ∧ d = c := by omega
  exact hn t ht hf
theorem Lv.set (h : Lv w f0 f m i c) (hi : i < w.next.length) (hc : c < 8) {t : Nat} (htl : t < w.next.length) (ht : w.to (i : Int) (c : Int) = (t : Int)) (hft : f t = true) (hfi : f i = false) : Lv w f0 (fun k => if k = i then true else f k) true i (c + 1) := by
 refine ⟨fun k hk hf => ?_, fun k hk hf => ?_, fun k hk hf => ?_, (fun h => by cases h), fun _ => ?_⟩
 ·by_cases hki : k = i
  ·subst hki
   obtain ⟨u, hu⟩ := h.sound t htl hft
   exact ⟨(c : Int) :: u, by rw [acc_step k c hc, ht]; exact hu⟩
  ·rw [if_neg hki] at hf; exact h.sound k hk hf
 ·split
  ·rfl
  ·exact h.fin k hk hf
 ·split
  ·rfl
  ·exact h.up k hk hf
 ·have h1 : outs w.next.length (fun k => if k = i then true else f k) < outs w.next.length f := by
   refine outs_lt _ _ _ (fun k _ hk => ?_) (fun hall => ?_)
   ·split
    ·rfl
    ·exact hk
   ·have := hall i hi
    rw [if_pos rfl, hfi] at this; cases this
  cases m with
  | true => have := h.less rfl; omega
  | false =>
   have h2 : outs w.next.length f = outs w.next.length f0 := by
    unfold outs
    congr 1
    refine List.filter_congr fun k hk => ?_
    rw [(h.still rfl).1 k (List.mem_range.1 hk)]
   omega
theorem Lv.done (hs : w.Shape) (h : Lv w f0 f false w.next.length 0) : ∀ k, k < w.next.length → (f k = true ↔ w.lives k) := by
 have key : ∀ (u : List Int) (k : Nat), k < w.next.length → w.acc (k : Int) u → f k = true := by
  intro u
  induction u with
  | nil =>
   intro k hk ha
   simp only [acc, Int.toNat_natCast] at ha
   exact h.fin k hk ha.2
  | cons c u ih =>
   intro k hk ha
   have hc : 0 ≤ c ∧ c < 8 := by simp only [acc] at ha; exact ⟨ha.2.1, ha.2.2.1⟩
   obtain ⟨c, rfl⟩ : ∃ k : Nat, c = (k : Int) := ⟨c.toNat, by omega⟩
   rw [acc_step k c (by omega)] at ha
   rcases to_state hs hk (c := c) (by omega) with h1 | ⟨t, ht, h1⟩
   ·exact absurd ha (acc_neg h1 _)
   ·rw [h1] at ha
    exact (h.still rfl).2 k c hk (by omega) (.inl hk) t h1 (ih t ht ha)
 exact fun k hk => ⟨h.sound k hk, fun ⟨u, hu⟩ => key u k hk hu⟩
def cls0 (w : Au) (f : Nat → Bool) (k : Nat) : Int := if f k = true then (if w.final.getD k false = true then 1 else 0) else -1
theorem Moore.start {f : Nat → Bool} (hf : ∀ k, k < w.next.length → (f k = true ↔ w.lives k)) : w.Moore (cls0 w f) 0 := by
 have hv : ∀ k, k < w.next.length → (cls0 w f k < 0 ↔ ¬ w.lives k) := fun k hk => by
  unfold cls0
  rw [← hf k hk]
  by_cases h : f k = true
  ·rw [if_pos h]
   split <;> exact ⟨fun h => by omega, fun h' => absurd h h'⟩
  ·rw [if_neg h]; exact ⟨fun _ => h, fun _ => by omega⟩
 have hl : ∀ k, k < w.next.length → w.lives k → cls0 w f k = if w.final.getD k false = true then 1 else 0 := fun k hk h => by
  unfold cls0; rw [if_pos ((hf k hk).2 h)]
 refine ⟨hv, fun i j hi hj hli he => ?_, fun i j hi hj h0 he => ?_, fun h => absurd rfl h⟩
 ·have hlj : w.lives j := by obtain ⟨u, hu⟩ := hli; exact ⟨u, (he u).1 hu⟩
  rw [hl i hi hli, hl j hj hlj]
  have := he []
  simp only [acc, Int.toNat_natCast] at this
  have h2 : (w.final.getD i false = true) ↔ (w.final.getD j false = true) := ⟨fun h => (this.1 ⟨by omega, h⟩).2, fun h => (this.2 ⟨by omega, h⟩).2⟩
  by_cases h3 : w.final.getD i false = true
  ·rw [if_pos h3, if_pos (h2.1 h3)]
  ·rw [if_neg h3, if_neg (fun h => h3 (h2.2 h))]
 ·have h1 : w.lives i := Classical.byContradiction fun h => by have := (hv i hi).2 h; omega
  have h2 : w.lives j := Classical.byContradiction fun h => by have := (hv j hj).2 h; omega
  rw [hl i hi h1, hl j hj h2] at he
  cases h3 : w.final.getD i false <;> cases h4 : w.final.getD j false <;> simp_all
def lst (w : Au) (out : Nat → Int) (k : Nat) : List Int := [out k, w.cto out k 0, w.cto out k 1, w.cto out k 2, w.cto out k 3, w.cto out k 4, w.cto out k 5, w.cto out k 6, w.cto out k 7]
theorem lst_eq (out : Nat → Int) (i j : Nat) : lst w out i = lst w out j ↔ (out i = out j ∧ ∀ c : Nat, c < 8 → w.cto out i c = w.cto out j c) := by
 unfold lst
 constructor
 ·intro h
  simp only [List.cons.injEq, and_true] at h
  refine ⟨h.1, fun c hc => ?_⟩
  rcases (show c = 0 ∨ c = 1 ∨ c = 2 ∨ c = 3 ∨ c = 4 ∨ c = 5 ∨ c = 6 ∨ c = 7 from by omega) with rfl | rfl | rfl | rfl | rfl | rfl | rfl | rfl <;> simp [h]
 ·rintro ⟨h1, h2⟩
  rw [h1, h2 0 (by decide), h2 1 (by decide), h2 2 (by decide), h2 3 (by decide), h2 4 (by decide), h2 5 (by decide), h2 6 (by decide), h2 7 (by decide)]
structure Dv (w : Au) (out : Nat → Int) (K : List (List Int)) (next : Nat → Int) (i : Nat) : Prop where
 nodup : K.Nodup
 neg : ∀ k, k < i → out k < 0 → next k = -1
 pos : ∀ k, k < i → 0 ≤ out k → ∃ j : Nat, K[j]? = some (lst w out k) ∧ next k = (j : Int)
 hit : ∀ j, j < K.length → ∃ k, k < i ∧ 0 ≤ out k ∧ K[j]? = some (lst w out k)
variable {out next : Nat → Int} {K : List (List Int)}
theorem Dv.start (next : Nat → Int) : Dv w out [] next 0 := ⟨List.nodup_nil, fun k h => absurd h (Nat.not_lt_zero _), fun k h => absurd h (Nat.not_lt_zero _), fun j h => absurd h (Nat.not_lt_zero _)⟩
theorem Dv.none (h : Dv w out K next i) (ho : out i < 0) : Dv w out K (fun k => if k = i then -1 else next k) (i + 1) := by
 refine ⟨h.nodup, fun k hk hn => ?_, fun k hk hp => ?_, fun j hj => ?_⟩
 ·by_cases e : k = i
  ·exact if_pos e
  ·rw [if_neg e]; exact h.neg k (by omega) hn
 ·have e : k ≠ i := fun e => by rw [e] at hp; omega
  rw [if_neg e]; exact h.pos k (by omega) hp
 ·obtain ⟨k, h1, h2, h3⟩ := h.hit j hj
  exact ⟨k, by omega, h2, h3⟩
theorem Dv.old (h : Dv w out K next i) (ho : 0 ≤ out i) {j : Nat} (hj : K[j]? = some (lst w out i)) : Dv w out K (fun k => if k = i then (j : Int) else next k) (i + 1) := by
 refine ⟨h.nodup, fun k hk hn => ?_, fun k hk hp => ?_, fun j hj => ?_⟩
 ·have e : k ≠ i := fun e => by rw [e] at hn; omega
  rw [if_neg e]; exact h.neg k (by omega) hn
 ·by_cases e : k = i
  ·rw [e]; exact ⟨j, hj, if_pos rfl⟩
  ·rw [if_neg e]; exact h.pos k (by omega) hp
 ·obtain ⟨k, h1, h2, h3⟩ := h.hit j hj
  exact ⟨k, by omega, h2, h3⟩
theorem Dv.new (h : Dv w out K next i) (ho : 0 ≤ out i) (hn : lst w out i ∉ K) : Dv w out (K ++ [lst w out i]) (fun k => if k = i then (K.length : Int) else next k) (i + 1) := by
 have up : ∀ (j : Nat) (x : List Int), K[j]? = some x → (K ++ [lst w out i])[j]? = some x := fun j x hj => by
  rw [List.getElem?_append_left (by rcases Nat.lt_or_ge j K.length with h1 | h1; exact h1; rw [List.getElem?_eq_none h1] at hj; cases hj)]; exact hj
 have last : (K ++ [lst w out i])[K.length]? = some (lst w out i) := by rw [List.getElem?_append_right (Nat.le_refl _), Nat.sub_self]; rfl
 refine ⟨List.nodup_append.2 ⟨h.nodup, by simp, fun a ha b hb e => hn (by rw [← List.mem_singleton.1 hb, ← e]; exact ha)⟩, fun k hk hn => ?_, fun k hk hp => ?_, fun j hj => ?_⟩
 ·have e : k ≠ i := fun e => by rw [e] at hn; omega
  rw [if_neg e]; exact h.neg k (by omega) hn
 ·by_cases e : k = i
  ·rw [e]; exact ⟨K.length, last, if_pos rfl⟩
  ·rw [if_neg e]
   obtain ⟨j, h1, h2⟩ := h.pos k (by omega) hp
   exact ⟨j, up j _ h1, h2⟩
 ·rw [List.length_append, List.length_singleton] at hj
  rcases Nat.lt_or_ge j K.length with h1 | h1
  ·obtain ⟨k, h2, h3, h4⟩ := h.hit j h1
   exact ⟨k, by omega, h3, up j _ h4⟩
  ·obtain rfl : j = K.length := by omega
   exact ⟨i, by omega, ho, last⟩
theorem Dv.div (h : Dv w out K next w.next.length) : w.Div out next K.length := by
 have hlt : ∀ (j : Nat) (x : List Int), K[j]? = some x → j < K.length := fun j x hj => by
  rcases Nat.lt_or_ge j K.length with h1 | h1
  ·exact h1
  ·rw [List.getElem?_eq_none h1] at hj; cases hj
 refine ⟨fun i hi => ⟨fun hn => ?_, fun hn => ?_⟩, fun i j hi hj h0 h1 => ?_, fun i hi => ?_, fun v hv => ?_⟩
 ·rcases Int.lt_or_le (out i) 0 with h1 | h1
  ·exact h1
  ·obtain ⟨j, _, h2⟩ := h.pos i hi h1; omega
 ·rw [h.neg i hi hn]; decide
 ·obtain ⟨a, ha, ea⟩ := h.pos i hi h0
  obtain ⟨b, hb, eb⟩ := h.pos j hj h1
  rw [ea, eb, ← lst_eq]
  constructor
  ·intro e
   have e : a = b := by omega
   subst e
   rw [ha] at hb; exact Option.some.inj hb
  ·intro e
   rw [← e] at hb
   have la := hlt a _ ha
   have lb := hlt b _ hb
   rw [List.getElem?_eq_getElem la] at ha
   rw [List.getElem?_eq_getElem lb] at hb
   have : K[a] = K[b] := by rw [Option.some.inj ha, Option.some.inj hb]
   have := (List.getElem_inj h.nodup).1 this
   omega
 ·rcases Int.lt_or_le (out i) 0 with h1 | h1
  ·rw [h.neg i hi h1]; omega
  ·obtain ⟨j, h2, h3⟩ := h.pos i hi h1
   have := hlt j _ h2; omega
 ·obtain ⟨k, h1, h2, h3⟩ := h.hit v hv
  obtain ⟨j, h4, h5⟩ := h.pos k h1 h2
  refine ⟨k, h1, ?_⟩
  have la := hlt v _ h3
  have lb := hlt j _ h4
  rw [List.getElem?_eq_getElem la] at h3
  rw [List.getElem?_eq_getElem lb] at h4
  have : K[v] = K[j] := by rw [Option.some.inj h3, Option.some.inj h4]
  have := (List.getElem_inj h.nodup).1 this
  omega
theorem Dv.len (h : Dv w out K next i) : K.length ≤ i := by
 classical
 refine pigeon i K.length (fun j => if hj : j < K.length then Classical.choose (h.hit j hj) else 0) (fun j hj => ?_) (fun a b ha hb e => ?_)
 ·simp only [dif_pos hj]; exact (Classical.choose_spec (h.hit j hj)).1
 ·simp only [dif_pos ha, dif_pos hb] at e
  have h1 := (Classical.choose_spec (h.hit a ha)).2.2
  have h2 := (Classical.choose_spec (h.hit b hb)).2.2
  rw [e, ← h2, List.getElem?_eq_getElem ha, List.getElem?_eq_getElem hb] at h1
  exact (List.getElem_inj h.nodup).1 (Option.some.inj h1)
theorem lst_sml (hb : ∀ k, k < w.next.length → -1 ≤ out k ∧ out k < 100) (hs : w.Shape) {k : Nat} (hk : k < w.next.length) : sml (lst w out k) := by
 have hc : ∀ c : Nat, c < 8 → -1 ≤ w.cto out k c ∧ w.cto out k c < 100 := fun c hc => by
  rcases to_state hs hk hc with h1 | ⟨t, ht, h1⟩
  ·rw [cto_neg h1]; decide
  ·rw [cto_nat h1]; exact hb t ht
 intro n hn
 simp only [lst, List.mem_cons, List.not_mem_nil, or_false] at hn
 rcases hn with rfl | rfl | rfl | rfl | rfl | rfl | rfl | rfl | rfl
 ·exact hb k hk
 ·exact hc 0 (by decide)
 ·exact hc 1 (by decide)
 ·exact hc 2 (by decide)
 ·exact hc 3 (by decide)
 ·exact hc 4 (by decide)
 ·exact hc 5 (by decide)
 ·exact hc 6 (by decide)
 ·exact hc 7 (by decide)
end Au
theorem Au.Dv.mem {w : Au} {out next : Nat → Int} {K : List (List Int)} {i : Nat} (h : Au.Dv w out K next i) {q : List Int} (hq : q ∈ K) : ∃ k, k < i ∧ q = Au.lst w out k := by
 obtain ⟨j, hj, rfl⟩ := List.mem_iff_getElem.1 hq
 obtain ⟨k, h1, _, h3⟩ := h.hit j hj
 rw [List.getElem?_eq_getElem hj] at h3
 exact ⟨k, h1, Option.some.inj h3⟩
theorem Au.Dv.plc {w : Au} {out next : Nat → Int} {K : List (List Int)} {i : Nat} (h : Au.Dv w out K next i) (hb : ∀ k, k < w.next.length → -1 ≤ out k ∧ out k < 100) (hs : w.Shape) (hi : i < w.next.length) : place (keyL (Au.lst w out i)) (K.map keyL) = place (Au.lst w out i) K :=
 place_map fun q hq e => by
  obtain ⟨k, hk, rfl⟩ := h.mem hq
  exact keyL_inj' (Au.lst_sml hb hs hi) (Au.lst_sml hb hs (by omega)) e
theorem Au.Dv.rng {w : Au} {out next : Nat → Int} {K : List (List Int)} {i : Nat} (h : Au.Dv w out K next i) (hi : i ≤ 100) : ∀ k, k < i → -1 ≤ next k ∧ next k < 100 := fun k hk => by
 have hl := h.len
 rcases Int.lt_or_le (out k) 0 with h1 | h1
 ·rw [h.neg k hk h1]; decide
 ·obtain ⟨j, h2, h3⟩ := h.pos k hk h1
  have : j < K.length := by
   rcases Nat.lt_or_ge j K.length with h4 | h4
   ·exact h4
   ·rw [List.getElem?_eq_none h4] at h2; cases h2
  omega
theorem Au.lst_snoc (w : Au) (out : Nat → Int) (k d : Nat) (hd : d < 8) : (Au.lst w out k).take (d + 1 + 1) = (Au.lst w out k).take (d + 1) ++ [w.cto out k d] := by
 rcases (show d = 0 ∨ d = 1 ∨ d = 2 ∨ d = 3 ∨ d = 4 ∨ d = 5 ∨ d = 6 ∨ d = 7 from by omega) with rfl | rfl | rfl | rfl | rfl | rfl | rfl | rfl <;> rfl
theorem Au.cls0_rng (w : Au) (f : Nat → Bool) (k : Nat) : -1 ≤ Au.cls0 w f k ∧ Au.cls0 w f k < 100 := by
 unfold Au.cls0
 split
 ·split <;> omega
 ·omega
def rowI (n : Nat) (f : Nat → Int) : List AV := (List.range n).map fun k => AV.int (f k)
theorem rowI_len (n : Nat) (f : Nat → Int) : (rowI n f).length = n := by simp [rowI]
theorem rowI_get {n : Nat} {f : Nat → Int} {k : Nat} (h : k < n) : (rowI n f)[k]? = some (AV.int (f k)) := by
 rw [rowI, List.getElem?_map, List.getElem?_range h]; rfl
theorem rowI_rep (n : Nat) : List.replicate n (AV.int 0) = rowI n (fun _ => 0) := by
 refine List.ext_getElem? fun k => ?_
 rcases Nat.lt_or_ge k n with h | h
 ·rw [rowI_get h, List.getElem?_replicate, if_pos h]
 ·rw [List.getElem?_eq_none (by simpa using h), List.getElem?_eq_none (by rw [rowI_len]; exact h)]
theorem rowI_set (n : Nat) (f : Nat → Int) (i : Nat) (x : Int) : (rowI n f).set i (AV.int x) = rowI n (fun k => if k = i then x else f k) := by
 refine List.ext_getElem? fun k => ?_
 rcases Nat.lt_or_ge k n with h | h
 ·rw [rowI_get h, List.getElem?_set, rowI_len]
  by_cases e : i = k
  ·subst e; rw [if_pos rfl, if_pos h, if_pos rfl]
  ·rw [if_neg e, if_neg (fun h' => e h'.symm), rowI_get h]
 ·rw [List.getElem?_eq_none (by rw [List.length_set, rowI_len]; exact h), List.getElem?_eq_none (by rw [rowI_len]; exact h)]
theorem rowI_congr {n : Nat} {f g : Nat → Int} (h : ∀ k, k < n → f k = g k) : rowI n f = rowI n g := List.map_congr_left fun k hk => congrArg AV.int (h k (List.mem_range.1 hk))
def clsI (w : Au) (f : Nat → Bool) (i k : Nat) : Int := if k < i then Au.cls0 w f k else 0
theorem clsI_set {w : Au} {f : Nat → Bool} (n i : Nat) {x : Int} (hx : Au.cls0 w f i = x) : (rowI n (clsI w f i)).set i (AV.int x) = rowI n (clsI w f (i + 1)) := by
 rw [rowI_set]
 refine rowI_congr fun k _ => ?_
 unfold clsI
 by_cases h : k = i
 ·subst h; rw [if_pos rfl, if_pos (by omega), hx]
 ·rw [if_neg h]
  by_cases h2 : k < i
  ·rw [if_pos h2, if_pos (by omega)]
  ·rw [if_neg h2, if_neg (by omega)]
theorem clsI_zero {w : Au} {f : Nat → Bool} (n i : Nat) (hx : Au.cls0 w f i = 0) : rowI n (clsI w f i) = rowI n (clsI w f (i + 1)) := by
 refine rowI_congr fun k _ => ?_
 unfold clsI
 by_cases h : k = i
 ·subst h; rw [if_neg (Nat.lt_irrefl _), if_pos (by omega), hx]
 ·by_cases h2 : k < i
  ·rw [if_pos h2, if_pos (by omega)]
  ·rw [if_neg h2, if_neg (by omega)]
theorem clsI_start (w : Au) (f : Nat → Bool) (n : Nat) : List.replicate n (AV.int 0) = rowI n (clsI w f 0) := by
 rw [rowI_rep]
 exact rowI_congr fun k _ => by unfold clsI; rw [if_neg (by omega)]
theorem clsI_done (w : Au) (f : Nat → Bool) (n : Nat) : rowI n (clsI w f n) = rowI n (Au.cls0 w f) :=
 rowI_congr fun k hk => by unfold clsI; rw [if_pos hk]
def wrow (r : List Int) : AV := r8av fun c => r.getD c 0
theorem rowB_list (l : List Bool) : l.map AV.bool = rowB l.length (fun k => l.getD k false) := by
 refine List.ext_getElem? fun k => ?_
 rcases Nat.lt_or_ge k l.length with h | h
 ·rw [rowB_at _ _ k h]; exact getD_mapG AV.bool false l k h
 ·rw [List.getElem?_eq_none (by rw [List.length_map]; exact h), List.getElem?_eq_none (by rw [rowB_len]; exact h)]
theorem wrow_get {w : Au} (hs : w.Shape) {i : Nat} (hi : i < w.next.length) : (w.next.map wrow)[i]? = some (r8av fun c => w.to (i : Int) (c : Int)) := by
 rw [getD_mapG wrow [] w.next i hi]
 refine congrArg some (congrArg AV.agg (row8_congr fun c hc => ?_))
 have := Au.to_get w (i : Int) (c : Int) (by rw [Int.toNat_natCast, Int.toNat_natCast, hs.row i hi]; exact hc)
 rwa [Int.toNat_natCast, Int.toNat_natCast] at this
end Go.Vl
end
section
namespace Go.Vl
def r8l (f : Nat → Int) : List Int := [f 0, f 1, f 2, f 3, f 4, f 5, f 6, f 7]
theorem r8l_get (f : Nat → Int) (c : Nat) (hc : c < 8) (z : Int) : (r8l f).getD c z = f c := by
 rcases (show c = 0 ∨ c = 1 ∨ c = 2 ∨ c = 3 ∨ c = 4 ∨ c = 5 ∨ c = 6 ∨ c = 7 from by omega) with rfl | rfl | rfl | rfl | rfl | rfl | rfl | rfl <;> rfl
theorem r8l_congr {f g : Nat → Int} (h : ∀ c, c < 8 → f c = g c) : r8l f = r8l g := by
 unfold r8l
 rw [h 0 (by decide), h 1 (by decide), h 2 (by decide), h 3 (by decide), h 4 (by decide), h 5 (by decide), h 6 (by decide), h 7 (by decide)]
theorem row8_set (f : Nat → Int) (c : Nat) (hc : c < 8) (x : Int) : (row8 f).set c (.int x) = row8 (fun d => if d = c then x else f d) := by
 rcases (show c = 0 ∨ c = 1 ∨ c = 2 ∨ c = 3 ∨ c = 4 ∨ c = 5 ∨ c = 6 ∨ c = 7 from by omega) with rfl | rfl | rfl | rfl | rfl | rfl | rfl | rfl <;> rfl
namespace Au
def setI (T : Nat → Nat → Int) (i c : Nat) (x : Int) : Nat → Nat → Int := fun k d => if k = i ∧ d = c then x else T k d
theorem setI_at (T : Nat → Nat → Int) (i c : Nat) (x : Int) : setI T i c x i c = x := if_pos ⟨rfl, rfl⟩
theorem setI_ne (T : Nat → Nat → Int) (i c : Nat) (x : Int) {k d : Nat} (h : ¬ (k = i ∧ d = c)) : setI T i c x k d = T k d := if_neg h
def rowV (T : Nat → Nat → Int) (i c : Nat) : List AV := row8 fun d => if d < c then T i d else 0
theorem rowV_step (T : Nat → Nat → Int) (i c : Nat) (x : Int) (hc : c < 8) : (rowV T i c).set c (.int x) = rowV (setI T i c x) i (c + 1) := by
 unfold rowV
 rw [row8_set _ c hc]
 refine row8_congr fun d _ => ?_
 by_cases h : d = c
 ·subst h
  rw [if_pos rfl, if_pos (by omega), setI_at]
 ·rw [if_neg h, setI_ne T i c x (by omega)]
  by_cases h2 : d < c
  ·rw [if_pos h2, if_pos (by omega)]
  ·rw [if_neg h2, if_neg (by omega)]
theorem rowV_done (T : Nat → Nat → Int) (i : Nat) : rowV T i 8 = row8 (T i) := row8_congr fun d hd => if_pos hd
theorem rowV_len (T : Nat → Nat → Int) (i c : Nat) : (rowV T i c).length = 8 := rfl
def rowsL (n : Nat) (T : Nat → Nat → Int) : List (List Int) := (List.range n).map fun k => r8l (T k)
theorem rowsL_len (n : Nat) (T : Nat → Nat → Int) : (rowsL n T).length = n := by simp [rowsL]
theorem rowsL_snoc (n : Nat) (T : Nat → Nat → Int) : rowsL n T ++ [r8l (T n)] = rowsL (n + 1) T := by
 rw [rowsL, rowsL, List.range_succ, List.map_append]; rfl
theorem rowsL_set (T : Nat → Nat → Int) (i c : Nat) (x : Int) : rowsL i (setI T i c x) = rowsL i T :=
 List.map_congr_left fun k hk => r8l_congr fun d _ => setI_ne T i c x (by have := List.mem_range.1 hk; omega)
theorem rowsL_get (n : Nat) (T : Nat → Nat → Int) (k : Nat) (hk : k < n) : (rowsL n T).getD k [] = r8l (T k) := by
 rw [rowsL, List.getD_eq_getElem?_getD, List.getElem?_map, List.getElem?_range hk]; rfl
def auOf (n : Nat) (T : Nat → Nat → Int) (F : List Bool) : Au := ⟨rowsL n T, F⟩
theorem auOf_len (n : Nat) (T : Nat → Nat → Int) (F : List Bool) : (auOf n T F).next.length = n := rowsL_len n T
theorem auOf_row (n : Nat) (T : Nat → Nat → Int) (F : List Bool) (k : Nat) (hk : k < n) : ((auOf n T F).next.getD k []).length = 8 := by
 show ((rowsL n T).getD k []).length = 8
 rw [rowsL_get n T k hk]; rfl
theorem auOf_to (n : Nat) (T : Nat → Nat → Int) (F : List Bool) (k c : Nat) (hk : k < n) (hc : c < 8) : (auOf n T F).to (k : Int) (c : Int) = T k c := by
 show ((rowsL n T).getD (k : Int).toNat []).getD (c : Int).toNat (-1) = _
 rw [Int.toNat_natCast, Int.toNat_natCast, rowsL_get n T k hk, r8l_get _ c hc]
theorem auOf_wide (n : Nat) (T : Nat → Nat → Int) (F : List Bool) : (auOf n T F).next.map wrow = (List.range n).map fun k => r8av (T k) := by
 show (rowsL n T).map wrow = _
 rw [rowsL, List.map_map]; rfl
theorem Bfs.len {w : Au} {cl : Nat → Int} {S : List Nat} {T : Nat → Nat → Int} {i c : Nat} (h : Bfs w cl S T i c) : S.length ≤ w.next.length :=
 pigeon w.next.length S.length (fun k => S.getD k 0) (fun k hk => (h.lt k hk).1) fun j k hj hk e => h.apart j k hj hk (by rw [show S.getD j 0 = S.getD k 0 from e])
theorem Bfs.made {w : Au} {cl : Nat → Int} {S : List Nat} {T : Nat → Nat → Int} (hs : w.Shape) (hc : w.Cls cl) (h : Bfs w cl S T S.length 0) (F : List Bool) (hF : F = S.map fun k => w.final.getD k false) : (auOf S.length T F).Canon ∧ ∀ u, (auOf S.length T F).acc 0 u ↔ w.acc 0 u :=
 Bfs.canon hs hc h (auOf_len _ _ _) hF (fun k hk => auOf_row _ _ _ k hk) (fun k c hk hc => auOf_to _ _ _ k c hk hc)
theorem Bfs.setI {w : Au} {cl : Nat → Int} {S : List Nat} {T : Nat → Nat → Int} {i c : Nat} (h : Bfs w cl S T i c) (x : Int) : Bfs w cl S (setI T i c x) i c :=
 h.congr fun i' c' hp _ => setI_ne T i c x (by omega)
theorem Bfs.plc {w : Au} {cl : Nat → Int} {S : List Nat} {T : Nat → Nat → Int} {i c : Nat} (h : Bfs w cl S T i c) {v : Int} {j : Nat} (hj : place v (S.map cl) = some j) : j < S.length ∧ cl (S.getD j 0) = v := by
 have h1 := place_lt hj
 rw [List.length_map] at h1
 have h2 := place_some hj
 rw [List.getElem?_map, List.getElem?_eq_getElem h1] at h2
 refine ⟨h1, ?_⟩
 rw [List.getD_eq_getElem?_getD, List.getElem?_eq_getElem h1]
 exact Option.some.inj h2
theorem Bfs.fresh {cl : Nat → Int} {S : List Nat} {v : Int} (hn : v ∉ S.map cl) : ∀ k, k < S.length → cl (S.getD k 0) ≠ v := fun k hk e => hn (by
 rw [← e]; exact List.mem_map_of_mem (getD_memG 0 S k hk))
end Au
end Go.Vl
end
section
namespace Go.Vl
def sumN : Nat → (Nat → Nat) → Nat
 | 0, _ => 0
 | n + 1, f => sumN n f + f n
namespace Au
structure Ct (a : Au) (w g : Nat → Nat) (m i d : Nat) : Prop where
 dot : sumN a.next.length (fun k => g k * cnt a m (k : Int)) = sumN i (fun k => w k * cnt a (m + 1) (k : Int)) + w i * sumN d (fun c => cnt a m (a.to (i : Int) (c : Int)))
 tot : sumN a.next.length g ≤ 8 * sumN i w + d * w i
variable {a : Au} {w g : Nat → Nat} {m i d : Nat}
structure Wy (a : Au) (long k : Nat) (w : Nat → Nat) : Prop where
 dot : sumN a.next.length (fun i => w i * cnt a (long - k) (i : Int)) = cnt a long 0
 tot : sumN a.next.length w ≤ 8 ^ k
end Au
end Go.Vl
end
section
namespace Go.Vl
open Go Go.Sem
section view
variable {x : Cx} {L : List (Tmp × Bool × AV)} {M : List ME} {ops : Array Oper} {Q : Exit → Act → World → Prop} {rest : List Oper} {ty : TypeId} {pos : String} {aft : Array Edge}
def SrcN (P : Program) (w : World) (N : List Nat) (k : Nat) (v : Value) (sn : Nat) (xs : List AV) : Prop :=
 (Builtin.lenOf v).run P w = .ok sn w ∧ xs.length ≤ sn ∧ ∃ news : Array Value, news.size = xs.length * k ∧ RepE w N k xs news.toList ∧ (∀ u ∈ news.toList, shV u = 0) ∧
  ∀ w' : World, w'.heap = w.heap → (Builtin.firstCells k xs.length v).run P w' = .ok news w'
theorem Src.toN {P : Program} {w : World} {N : List Nat} {k sn cap cap' : Nat} {ad : Option Addr} {xs : List AV} (h : Src P w N k (.slice ad xs.length cap) xs) (hs : xs.length ≤ sn) : SrcN P w N k (.slice ad sn cap') sn xs := by
 obtain ⟨_, news, h2, h3, h4, h5⟩ := h
 refine ⟨by simp [Builtin.lenOf], hs, news, h2, h3, h4, fun w' hw => ?_⟩
 have := h5 w' hw
 cases ad <;> simpa only [Builtin.firstCells] using this
def VwOv (x : Cx) (L : List (Tmp × Bool × AV)) (M : List ME) (o : Operand) (k sn : Nat) (xs : List AV) : Prop := ∀ a w, St x L M a w → SrcN x.P w (bl M ++ x.F) k (a.eval o) sn xs
theorem VwOv.own (i : Nat) {o : Operand} {g off n cap p sn c U k : Nat} {ad : Option Addr} {es xs : List AV} (h : Ov true L o (.lit (.slice ad sn c))) (ha : xs = [] ∨ ad = some ⟨g, off + p * k, none⟩) (hM : M[i]? = some (ME.arr (.slice (some ⟨g, off, none⟩) n cap) U k es)) (hx : xs = (es.drop p).take xs.length) (hp : p ≤ es.length) (hq : xs.length ≤ sn) (ho : ∀ e ∈ xs, e.okc = true) : VwOv x L M o k sn xs := by
 intro a w hs
 rw [h.lit rfl hs]
 refine Src.toN (cap := c) ?_ hq
 refine src_cells rfl ho ?_
 obtain ⟨ad, cp, e, h1, h2, h3⟩ := hs.mem.holds _ (List.mem_of_getElem? hM)
 cases e
 rcases h3 with ⟨h3, _⟩ | ⟨g', off', cur, lo, hi, h4, h5, _, _, h6⟩
 ·cases h3
 ·cases h4
  rcases ha with ha | ha
  ·exact .inl ha
  refine .inr ⟨g, _, cur, U, (lo, hi), ha, h5, ?_⟩
  rw [hx, ← List.drop_drop]
  exact (h6.drop p hp).take _
theorem VwOv.src {o : Operand} {k : Nat} {xs : List AV} (h : SrcOv x L M o k xs) : VwOv x L M o k xs.length xs := fun a w hs => by
 have h1 := h.src hs
 exact ⟨h1.1, Nat.le_refl _, h1.2⟩
theorem run_copy {P : Program} {w : World} {T T' E k bytes : Nat} {z : Value} {g p dn dc lo hi sn : Nat} {cur : Array Value} {U : TypeId} {xv : Value} {N : List Nat} {xs : List AV} (hT : P.underlying T = some (.slice E)) (hE : Ty P E k bytes z)
 (hc : w.heap[g]? = some (.cells cur U (lo, hi))) (hsz : p + xs.length * k ≤ cur.size) (hfr : hi ≤ lo ∨ p + xs.length * k ≤ lo) (hx : SrcN P w N k xv sn xs) (hq : xs.length = Nat.min sn dn) :
 ∃ news : Array Value, news.size = xs.length * k ∧ RepE w N k xs news.toList ∧ (Builtin.copy_ #[T, T'] ty #[.slice (some ⟨g, p, none⟩) dn dc, xv]).run P w =
  .ok (.int .i64 (xs.length : Int)) { w with heap := w.heap.setIfInBounds g (.cells (wr cur p news.toList) U (lo, hi)) } := by
 obtain ⟨hlen, _, news, hn1, hn2, hn3, hn4⟩ := hx
 have hf := hn4 w rfl
 have hst := run_storeCells (P := P) (g := g) (off := p) (T := U) (lo := lo) (hi := hi) news.toList 0 cur w hc (by simp; omega) (by simp; omega) hn3
 refine ⟨news, hn1, hn2, ?_⟩
 rw [Nat.add_zero] at hst
 rw [hq] at hf
 simp only [Builtin.copy_, List.getElem?_toArray, List.getElem?_cons_zero, List.getElem?_cons_succ, Sem.run_bind, run_underlying hT, Result.andThen_ok, hE.size, hlen, hf, hst, Sem.run_pure, goInt, hq]
theorem RepE.over {w : World} {N : List Nat} {k j off : Nat} {es xs : List AV} {cur nl : List Value} (h : RepE w N k es (cur.drop off)) (hx : RepE w N k xs nl) (hn : nl.length = xs.length * k) (hj : j ≤ es.length) (hoff : off ≤ cur.length) :
 RepE w N k (es.take j ++ xs ++ es.drop (j + xs.length)) ((cur.take (off + j * k) ++ nl ++ cur.drop (off + j * k + nl.length)).drop off) := by
 have hlen := h.len
 have hjk : j * k ≤ es.length * k := Nat.mul_le_mul_right _ hj
 rw [List.length_drop] at hlen
 have e1 : (cur.take (off + j * k) ++ nl ++ cur.drop (off + j * k + nl.length)).drop off = (cur.drop off).take (j * k) ++ (nl ++ (cur.drop off).drop (j * k + nl.length)) := by
  rw [List.append_assoc, List.drop_append_of_le_length (by rw [List.length_take]; omega), List.drop_take, Nat.add_sub_cancel_left, List.drop_drop, Nat.add_assoc]
 rw [e1]
 have hS : (cur.drop off).length = cur.length - off := List.length_drop ..
 generalize cur.drop off = S at h hS
 have htl : (S.take (j * k)).length = j * k := by rw [List.length_take]; omega
 have hjl : (es.take j).length = j := by rw [List.length_take]; omega
 rw [List.append_assoc]
 refine RepE.append (RepE.congr (h.take j) ?_) ?_
 ·rw [hjl, List.take_append_of_le_length (by omega), List.take_take, Nat.min_self]
 ·rw [hjl, List.drop_append_of_le_length (by omega), List.drop_of_length_le (l := S.take (j * k)) (by omega), List.nil_append]
  refine RepE.append (RepE.congr hx (by rw [List.take_append_of_le_length (by omega)])) ?_
  rw [List.drop_append_of_le_length (by omega), List.drop_of_length_le (l := nl) (by omega), List.nil_append, hn, ← Nat.add_mul]
  by_cases hle : j + xs.length ≤ es.length
  ·exact h.drop _ hle
  ·rw [List.drop_of_length_le (by omega)]; simp [RepE]
theorem W.copy (i : Nat) {d : Tmp} {T T' E k bytes : Nat} {z : Value} {o1 o2 : Operand} {g off n cap j dn dc sn U : Nat} {es xs : List AV} (h1 : Ov true L o1 (.lit (.slice (some ⟨g, off + j * k, none⟩) dn dc))) (hM : M[i]? = some (ME.arr (.slice (some ⟨g, off, none⟩) n cap) U k es)) (h2 : VwOv x L M o2 k sn xs)
 (hT : x.P.underlying T = some (.slice E)) (hE : Ty x.P E k bytes z) (hq : xs.length = Nat.min sn dn) (hj : j ≤ es.length) (hc : j + xs.length ≤ cap) {n' : Nat} {es' : List AV} (he' : es' = es.take j ++ xs ++ es.drop (j + xs.length)) (hn' : n' = es'.length) (hd : Nat.blt d x.n = true)
 (next : W x ((d, true, .lit (.int .i64 (xs.length : Int))) :: L) (M.set i (ME.arr (.slice (some ⟨g, off, none⟩) n' cap) U k es')) (wpList x.P ops Q rest)) :
 W x L M (wpList x.P ops Q (⟨some d, .call ⟨.builtin .copy, #[o1, o2], #[T, T']⟩, ty, pos, aft, none⟩ :: rest)) := by
 subst he'
 refine W.opv (ι := Unit) (fun _ => M.set i (ME.arr (.slice (some ⟨g, off, none⟩) n' cap) U k (es.take j ++ xs ++ es.drop (j + xs.length)))) (fun _ => .lit (.int .i64 (xs.length : Int))) hd ?_ (fun _ => next); intro a w hs
 have hsrc := h2 a w hs
 have e1 := h1.lit rfl hs
 obtain ⟨ad, cp, e, hlc, hcm, hcase⟩ := hs.mem.holds _ (List.mem_of_getElem? hM)
 cases e
 rcases hcase with ⟨h3, _⟩ | ⟨g', off', cur, lo, hi, h4, hcur, hsz, hfr, hrE⟩
 ·cases h3
 cases h4
 have hmul : (j + xs.length) * k ≤ cap * k := Nat.mul_le_mul_right _ hc
 rw [Nat.add_mul] at hmul
 obtain ⟨news, hn1, hn2, hrun⟩ := run_copy (ty := ty) (T' := T') (dc := dc) hT hE hcur (p := off + j * k) (by omega) (by omega) hsrc hq
 have hlt : (es.take j ++ xs ++ es.drop (j + xs.length)).length ≤ cap := by simp only [List.length_append, List.length_take, List.length_drop]; omega
 refine ⟨.int .i64 (xs.length : Int), { w with heap := w.heap.setIfInBounds g (.cells (wr cur (off + j * k) news.toList) U (lo, hi)) }, (), ?_, ?_, Rep.lit _⟩
 ·simp only [execOp, resolve, invoke, builtin, Sem.run_bind, Sem.run_pure, Result.andThen_ok, List.map_toArray, List.map_cons, List.map_nil, e1, hrun]
 ·refine hs.write hM rfl rfl ?_
  intro w' hother hnew hk'
  have hnl : news.toList.length = xs.length * k := by simpa using hn1
  refine ⟨some ⟨g, off, none⟩, cap, by rw [hn'], hlt, hcm, .inr ⟨g, off, _, lo, hi, rfl, hnew, ?_, hfr, ?_⟩⟩
  ·rw [wr_size _ _ _ (by omega)]; exact hsz
  ·simp only [wr, List.toList_toArray]
   exact RepE.over (RepE.keep hk' _ _ _ hrE) (RepE.keep hk' _ _ _ hn2) hnl hj (by simp; omega)
theorem run_boundsC {g : Bool} {len cap : Nat} {lo hi : Option Operand} {l h : Int} {a : Act} {w : World} (hst : St x L M a w) (hg : g = true) (hlo : BndOv g L 0 lo l) (hhi : BndOv g L len hi h) (h0 : 0 ≤ l) (h1 : l ≤ h) (h2 : h ≤ cap) :
 (Instr.sliceBounds true len cap (lo.map a.eval) (hi.map a.eval) none).run x.P w = .ok (l.toNat, h.toNat, cap) w := by
 have hb : ∀ (n : Int) (y : Nat) c, 0 ≤ n → n ≤ y → (Instr.sliceBound (.int .i64 n) y c).run x.P w = .ok n.toNat w := fun n y c hn hy => by
  simp [Instr.sliceBound, asIntOf, hn, hy]
 unfold Instr.sliceBounds
 cases lo with
 | none =>
  simp only [BndOv] at hlo
  subst hlo
  cases hi with
  | none =>
   simp only [BndOv] at hhi
   subst hhi
   simp
  | some o =>
   have e := hhi.lit hg hst
   simp only [Option.map_none, Option.map_some, e, Sem.run_bind, Sem.run_pure, Result.andThen_ok]
   rw [hb _ _ _ (by omega) (by omega)]
   simp
 | some o' =>
  have e' := hlo.lit hg hst
  cases hi with
  | none =>
   simp only [BndOv] at hhi
   subst hhi
   simp only [Option.map_none, Option.map_some, e', Sem.run_bind, Sem.run_pure, Result.andThen_ok]
   rw [hb _ _ _ (by omega) (by omega)]
   simp
  | some o =>
   have e := hhi.lit hg hst
   simp only [Option.map_some, e, e', Sem.run_bind, Sem.run_pure, Result.andThen_ok]
   rw [hb _ _ _ (by omega) (by omega)]
   simp only [Result.andThen_ok]
   rw [hb _ _ _ (by omega) (by omega)]
   simp
theorem Ev.slit {g : Bool} {T E k bytes : Nat} {z : Value} {o1 : Operand} {lo hi : Option Operand} {i j : Int} {ad : Option Addr} {n cap : Nat} {v : Value} (h1 : Ov g L o1 (.lit (.slice ad n cap))) (hT : x.P.underlying T = some (.slice E)) (hE : Ty x.P E k bytes z) (hlo : BndOv g L 0 lo i) (hhi : BndOv g L (n : Int) hi j)
 (hb : g = true → 0 ≤ i ∧ i ≤ j ∧ j ≤ cap) (hv : v = .slice (if cap = i.toNat then ad else ad.map (·.add (i.toNat * k))) (j.toNat - i.toNat) (cap - i.toNat)) : Ev x g L M (.slice T o1 lo hi none) ty (.lit v) := Ev.pure fun a w hs hg => by
 obtain ⟨b1, b2, b3⟩ := hb hg
 have hr := run_boundsC (len := n) (cap := cap) hs hg hlo hhi b1 b2 b3
 subst hv
 simp only [execOp, h1.lit hg hs, Option.map_none, Instr.sliceAt, Instr.slice, Sem.run_bind, run_underlying hT, Result.andThen_ok, hr, hE.size, Sem.run_pure]
theorem Ev.slitp {g : Bool} {T E k bytes : Nat} {z : Value} {o1 : Operand} {lo hi : Option Operand} {i j : Int} {b off n cap p q : Nat} (h1 : Ov g L o1 (.lit (.slice (some ⟨b, off, none⟩) n cap))) (hT : x.P.underlying T = some (.slice E)) (hE : Ty x.P E k bytes z) (hlo : BndOv g L 0 lo i) (hhi : BndOv g L (n : Int) hi j)
 (hi' : i = (p : Int)) (hj : j = (q : Int)) (hb : p < cap ∧ p ≤ q ∧ q ≤ cap) : Ev x g L M (.slice T o1 lo hi none) ty (.lit (.slice (some ⟨b, off + p * k, none⟩) (q - p) (cap - p))) := by
 subst hi'; subst hj
 refine Ev.slit h1 hT hE hlo hhi (fun _ => by omega) ?_
 rw [if_neg (by simp; omega)]
 simp [Addr.add_lit]
theorem Ev.slit0 {g : Bool} {T E k bytes : Nat} {z : Value} {o1 : Operand} {hi : Option Operand} {j : Int} {b off n cap q : Nat} (h1 : Ov g L o1 (.lit (.slice (some ⟨b, off, none⟩) n cap))) (hT : x.P.underlying T = some (.slice E)) (hE : Ty x.P E k bytes z) (hhi : BndOv g L (n : Int) hi j)
 (hj : j = (q : Int)) (hb : q ≤ cap) : Ev x g L M (.slice T o1 none hi none) ty (.lit (.slice (some ⟨b, off, none⟩) q cap)) := by
 subst hj
 refine Ev.slit (i := 0) h1 hT hE rfl hhi (fun _ => by omega) ?_
 simp [Addr.add_lit]
theorem W.arr_lit {R : Act → World → Prop} (i : Nat) {v : Value} {U k : Nat} {es : List AV} (hM : M[i]? = some (.arr v U k es)) (hes : 0 < es.length) (h : ∀ g off c, v = .slice (some ⟨g, off, none⟩) es.length c → es.length ≤ c → c ≤ maxLen → W x L M R) : W x L M R := fun a w hs => by
 obtain ⟨ad, cap, e, h1, h2, h3⟩ := hs.mem.holds _ (List.mem_of_getElem? hM)
 rcases h3 with ⟨_, h3⟩ | ⟨g, off, cur, lo, hi, rfl, _⟩
 ·omega
 ·exact h _ _ _ e h1 h2 a w hs
end view
end Go.Vl
end
section
namespace Go.Vl
end Go.Vl
end
