/-
  Merged: Glu Live Ord Cnt Que Plc Add Sts WSeq WNorm.
-/
import Derived.Test.YtacaemfkdieocaaGreatDoorG7
import Derived.RangeFuncNested
import Derived.RangeFuncBox
import Derived.RangeFuncLeaves
import Derived.Shelf.Abstract
import Derived.WalkKit
import Derived.OwnWalkIn
import Derived.TacticsInMore
import Derived.LoopNIn
import Derived.LoopIn
import Derived.Maps.AppendAt
import Derived.Sort.OwnSortedInts

section
set_option linter.unusedVariables false
set_option linter.unusedSimpArgs false
namespace Go.Vl
/-- which places are first, which last, whether the word without letters is meant, which may follow which -/
structure Gl where
  F : Nat → Prop
  L : Nat → Prop
  N : Prop
  E : Nat → Nat → Prop
namespace Gl
/-- words behind a place -/
def rd (ty : Nat → Int) (g : Gl) : Nat → Lg
  | p, [] => g.L p
  | p, c :: w => ∃ q, g.E p q ∧ ty q = c ∧ rd ty g q w
def lg (ty : Nat → Int) (g : Gl) : Lg
  | [] => g.N
  | c :: w => ∃ q, g.F q ∧ ty q = c ∧ rd ty g q w
/-- all places lie from b on and ahead of e -/
structure In (g : Gl) (b e : Nat) : Prop where
  F : ∀ p, g.F p → b ≤ p ∧ p < e
  L : ∀ p, g.L p → b ≤ p ∧ p < e
  E : ∀ p q, g.E p q → (b ≤ p ∧ p < e) ∧ (b ≤ q ∧ q < e)
theorem rd_congr {ty : Nat → Int} {g h : Gl} (R : Nat → Prop) (hL : ∀ p, R p → (g.L p ↔ h.L p)) (hE : ∀ p q, R p → (g.E p q ↔ h.E p q)) (hR : ∀ p q, R p → g.E p q → R q) : ∀ (w : List Int) (p : Nat), R p → (g.rd ty p w ↔ h.rd ty p w)
  | [], p, hp => hL p hp
  | c :: w, p, hp => by
    simp only [rd]
    constructor
    · rintro ⟨q, h1, h2, h3⟩
      exact ⟨q, (hE p q hp).1 h1, h2, (rd_congr R hL hE hR w q (hR p q hp h1)).1 h3⟩
    · rintro ⟨q, h1, h2, h3⟩
      have h1' := (hE p q hp).2 h1
      exact ⟨q, h1', h2, (rd_congr R hL hE hR w q (hR p q hp h1')).2 h3⟩
def one (i : Nat) : Gl := ⟨fun p => p = i, fun p => p = i, False, fun _ _ => False⟩
theorem one_lg (ty : Nat → Int) (i : Nat) : (one i).lg ty = Lg.one (ty i) := Lg.ext fun w => by
  cases w with
  | nil => simp [lg, one, Lg.one]
  | cons c w =>
    simp only [lg, Lg.one, one]
    constructor
    · rintro ⟨q, rfl, rfl, h⟩
      cases w with
      | nil => rfl
      | cons d w => obtain ⟨_, h, _⟩ := h; exact h.elim
    · intro h
      obtain ⟨rfl, rfl⟩ : c = ty i ∧ w = [] := by simpa using h
      exact ⟨i, rfl, rfl, rfl⟩
def nothing (b : Prop) : Gl := ⟨fun _ => False, fun _ => False, b, fun _ _ => False⟩
theorem none_lg (ty : Nat → Int) : (nothing False).lg ty = Lg.none := Lg.ext fun w => by cases w <;> simp [lg, nothing, Lg.none]
theorem eps_lg (ty : Nat → Int) : (nothing True).lg ty = Lg.eps := Lg.ext fun w => by cases w <;> simp [lg, nothing, Lg.eps]
theorem nothing_in (b : Prop) (x : Nat) : (nothing b).In x x := ⟨fun _ h => h.elim, fun _ h => h.elim, fun _ _ h => h.elim⟩
section two
variable {ty : Nat → Int} {g h : Gl} {b m e : Nat}
def or (g h : Gl) : Gl := ⟨fun p => g.F p ∨ h.F p, fun p => g.L p ∨ h.L p, g.N ∨ h.N, fun p q => g.E p q ∨ h.E p q⟩
theorem or_in (hg : g.In b m) (hh : h.In m e) (h1 : b ≤ m) (h2 : m ≤ e) : (or g h).In b e := by
  refine ⟨fun p hp => ?_, fun p hp => ?_, fun p q hp => ?_⟩
  · rcases hp with hp | hp
    · have := hg.F p hp; omega
    · have := hh.F p hp; omega
  · rcases hp with hp | hp
    · have := hg.L p hp; omega
    · have := hh.L p hp; omega
  · rcases hp with hp | hp
    · have := hg.E p q hp; omega
    · have := hh.E p q hp; omega
theorem or_lg (hg : g.In b m) (hh : h.In m e) : (or g h).lg ty = Lg.alt (g.lg ty) (h.lg ty) := Lg.ext fun w => by
  have r1 : ∀ w p, p < m → ((or g h).rd ty p w ↔ g.rd ty p w) := fun w p hp => by
    refine rd_congr (fun p => p < m) (fun p hp => ?_) (fun p q hp => ?_) (fun p q hp hpq => ?_) w p hp
    · exact ⟨fun h' => h'.resolve_right fun h' => by have := hh.L p h'; omega, .inl⟩
    · exact ⟨fun h' => h'.resolve_right fun h' => by have := hh.E p q h'; omega, .inl⟩
    · rcases hpq with h' | h'
      · have := hg.E p q h'; omega
      · have := hh.E p q h'; omega
  have r2 : ∀ w p, m ≤ p → ((or g h).rd ty p w ↔ h.rd ty p w) := fun w p hp => by
    refine rd_congr (fun p => m ≤ p) (fun p hp => ?_) (fun p q hp => ?_) (fun p q hp hpq => ?_) w p hp
    · exact ⟨fun h' => h'.resolve_left fun h' => by have := hg.L p h'; omega, .inr⟩
    · exact ⟨fun h' => h'.resolve_left fun h' => by have := hg.E p q h'; omega, .inr⟩
    · rcases hpq with h' | h'
      · have := hg.E p q h'; omega
      · have := hh.E p q h'; omega
  cases w with
  | nil => exact Iff.rfl
  | cons c w =>
    simp only [lg, Lg.alt]
    constructor
    · rintro ⟨q, hq | hq, h2, h3⟩
      · exact .inl ⟨q, hq, h2, (r1 w q (hg.F q hq).2).1 h3⟩
      · exact .inr ⟨q, hq, h2, (r2 w q (hh.F q hq).1).1 h3⟩
    · rintro (⟨q, hq, h2, h3⟩ | ⟨q, hq, h2, h3⟩)
      · exact ⟨q, .inl hq, h2, (r1 w q (hg.F q hq).2).2 h3⟩
      · exact ⟨q, .inr hq, h2, (r2 w q (hh.F q hq).1).2 h3⟩
def seq (g h : Gl) : Gl := ⟨fun p => g.F p ∨ (g.N ∧ h.F p), fun p => (h.N ∧ g.L p) ∨ h.L p, g.N ∧ h.N, fun p q => (g.E p q ∨ h.E p q) ∨ (g.L p ∧ h.F q)⟩
theorem seq_in (hg : g.In b m) (hh : h.In m e) (h1 : b ≤ m) (h2 : m ≤ e) : (seq g h).In b e := by
  refine ⟨fun p hp => ?_, fun p hp => ?_, fun p q hp => ?_⟩
  · rcases hp with hp | ⟨_, hp⟩
    · have := hg.F p hp; omega
    · have := hh.F p hp; omega
  · rcases hp with ⟨_, hp⟩ | hp
    · have := hg.L p hp; omega
    · have := hh.L p hp; omega
  · rcases hp with (hp | hp) | ⟨hp, hq⟩
    · have := hg.E p q hp; omega
    · have := hh.E p q hp; omega
    · have := hg.L p hp; have := hh.F q hq; omega
theorem seq_lg (hg : g.In b m) (hh : h.In m e) : (seq g h).lg ty = Lg.cat (g.lg ty) (h.lg ty) := Lg.ext fun w => by
  have r2 : ∀ w p, m ≤ p → ((seq g h).rd ty p w ↔ h.rd ty p w) := fun w p hp => by
    refine rd_congr (fun p => m ≤ p) (fun p hp => ?_) (fun p q hp => ?_) (fun p q hp hpq => ?_) w p hp
    · exact ⟨fun h' => h'.resolve_left fun h' => by have := hg.L p h'.2; omega, .inr⟩
    · exact ⟨fun h' => (h'.resolve_right fun h' => by have := hg.L p h'.1; omega).resolve_left fun h' => by have := hg.E p q h'; omega, fun h' => .inl (.inr h')⟩
    · rcases hpq with (h' | h') | ⟨h', h''⟩
      · have := hg.E p q h'; omega
      · have := hh.E p q h'; omega
      · have := hg.L p h'; omega
  have r1 : ∀ w p, p < m → ((seq g h).rd ty p w ↔ ∃ u v, w = u ++ v ∧ g.rd ty p u ∧ h.lg ty v) := by
    intro w
    induction w with
    | nil =>
      intro p hp
      constructor
      · rintro (⟨h1, h2⟩ | h1)
        · exact ⟨[], [], rfl, h2, h1⟩
        · have := hh.L p h1; omega
      · rintro ⟨u, v, e, h1, h2⟩
        obtain ⟨rfl, rfl⟩ := List.append_eq_nil_iff.1 e.symm
        exact .inl ⟨h2, h1⟩
    | cons c w ih =>
      intro p hp
      simp only [rd]
      constructor
      · rintro ⟨q, (h1 | h1) | ⟨h1, h1'⟩, h2, h3⟩
        · obtain ⟨u, v, rfl, h4, h5⟩ := (ih q (hg.E p q h1).2.2).1 h3
          exact ⟨c :: u, v, rfl, ⟨q, h1, h2, h4⟩, h5⟩
        · have := hh.E p q h1; omega
        · exact ⟨[], c :: w, rfl, h1, q, h1', h2, (r2 w q (hh.F q h1').1).1 h3⟩
      · rintro ⟨u, v, e, h1, h2⟩
        cases u with
        | nil =>
          have e : c :: w = v := e
          subst e
          obtain ⟨q, h3, h4, h5⟩ := h2
          exact ⟨q, .inr ⟨h1, h3⟩, h4, (r2 w q (hh.F q h3).1).2 h5⟩
        | cons d u =>
          obtain ⟨rfl, rfl⟩ : c = d ∧ w = u ++ v := by simpa using e
          obtain ⟨q, h3, h4, h5⟩ := h1
          exact ⟨q, .inl (.inl h3), h4, (ih q (hg.E p q h3).2.2).2 ⟨u, v, rfl, h5, h2⟩⟩
  cases w with
  | nil =>
    constructor
    · rintro ⟨h1, h2⟩; exact ⟨[], [], rfl, h1, h2⟩
    · rintro ⟨u, v, e, h1, h2⟩
      obtain ⟨rfl, rfl⟩ := List.append_eq_nil_iff.1 e.symm
      exact ⟨h1, h2⟩
  | cons c w =>
    constructor
    · rintro ⟨q, h1 | ⟨h1, h1'⟩, h2, h3⟩
      · obtain ⟨u, v, rfl, h4, h5⟩ := (r1 w q (hg.F q h1).2).1 h3
        exact ⟨c :: u, v, rfl, ⟨q, h1, h2, h4⟩, h5⟩
      · exact ⟨[], c :: w, rfl, h1, q, h1', h2, (r2 w q (hh.F q h1').1).1 h3⟩
    · rintro ⟨u, v, e, h1, h2⟩
      cases u with
      | nil =>
        have e : c :: w = v := e
        subst e
        obtain ⟨q, h3, h4, h5⟩ := h2
        exact ⟨q, .inr ⟨h1, h3⟩, h4, (r2 w q (hh.F q h3).1).2 h5⟩
      | cons d u =>
        obtain ⟨rfl, rfl⟩ : c = d ∧ w = u ++ v := by simpa using e
        obtain ⟨q, h3, h4, h5⟩ := h1
        exact ⟨q, .inl h3, h4, (r1 (u ++ v) q (hg.F q h3).2).2 ⟨u, v, rfl, h5, h2⟩⟩
/-- what is last may be followed by what is first -/
def loop (g : Gl) (n : Prop) : Gl := ⟨g.F, g.L, n, fun p q => g.E p q ∨ (g.L p ∧ g.F q)⟩
theorem loop_in {n : Prop} (hg : g.In b e) : (loop g n).In b e := by
  refine ⟨hg.F, hg.L, fun p q hp => ?_⟩
  rcases hp with hp | ⟨hp, hq⟩
  · exact hg.E p q hp
  · exact ⟨hg.L p hp, hg.F q hq⟩
theorem star_cons {A : Lg} {z : List Int} (hz : Lg.star A z) : ∀ c w, z = c :: w → ∃ u v, w = u ++ v ∧ A (c :: u) ∧ Lg.star A v := by
  induction hz with
  | nil => intro c w e; cases e
  | cons u v hu hv ih =>
    intro c w e
    cases u with
    | nil => exact ih c w e
    | cons d u =>
      obtain ⟨rfl, rfl⟩ : d = c ∧ u ++ v = w := by simpa using e
      exact ⟨u, v, rfl, hu, hv⟩
theorem loop_rd {n : Prop} : ∀ (w : List Int) (p : Nat), (loop g n).rd ty p w ↔ ∃ u v, w = u ++ v ∧ g.rd ty p u ∧ Lg.star (g.lg ty) v
  | [], p => by
    constructor
    · intro h1; exact ⟨[], [], rfl, h1, .nil⟩
    · rintro ⟨u, v, e, h1, h2⟩
      obtain ⟨rfl, rfl⟩ := List.append_eq_nil_iff.1 e.symm
      exact h1
  | c :: w, p => by
    have ih := loop_rd (n := n) w
    simp only [rd]
    constructor
    · rintro ⟨q, h1 | ⟨h1, h1'⟩, h2, h3⟩
      · obtain ⟨u, v, rfl, h4, h5⟩ := (ih q).1 h3
        exact ⟨c :: u, v, rfl, ⟨q, h1, h2, h4⟩, h5⟩
      · obtain ⟨u, v, rfl, h4, h5⟩ := (ih q).1 h3
        exact ⟨[], c :: (u ++ v), rfl, h1, .cons (c :: u) v ⟨q, h1', h2, h4⟩ h5⟩
    · rintro ⟨u, v, e, h1, h2⟩
      cases u with
      | nil =>
        have e : c :: w = v := e
        obtain ⟨u, v, rfl, ⟨q, h3, h4, h5⟩, h6⟩ := star_cons h2 c w e.symm
        exact ⟨q, .inr ⟨h1, h3⟩, h4, (ih q).2 ⟨u, v, rfl, h5, h6⟩⟩
      | cons d u =>
        obtain ⟨rfl, rfl⟩ : c = d ∧ w = u ++ v := by simpa using e
        obtain ⟨q, h3, h4, h5⟩ := h1
        exact ⟨q, .inl h3, h4, (ih q).2 ⟨u, v, rfl, h5, h2⟩⟩
theorem loop_lg_cons {n : Prop} (c : Int) (w : List Int) : (loop g n).lg ty (c :: w) ↔ Lg.star (g.lg ty) (c :: w) := by
  constructor
  · rintro ⟨q, h1, h2, h3⟩
    obtain ⟨u, v, rfl, h4, h5⟩ := (loop_rd w q).1 h3
    exact .cons (c :: u) v ⟨q, h1, h2, h4⟩ h5
  · intro h1
    obtain ⟨u, v, rfl, ⟨q, h3, h4, h5⟩, h6⟩ := star_cons h1 c w rfl
    exact ⟨q, h3, h4, (loop_rd (u ++ v) q).2 ⟨u, v, rfl, h5, h6⟩⟩
theorem star_lg : (loop g True).lg ty = Lg.star (g.lg ty) := Lg.ext fun w => by
  cases w with
  | nil => exact ⟨fun _ => .nil, fun _ => trivial⟩
  | cons c w => exact loop_lg_cons c w
theorem plus_lg : (loop g g.N).lg ty = Lg.cat (g.lg ty) (Lg.star (g.lg ty)) := Lg.ext fun w => by
  cases w with
  | nil =>
    constructor
    · intro h1; exact ⟨[], [], rfl, h1, .nil⟩
    · rintro ⟨u, v, e, h1, h2⟩
      obtain ⟨rfl, rfl⟩ := List.append_eq_nil_iff.1 e.symm
      exact h1
  | cons c w =>
    rw [loop_lg_cons]
    constructor
    · intro h1
      obtain ⟨u, v, rfl, h2, h3⟩ := star_cons h1 c w rfl
      exact ⟨c :: u, v, rfl, h2, h3⟩
    · rintro ⟨u, v, e, h1, h2⟩
      rw [e]; exact .cons u v h1 h2
def opt (g : Gl) : Gl := ⟨g.F, g.L, True, g.E⟩
theorem opt_in (hg : g.In b e) : (opt g).In b e := ⟨hg.F, hg.L, hg.E⟩
theorem opt_lg : (opt g).lg ty = Lg.alt Lg.eps (g.lg ty) := Lg.ext fun w => by
  cases w with
  | nil => exact ⟨fun _ => .inl rfl, fun _ => trivial⟩
  | cons c w =>
    have hr : ∀ w p, (opt g).rd ty p w ↔ g.rd ty p w := fun w p => rd_congr (g := opt g) (h := g) (fun _ => True) (fun _ _ => Iff.rfl) (fun _ _ _ => Iff.rfl) (fun _ _ _ _ => trivial) w p trivial
    constructor
    · rintro ⟨q, h1, h2, h3⟩; exact .inr ⟨q, h1, h2, (hr w q).1 h3⟩
    · rintro (h1 | ⟨q, h1, h2, h3⟩)
      · cases h1
      · exact ⟨q, h1, h2, (hr w q).2 h3⟩
/-- other letters elsewhere do not count -/
theorem lg_ty {ty' : Nat → Int} (hg : g.In b e) (ht : ∀ p, b ≤ p → p < e → ty p = ty' p) : g.lg ty = g.lg ty' := Lg.ext fun w => by
  have hr : ∀ w p, g.rd ty p w ↔ g.rd ty' p w := by
    intro w
    induction w with
    | nil => intro p; exact Iff.rfl
    | cons c w ih =>
      intro p
      simp only [rd]
      constructor
      · rintro ⟨q, h1, h2, h3⟩
        have := (hg.E p q h1).2
        exact ⟨q, h1, by rw [← ht q this.1 this.2]; exact h2, (ih q).1 h3⟩
      · rintro ⟨q, h1, h2, h3⟩
        have := (hg.E p q h1).2
        exact ⟨q, h1, by rw [ht q this.1 this.2]; exact h2, (ih q).2 h3⟩
  cases w with
  | nil => exact Iff.rfl
  | cons c w =>
    simp only [lg]
    constructor
    · rintro ⟨q, h1, h2, h3⟩
      have := hg.F q h1
      exact ⟨q, h1, by rw [← ht q this.1 this.2]; exact h2, (hr w q).1 h3⟩
    · rintro ⟨q, h1, h2, h3⟩
      have := hg.F q h1
      exact ⟨q, h1, by rw [ht q this.1 this.2]; exact h2, (hr w q).2 h3⟩
theorem ext' {g h : Gl} (hF : ∀ p, g.F p ↔ h.F p) (hL : ∀ p, g.L p ↔ h.L p) (hN : g.N ↔ h.N) (hE : ∀ p q, g.E p q ↔ h.E p q) : g = h := by
  cases g; cases h
  simp only [Gl.mk.injEq]
  exact ⟨funext fun p => propext (hF p), funext fun p => propext (hL p), propext hN, funext fun p => funext fun q => propext (hE p q)⟩
end two
end Gl
end Go.Vl
end

section
set_option linter.unusedVariables false
set_option linter.unusedSimpArgs false
namespace Go.Vl
theorem outs_congr {n : Nat} {f g : Nat → Bool} (h : ∀ k, k < n → f k = g k) : outs n f = outs n g := by
  unfold outs
  congr 1
  exact List.filter_congr fun k hk => by rw [h k (List.mem_range.1 hk)]
namespace Au
/-- f: what is known; f0: what was known as_ the round began; m: has more come in? rows ahead of i, and letters of i ahead of c, are looked at -/
structure Lv (w : Au) (f0 f : Nat → Bool) (m : Bool) (i c : Nat) : Prop where
  sound : ∀ k, k < w.next.length → f k = true → w.lives k
  fin : ∀ k, k < w.next.length → w.final.getD k false = true → f k = true
  up : ∀ k, k < w.next.length → f0 k = true → f k = true
  still : m = false → (∀ k, k < w.next.length → f k = f0 k) ∧ ∀ k d, k < w.next.length → d < 8 → (k < i ∨ (k = i ∧ d < c)) → ∀ t : Nat, w.to (k : Int) (d : Int) = (t : Int) → f t = true → f k = true
  less : m = true → outs w.next.length f < outs w.next.length f0
variable {w : Au} {f0 f : Nat → Bool} {m : Bool} {i c : Nat}
theorem Lv.start : Lv w (fun k => w.final.getD k false) (fun k => w.final.getD k false) false 0 0 := by
  refine ⟨fun k hk h => ⟨[], ?_⟩, fun k _ h => h, fun k _ h => h, fun _ => ⟨fun _ _ => rfl, fun k d _ _ h => by omega⟩, fun h => by cases h⟩
  simp only [acc, Int.toNat_natCast]
  exact ⟨by omega, h⟩
theorem Lv.again (h : Lv w f0 f m i c) : Lv w f f false 0 0 :=
  ⟨h.sound, h.fin, fun k _ h => h, fun _ => ⟨fun _ _ => rfl, fun k d _ _ h => by omega⟩, fun h => by cases h⟩
theorem Lv.row (h : Lv w f0 f m i 8) : Lv w f0 f m (i + 1) 0 :=
  ⟨h.sound, h.fin, h.up, fun hm => ⟨(h.still hm).1, fun k d hk hd hx => (h.still hm).2 k d hk hd (by omega)⟩, h.less⟩
theorem Lv.skip (h : Lv w f0 f m i c) (hn : ∀ t : Nat, w.to (i : Int) (c : Int) = (t : Int) → f t = true → f i = true) : Lv w f0 f m i (c + 1) := by
  refine ⟨h.sound, h.fin, h.up, fun hm => ⟨(h.still hm).1, fun k d hk hd hx t ht hf => ?_⟩, h.less⟩
  by_cases h1 : k < i ∨ (k = i ∧ d < c)
  · exact (h.still hm).2 k d hk hd h1 t ht hf
  · obtain ⟨rfl, rfl⟩ : k = i ∧ d = c := by omega
    exact hn t ht hf
theorem Lv.set (h : Lv w f0 f m i c) (hi : i < w.next.length) (hc : c < 8) {t : Nat} (htl : t < w.next.length) (ht : w.to (i : Int) (c : Int) = (t : Int)) (hft : f t = true) (hfi : f i = false) : Lv w f0 (fun k => if k = i then true else f k) true i (c + 1) := by
  refine ⟨fun k hk hf => ?_, fun k hk hf => ?_, fun k hk hf => ?_, (fun h => by cases h), fun _ => ?_⟩
  · by_cases hki : k = i
    · subst hki
      obtain ⟨u, hu⟩ := h.sound t htl hft
      exact ⟨(c : Int) :: u, by rw [acc_step k c hc, ht]; exact hu⟩
    · rw [if_neg hki] at hf; exact h.sound k hk hf
  · split
    · rfl
    · exact h.fin k hk hf
  · split
    · rfl
    · exact h.up k hk hf
  · have h1 : outs w.next.length (fun k => if k = i then true else f k) < outs w.next.length f := by
      refine outs_lt _ _ _ (fun k _ hk => ?_) (fun hall => ?_)
      · split
        · rfl
        · exact hk
      · have := hall i hi
        rw [if_pos rfl, hfi] at this; cases this
    cases m with
    | true => have := h.less rfl; omega
    | false =>
      have h2 : outs w.next.length f = outs w.next.length f0 := by
        unfold outs
        congr 1
        refine List.filter_congr fun k hk => ?_
        rw [(h.still rfl).1 k (List.mem_range.1 hk)]
      omega
theorem Lv.done (hs : w.Shape) (h : Lv w f0 f false w.next.length 0) : ∀ k, k < w.next.length → (f k = true ↔ w.lives k) := by
  have key : ∀ (u : List Int) (k : Nat), k < w.next.length → w.acc (k : Int) u → f k = true := by
    intro u
    induction u with
    | nil =>
      intro k hk ha
      simp only [acc, Int.toNat_natCast] at ha
      exact h.fin k hk ha.2
    | cons c u ih =>
      intro k hk ha
      have hc : 0 ≤ c ∧ c < 8 := by simp only [acc] at ha; exact ⟨ha.2.1, ha.2.2.1⟩
      obtain ⟨c, rfl⟩ : ∃ k : Nat, c = (k : Int) := ⟨c.toNat, by omega⟩
      rw [acc_step k c (by omega)] at ha
      rcases to_state hs hk (c := c) (by omega) with h1 | ⟨t, ht, h1⟩
      · exact absurd ha (acc_neg h1 _)
      · rw [h1] at ha
        exact (h.still rfl).2 k c hk (by omega) (.inl hk) t h1 (ih t ht ha)
  exact fun k hk => ⟨h.sound k hk, fun ⟨u, hu⟩ => key u k hk hu⟩
/-- the first classes -/
def cls0 (w : Au) (f : Nat → Bool) (k : Nat) : Int := if f k = true then (if w.final.getD k false = true then 1 else 0) else -1
theorem Moore.start {f : Nat → Bool} (hf : ∀ k, k < w.next.length → (f k = true ↔ w.lives k)) : w.Moore (cls0 w f) 0 := by
  have hv : ∀ k, k < w.next.length → (cls0 w f k < 0 ↔ ¬ w.lives k) := fun k hk => by
    unfold cls0
    rw [← hf k hk]
    by_cases h : f k = true
    · rw [if_pos h]
      split <;> exact ⟨fun h => by omega, fun h' => absurd h h'⟩
    · rw [if_neg h]; exact ⟨fun _ => h, fun _ => by omega⟩
  have hl : ∀ k, k < w.next.length → w.lives k → cls0 w f k = if w.final.getD k false = true then 1 else 0 := fun k hk h => by
    unfold cls0; rw [if_pos ((hf k hk).2 h)]
  refine ⟨hv, fun i j hi hj hli he => ?_, fun i j hi hj h0 he => ?_, fun h => absurd rfl h⟩
  · have hlj : w.lives j := by obtain ⟨u, hu⟩ := hli; exact ⟨u, (he u).1 hu⟩
    rw [hl i hi hli, hl j hj hlj]
    have := he []
    simp only [acc, Int.toNat_natCast] at this
    have h2 : (w.final.getD i false = true) ↔ (w.final.getD j false = true) := ⟨fun h => (this.1 ⟨by omega, h⟩).2, fun h => (this.2 ⟨by omega, h⟩).2⟩
    by_cases h3 : w.final.getD i false = true
    · rw [if_pos h3, if_pos (h2.1 h3)]
    · rw [if_neg h3, if_neg (fun h => h3 (h2.2 h))]
  · have h1 : w.lives i := Classical.byContradiction fun h => by have := (hv i hi).2 h; omega
    have h2 : w.lives j := Classical.byContradiction fun h => by have := (hv j hj).2 h; omega
    rw [hl i hi h1, hl j hj h2] at he
    cases h3 : w.final.getD i false <;> cases h4 : w.final.getD j false <;> simp_all
/-- a state's row: its class, and those that letters lead to -/
def lst (w : Au) (out : Nat → Int) (k : Nat) : List Int := [out k, w.cto out k 0, w.cto out k 1, w.cto out k 2, w.cto out k 3, w.cto out k 4, w.cto out k 5, w.cto out k 6, w.cto out k 7]
theorem lst_eq (out : Nat → Int) (i j : Nat) : lst w out i = lst w out j ↔ (out i = out j ∧ ∀ c : Nat, c < 8 → w.cto out i c = w.cto out j c) := by
  unfold lst
  constructor
  · intro h
    simp only [List.cons.injEq, and_true] at h
    refine ⟨h.1, fun c hc => ?_⟩
    rcases (show c = 0 ∨ c = 1 ∨ c = 2 ∨ c = 3 ∨ c = 4 ∨ c = 5 ∨ c = 6 ∨ c = 7 from by omega) with rfl | rfl | rfl | rfl | rfl | rfl | rfl | rfl <;> simp [h]
  · rintro ⟨h1, h2⟩
    rw [h1, h2 0 (by decide), h2 1 (by decide), h2 2 (by decide), h2 3 (by decide), h2 4 (by decide), h2 5 (by decide), h2 6 (by decide), h2 7 (by decide)]
/-- so far: K: the rows that were met, in order; next: where each state's row stands -/
structure Dv (w : Au) (out : Nat → Int) (K : List (List Int)) (next : Nat → Int) (i : Nat) : Prop where
  nodup : K.Nodup
  neg : ∀ k, k < i → out k < 0 → next k = -1
  pos : ∀ k, k < i → 0 ≤ out k → ∃ j : Nat, K[j]? = some (lst w out k) ∧ next k = (j : Int)
  hit : ∀ j, j < K.length → ∃ k, k < i ∧ 0 ≤ out k ∧ K[j]? = some (lst w out k)
variable {out next : Nat → Int} {K : List (List Int)}
theorem Dv.start (next : Nat → Int) : Dv w out [] next 0 := ⟨List.nodup_nil, fun k h => absurd h (Nat.not_lt_zero _), fun k h => absurd h (Nat.not_lt_zero _), fun j h => absurd h (Nat.not_lt_zero _)⟩
theorem Dv.none (h : Dv w out K next i) (ho : out i < 0) : Dv w out K (fun k => if k = i then -1 else next k) (i + 1) := by
  refine ⟨h.nodup, fun k hk hn => ?_, fun k hk hp => ?_, fun j hj => ?_⟩
  · by_cases e : k = i
    · exact if_pos e
    · rw [if_neg e]; exact h.neg k (by omega) hn
  · have e : k ≠ i := fun e => by rw [e] at hp; omega
    rw [if_neg e]; exact h.pos k (by omega) hp
  · obtain ⟨k, h1, h2, h3⟩ := h.hit j hj
    exact ⟨k, by omega, h2, h3⟩
theorem Dv.old (h : Dv w out K next i) (ho : 0 ≤ out i) {j : Nat} (hj : K[j]? = some (lst w out i)) : Dv w out K (fun k => if k = i then (j : Int) else next k) (i + 1) := by
  refine ⟨h.nodup, fun k hk hn => ?_, fun k hk hp => ?_, fun j hj => ?_⟩
  · have e : k ≠ i := fun e => by rw [e] at hn; omega
    rw [if_neg e]; exact h.neg k (by omega) hn
  · by_cases e : k = i
    · rw [e]; exact ⟨j, hj, if_pos rfl⟩
    · rw [if_neg e]; exact h.pos k (by omega) hp
  · obtain ⟨k, h1, h2, h3⟩ := h.hit j hj
    exact ⟨k, by omega, h2, h3⟩
theorem Dv.new (h : Dv w out K next i) (ho : 0 ≤ out i) (hn : lst w out i ∉ K) : Dv w out (K ++ [lst w out i]) (fun k => if k = i then (K.length : Int) else next k) (i + 1) := by
  have up : ∀ (j : Nat) (x : List Int), K[j]? = some x → (K ++ [lst w out i])[j]? = some x := fun j x hj => by
    rw [List.getElem?_append_left (by rcases Nat.lt_or_ge j K.length with h1 | h1; exact h1; rw [List.getElem?_eq_none h1] at hj; cases hj)]; exact hj
  have last : (K ++ [lst w out i])[K.length]? = some (lst w out i) := by rw [List.getElem?_append_right (Nat.le_refl _), Nat.sub_self]; rfl
  refine ⟨List.nodup_append.2 ⟨h.nodup, by simp, fun a ha b hb e => hn (by rw [← List.mem_singleton.1 hb, ← e]; exact ha)⟩, fun k hk hn => ?_, fun k hk hp => ?_, fun j hj => ?_⟩
  · have e : k ≠ i := fun e => by rw [e] at hn; omega
    rw [if_neg e]; exact h.neg k (by omega) hn
  · by_cases e : k = i
    · rw [e]; exact ⟨K.length, last, if_pos rfl⟩
    · rw [if_neg e]
      obtain ⟨j, h1, h2⟩ := h.pos k (by omega) hp
      exact ⟨j, up j _ h1, h2⟩
  · rw [List.length_append, List.length_singleton] at hj
    rcases Nat.lt_or_ge j K.length with h1 | h1
    · obtain ⟨k, h2, h3, h4⟩ := h.hit j h1
      exact ⟨k, by omega, h3, up j _ h4⟩
    · obtain rfl : j = K.length := by omega
      exact ⟨i, by omega, ho, last⟩
theorem Dv.div (h : Dv w out K next w.next.length) : w.Div out next K.length := by
  have hlt : ∀ (j : Nat) (x : List Int), K[j]? = some x → j < K.length := fun j x hj => by
    rcases Nat.lt_or_ge j K.length with h1 | h1
    · exact h1
    · rw [List.getElem?_eq_none h1] at hj; cases hj
  refine ⟨fun i hi => ⟨fun hn => ?_, fun hn => ?_⟩, fun i j hi hj h0 h1 => ?_, fun i hi => ?_, fun v hv => ?_⟩
  · rcases Int.lt_or_le (out i) 0 with h1 | h1
    · exact h1
    · obtain ⟨j, _, h2⟩ := h.pos i hi h1; omega
  · rw [h.neg i hi hn]; decide
  · obtain ⟨a, ha, ea⟩ := h.pos i hi h0
    obtain ⟨b, hb, eb⟩ := h.pos j hj h1
    rw [ea, eb, ← lst_eq]
    constructor
    · intro e
      have e : a = b := by omega
      subst e
      rw [ha] at hb; exact Option.some.inj hb
    · intro e
      rw [← e] at hb
      have la := hlt a _ ha
      have lb := hlt b _ hb
      rw [List.getElem?_eq_getElem la] at ha
      rw [List.getElem?_eq_getElem lb] at hb
      have : K[a] = K[b] := by rw [Option.some.inj ha, Option.some.inj hb]
      have := (List.getElem_inj h.nodup).1 this
      omega
  · rcases Int.lt_or_le (out i) 0 with h1 | h1
    · rw [h.neg i hi h1]; omega
    · obtain ⟨j, h2, h3⟩ := h.pos i hi h1
      have := hlt j _ h2; omega
  · obtain ⟨k, h1, h2, h3⟩ := h.hit v hv
    obtain ⟨j, h4, h5⟩ := h.pos k h1 h2
    refine ⟨k, h1, ?_⟩
    have la := hlt v _ h3
    have lb := hlt j _ h4
    rw [List.getElem?_eq_getElem la] at h3
    rw [List.getElem?_eq_getElem lb] at h4
    have : K[v] = K[j] := by rw [Option.some.inj h3, Option.some.inj h4]
    have := (List.getElem_inj h.nodup).1 this
    omega
/-- not more rows than states -/
theorem Dv.len (h : Dv w out K next i) : K.length ≤ i := by
  classical
  refine pigeon i K.length (fun j => if hj : j < K.length then Classical.choose (h.hit j hj) else 0) (fun j hj => ?_) (fun a b ha hb e => ?_)
  · simp only [dif_pos hj]; exact (Classical.choose_spec (h.hit j hj)).1
  · simp only [dif_pos ha, dif_pos hb] at e
    have h1 := (Classical.choose_spec (h.hit a ha)).2.2
    have h2 := (Classical.choose_spec (h.hit b hb)).2.2
    rw [e, ← h2, List.getElem?_eq_getElem ha, List.getElem?_eq_getElem hb] at h1
    exact (List.getElem_inj h.nodup).1 (Option.some.inj h1)
theorem lst_sml (hb : ∀ k, k < w.next.length → -1 ≤ out k ∧ out k < 100) (hs : w.Shape) {k : Nat} (hk : k < w.next.length) : sml (lst w out k) := by
  have hc : ∀ c : Nat, c < 8 → -1 ≤ w.cto out k c ∧ w.cto out k c < 100 := fun c hc => by
    rcases to_state hs hk hc with h1 | ⟨t, ht, h1⟩
    · rw [cto_neg h1]; decide
    · rw [cto_nat h1]; exact hb t ht
  intro n hn
  simp only [lst, List.mem_cons, List.not_mem_nil, or_false] at hn
  rcases hn with rfl | rfl | rfl | rfl | rfl | rfl | rfl | rfl | rfl
  · exact hb k hk
  · exact hc 0 (by decide)
  · exact hc 1 (by decide)
  · exact hc 2 (by decide)
  · exact hc 3 (by decide)
  · exact hc 4 (by decide)
  · exact hc 5 (by decide)
  · exact hc 6 (by decide)
  · exact hc 7 (by decide)
end Au
theorem Au.Dv.mem {w : Au} {out next : Nat → Int} {K : List (List Int)} {i : Nat} (h : Au.Dv w out K next i) {q : List Int} (hq : q ∈ K) : ∃ k, k < i ∧ q = Au.lst w out k := by
  obtain ⟨j, hj, rfl⟩ := List.mem_iff_getElem.1 hq
  obtain ⟨k, h1, _, h3⟩ := h.hit j hj
  rw [List.getElem?_eq_getElem hj] at h3
  exact ⟨k, h1, Option.some.inj h3⟩
theorem Au.Dv.plc {w : Au} {out next : Nat → Int} {K : List (List Int)} {i : Nat} (h : Au.Dv w out K next i) (hb : ∀ k, k < w.next.length → -1 ≤ out k ∧ out k < 100) (hs : w.Shape) (hi : i < w.next.length) : place (keyL (Au.lst w out i)) (K.map keyL) = place (Au.lst w out i) K :=
  place_map fun q hq e => by
    obtain ⟨k, hk, rfl⟩ := h.mem hq
    exact keyL_inj' (Au.lst_sml hb hs hi) (Au.lst_sml hb hs (by omega)) e
theorem Au.Dv.rng {w : Au} {out next : Nat → Int} {K : List (List Int)} {i : Nat} (h : Au.Dv w out K next i) (hi : i ≤ 100) : ∀ k, k < i → -1 ≤ next k ∧ next k < 100 := fun k hk => by
  have hl := h.len
  rcases Int.lt_or_le (out k) 0 with h1 | h1
  · rw [h.neg k hk h1]; decide
  · obtain ⟨j, h2, h3⟩ := h.pos k hk h1
    have : j < K.length := by
      rcases Nat.lt_or_ge j K.length with h4 | h4
      · exact h4
      · rw [List.getElem?_eq_none h4] at h2; cases h2
    omega
theorem Au.lst_snoc (w : Au) (out : Nat → Int) (k d : Nat) (hd : d < 8) : (Au.lst w out k).take (d + 1 + 1) = (Au.lst w out k).take (d + 1) ++ [w.cto out k d] := by
  rcases (show d = 0 ∨ d = 1 ∨ d = 2 ∨ d = 3 ∨ d = 4 ∨ d = 5 ∨ d = 6 ∨ d = 7 from by omega) with rfl | rfl | rfl | rfl | rfl | rfl | rfl | rfl <;> rfl
theorem Au.cls0_rng (w : Au) (f : Nat → Bool) (k : Nat) : -1 ≤ Au.cls0 w f k ∧ Au.cls0 w f k < 100 := by
  unfold Au.cls0
  split
  · split <;> omega
  · omega
/-- a row of numbers -/
def rowI (n : Nat) (f : Nat → Int) : List AV := (List.range n).map fun k => AV.int (f k)
theorem rowI_len (n : Nat) (f : Nat → Int) : (rowI n f).length = n := by simp [rowI]
theorem rowI_get {n : Nat} {f : Nat → Int} {k : Nat} (h : k < n) : (rowI n f)[k]? = some (AV.int (f k)) := by
  rw [rowI, List.getElem?_map, List.getElem?_range h]; rfl
theorem rowI_rep (n : Nat) : List.replicate n (AV.int 0) = rowI n (fun _ => 0) := by
  refine List.ext_getElem? fun k => ?_
  rcases Nat.lt_or_ge k n with h | h
  · rw [rowI_get h, List.getElem?_replicate, if_pos h]
  · rw [List.getElem?_eq_none (by simpa using h), List.getElem?_eq_none (by rw [rowI_len]; exact h)]
theorem rowI_set (n : Nat) (f : Nat → Int) (i : Nat) (x : Int) : (rowI n f).set i (AV.int x) = rowI n (fun k => if k = i then x else f k) := by
  refine List.ext_getElem? fun k => ?_
  rcases Nat.lt_or_ge k n with h | h
  · rw [rowI_get h, List.getElem?_set, rowI_len]
    by_cases e : i = k
    · subst e; rw [if_pos rfl, if_pos h, if_pos rfl]
    · rw [if_neg e, if_neg (fun h' => e h'.symm), rowI_get h]
  · rw [List.getElem?_eq_none (by rw [List.length_set, rowI_len]; exact h), List.getElem?_eq_none (by rw [rowI_len]; exact h)]
theorem rowI_congr {n : Nat} {f g : Nat → Int} (h : ∀ k, k < n → f k = g k) : rowI n f = rowI n g := List.map_congr_left fun k hk => congrArg AV.int (h k (List.mem_range.1 hk))
/-- the first classes, so far -/
def clsI (w : Au) (f : Nat → Bool) (i k : Nat) : Int := if k < i then Au.cls0 w f k else 0
theorem clsI_set {w : Au} {f : Nat → Bool} (n i : Nat) {x : Int} (hx : Au.cls0 w f i = x) : (rowI n (clsI w f i)).set i (AV.int x) = rowI n (clsI w f (i + 1)) := by
  rw [rowI_set]
  refine rowI_congr fun k _ => ?_
  unfold clsI
  by_cases h : k = i
  · subst h; rw [if_pos rfl, if_pos (by omega), hx]
  · rw [if_neg h]
    by_cases h2 : k < i
    · rw [if_pos h2, if_pos (by omega)]
    · rw [if_neg h2, if_neg (by omega)]
theorem clsI_zero {w : Au} {f : Nat → Bool} (n i : Nat) (hx : Au.cls0 w f i = 0) : rowI n (clsI w f i) = rowI n (clsI w f (i + 1)) := by
  refine rowI_congr fun k _ => ?_
  unfold clsI
  by_cases h : k = i
  · subst h; rw [if_neg (Nat.lt_irrefl _), if_pos (by omega), hx]
  · by_cases h2 : k < i
    · rw [if_pos h2, if_pos (by omega)]
    · rw [if_neg h2, if_neg (by omega)]
theorem clsI_start (w : Au) (f : Nat → Bool) (n : Nat) : List.replicate n (AV.int 0) = rowI n (clsI w f 0) := by
  rw [rowI_rep]
  exact rowI_congr fun k _ => by unfold clsI; rw [if_neg (by omega)]
theorem clsI_done (w : Au) (f : Nat → Bool) (n : Nat) : rowI n (clsI w f n) = rowI n (Au.cls0 w f) :=
  rowI_congr fun k hk => by unfold clsI; rw [if_pos hk]
/-- a wide machine as_ a value -/
def wrow (r : List Int) : AV := r8av fun c => r.getD c 0
theorem rowB_list (l : List Bool) : l.map AV.bool = rowB l.length (fun k => l.getD k false) := by
  refine List.ext_getElem? fun k => ?_
  rcases Nat.lt_or_ge k l.length with h | h
  · rw [rowB_at _ _ k h]; exact getD_mapG AV.bool false l k h
  · rw [List.getElem?_eq_none (by rw [List.length_map]; exact h), List.getElem?_eq_none (by rw [rowB_len]; exact h)]
theorem wrow_get {w : Au} (hs : w.Shape) {i : Nat} (hi : i < w.next.length) : (w.next.map wrow)[i]? = some (r8av fun c => w.to (i : Int) (c : Int)) := by
  rw [getD_mapG wrow [] w.next i hi]
  refine congrArg some (congrArg AV.agg (row8_congr fun c hc => ?_))
  have := Au.to_get w (i : Int) (c : Int) (by rw [Int.toNat_natCast, Int.toNat_natCast, hs.row i hi]; exact hc)
  rwa [Int.toNat_natCast, Int.toNat_natCast] at this
end Go.Vl
end

section
set_option linter.unusedVariables false
set_option linter.unusedSimpArgs false
namespace Go.Vl
def r8l (f : Nat → Int) : List Int := [f 0, f 1, f 2, f 3, f 4, f 5, f 6, f 7]
theorem r8l_get (f : Nat → Int) (c : Nat) (hc : c < 8) (z : Int) : (r8l f).getD c z = f c := by
  rcases (show c = 0 ∨ c = 1 ∨ c = 2 ∨ c = 3 ∨ c = 4 ∨ c = 5 ∨ c = 6 ∨ c = 7 from by omega) with rfl | rfl | rfl | rfl | rfl | rfl | rfl | rfl <;> rfl
theorem r8l_congr {f g : Nat → Int} (h : ∀ c, c < 8 → f c = g c) : r8l f = r8l g := by
  unfold r8l
  rw [h 0 (by decide), h 1 (by decide), h 2 (by decide), h 3 (by decide), h 4 (by decide), h 5 (by decide), h 6 (by decide), h 7 (by decide)]
theorem row8_set (f : Nat → Int) (c : Nat) (hc : c < 8) (x : Int) : (row8 f).set c (.int x) = row8 (fun d => if d = c then x else f d) := by
  rcases (show c = 0 ∨ c = 1 ∨ c = 2 ∨ c = 3 ∨ c = 4 ∨ c = 5 ∨ c = 6 ∨ c = 7 from by omega) with rfl | rfl | rfl | rfl | rfl | rfl | rfl | rfl <;> rfl
namespace Au
/-- an entry is written -/
def setI (T : Nat → Nat → Int) (i c : Nat) (x : Int) : Nat → Nat → Int := fun k d => if k = i ∧ d = c then x else T k d
theorem setI_at (T : Nat → Nat → Int) (i c : Nat) (x : Int) : setI T i c x i c = x := if_pos ⟨rfl, rfl⟩
theorem setI_ne (T : Nat → Nat → Int) (i c : Nat) (x : Int) {k d : Nat} (h : ¬ (k = i ∧ d = c)) : setI T i c x k d = T k d := if_neg h
/-- a row's cells, so far -/
def rowV (T : Nat → Nat → Int) (i c : Nat) : List AV := row8 fun d => if d < c then T i d else 0
theorem rowV_step (T : Nat → Nat → Int) (i c : Nat) (x : Int) (hc : c < 8) : (rowV T i c).set c (.int x) = rowV (setI T i c x) i (c + 1) := by
  unfold rowV
  rw [row8_set _ c hc]
  refine row8_congr fun d _ => ?_
  by_cases h : d = c
  · subst h
    rw [if_pos rfl, if_pos (by omega), setI_at]
  · rw [if_neg h, setI_ne T i c x (by omega)]
    by_cases h2 : d < c
    · rw [if_pos h2, if_pos (by omega)]
    · rw [if_neg h2, if_neg (by omega)]
theorem rowV_done (T : Nat → Nat → Int) (i : Nat) : rowV T i 8 = row8 (T i) := row8_congr fun d hd => if_pos hd
theorem rowV_len (T : Nat → Nat → Int) (i c : Nat) : (rowV T i c).length = 8 := rfl
/-- the rows ahead of i -/
def rowsL (n : Nat) (T : Nat → Nat → Int) : List (List Int) := (List.range n).map fun k => r8l (T k)
theorem rowsL_len (n : Nat) (T : Nat → Nat → Int) : (rowsL n T).length = n := by simp [rowsL]
theorem rowsL_snoc (n : Nat) (T : Nat → Nat → Int) : rowsL n T ++ [r8l (T n)] = rowsL (n + 1) T := by
  rw [rowsL, rowsL, List.range_succ, List.map_append]; rfl
theorem rowsL_set (T : Nat → Nat → Int) (i c : Nat) (x : Int) : rowsL i (setI T i c x) = rowsL i T :=
  List.map_congr_left fun k hk => r8l_congr fun d _ => setI_ne T i c x (by have := List.mem_range.1 hk; omega)
theorem rowsL_get (n : Nat) (T : Nat → Nat → Int) (k : Nat) (hk : k < n) : (rowsL n T).getD k [] = r8l (T k) := by
  rw [rowsL, List.getD_eq_getElem?_getD, List.getElem?_map, List.getElem?_range hk]; rfl
/-- a machine of such rows -/
def auOf (n : Nat) (T : Nat → Nat → Int) (F : List Bool) : Au := ⟨rowsL n T, F⟩
theorem auOf_len (n : Nat) (T : Nat → Nat → Int) (F : List Bool) : (auOf n T F).next.length = n := rowsL_len n T
theorem auOf_row (n : Nat) (T : Nat → Nat → Int) (F : List Bool) (k : Nat) (hk : k < n) : ((auOf n T F).next.getD k []).length = 8 := by
  show ((rowsL n T).getD k []).length = 8
  rw [rowsL_get n T k hk]; rfl
theorem auOf_to (n : Nat) (T : Nat → Nat → Int) (F : List Bool) (k c : Nat) (hk : k < n) (hc : c < 8) : (auOf n T F).to (k : Int) (c : Int) = T k c := by
  show ((rowsL n T).getD (k : Int).toNat []).getD (c : Int).toNat (-1) = _
  rw [Int.toNat_natCast, Int.toNat_natCast, rowsL_get n T k hk, r8l_get _ c hc]
theorem auOf_wide (n : Nat) (T : Nat → Nat → Int) (F : List Bool) : (auOf n T F).next.map wrow = (List.range n).map fun k => r8av (T k) := by
  show (rowsL n T).map wrow = _
  rw [rowsL, List.map_map]; rfl
/-- not more states are met than there are -/
theorem Bfs.len {w : Au} {cl : Nat → Int} {S : List Nat} {T : Nat → Nat → Int} {i c : Nat} (h : Bfs w cl S T i c) : S.length ≤ w.next.length :=
  pigeon w.next.length S.length (fun k => S.getD k 0) (fun k hk => (h.lt k hk).1) fun j k hj hk e => h.apart j k hj hk (by rw [show S.getD j 0 = S.getD k 0 from e])
/-- the machine that is made -/
theorem Bfs.made {w : Au} {cl : Nat → Int} {S : List Nat} {T : Nat → Nat → Int} (hs : w.Shape) (hc : w.Cls cl) (h : Bfs w cl S T S.length 0) (F : List Bool) (hF : F = S.map fun k => w.final.getD k false) : (auOf S.length T F).Canon ∧ ∀ u, (auOf S.length T F).acc 0 u ↔ w.acc 0 u :=
  Bfs.canon hs hc h (auOf_len _ _ _) hF (fun k hk => auOf_row _ _ _ k hk) (fun k c hk hc => auOf_to _ _ _ k c hk hc)
theorem Bfs.setI {w : Au} {cl : Nat → Int} {S : List Nat} {T : Nat → Nat → Int} {i c : Nat} (h : Bfs w cl S T i c) (x : Int) : Bfs w cl S (setI T i c x) i c :=
  h.congr fun i' c' hp _ => setI_ne T i c x (by omega)
/-- which place a class has -/
theorem Bfs.plc {w : Au} {cl : Nat → Int} {S : List Nat} {T : Nat → Nat → Int} {i c : Nat} (h : Bfs w cl S T i c) {v : Int} {j : Nat} (hj : place v (S.map cl) = some j) : j < S.length ∧ cl (S.getD j 0) = v := by
  have h1 := place_lt hj
  rw [List.length_map] at h1
  have h2 := place_some hj
  rw [List.getElem?_map, List.getElem?_eq_getElem h1] at h2
  refine ⟨h1, ?_⟩
  rw [List.getD_eq_getElem?_getD, List.getElem?_eq_getElem h1]
  exact Option.some.inj h2
theorem Bfs.fresh {cl : Nat → Int} {S : List Nat} {v : Int} (hn : v ∉ S.map cl) : ∀ k, k < S.length → cl (S.getD k 0) ≠ v := fun k hk e => hn (by
  rw [← e]; exact List.mem_map_of_mem (getD_memG 0 S k hk))
end Au
end Go.Vl
end

section
set_option linter.unusedVariables false
set_option linter.unusedSimpArgs false
namespace Go.Vl
def sumN : Nat → (Nat → Nat) → Nat
  | 0, _ => 0
  | n + 1, f => sumN n f + f n
theorem sumN_congr {n : Nat} {f g : Nat → Nat} (h : ∀ k, k < n → f k = g k) : sumN n f = sumN n g := by
  induction n with
  | zero => rfl
  | succ n ih => rw [sumN, sumN, ih fun k hk => h k (by omega), h n (by omega)]
theorem sumN_zero (n : Nat) : sumN n (fun _ => 0) = 0 := by
  induction n with
  | zero => rfl
  | succ n ih => rw [sumN, ih]
theorem sumN_le {n t : Nat} (f : Nat → Nat) (h : t < n) : f t ≤ sumN n f := by
  induction n with
  | zero => omega
  | succ n ih =>
    rw [sumN]
    rcases Nat.lt_or_ge t n with h1 | h1
    · have := ih h1; omega
    · obtain rfl : t = n := by omega
      omega
theorem sumN_mono {i n : Nat} (f : Nat → Nat) (h : i ≤ n) : sumN i f ≤ sumN n f := by
  induction n with
  | zero => obtain rfl : i = 0 := by omega
            exact Nat.le_refl _
  | succ n ih =>
    rcases Nat.lt_or_ge i (n + 1) with h1 | h1
    · have := ih (by omega); rw [sumN]; omega
    · obtain rfl : i = n + 1 := by omega
      exact Nat.le_refl _
theorem sumN_upd {n t : Nat} (g h : Nat → Nat) (x : Nat) (ht : t < n) : sumN n (fun k => (if k = t then g k + x else g k) * h k) = sumN n (fun k => g k * h k) + x * h t := by
  induction n with
  | zero => omega
  | succ n ih =>
    rw [sumN, sumN]
    rcases Nat.lt_or_ge t n with h1 | h1
    · rw [ih h1, if_neg (by omega)]; omega
    · obtain rfl : t = n := by omega
      rw [if_pos rfl, sumN_congr (g := fun k => g k * h k) fun k hk => by rw [if_neg (by omega)], Nat.add_mul]; omega
theorem sumN_upd1 {n t : Nat} (g : Nat → Nat) (x : Nat) (ht : t < n) : sumN n (fun k => if k = t then g k + x else g k) = sumN n g + x := by
  have := sumN_upd g (fun _ => 1) x ht
  simpa using this
namespace Au
/-- w: how many words lead to each state; g: those of one letter more, so far -/
structure Ct (a : Au) (w g : Nat → Nat) (m i d : Nat) : Prop where
  dot : sumN a.next.length (fun k => g k * cnt a m (k : Int)) = sumN i (fun k => w k * cnt a (m + 1) (k : Int)) + w i * sumN d (fun c => cnt a m (a.to (i : Int) (c : Int)))
  tot : sumN a.next.length g ≤ 8 * sumN i w + d * w i
variable {a : Au} {w g : Nat → Nat} {m i d : Nat}
theorem Ct.start (a : Au) (w : Nat → Nat) (m : Nat) : Ct a w (fun _ => 0) m 0 0 :=
  ⟨by rw [sumN_congr (g := fun _ => 0) (fun k _ => Nat.zero_mul _), sumN_zero]; simp [sumN], by rw [sumN_zero]; omega⟩
theorem Ct.row (h : Ct a w g m i 8) : Ct a w g m (i + 1) 0 := by
  have h1 := h.dot
  have h2 := h.tot
  refine ⟨?_, ?_⟩
  · rw [h1]
    have e : cnt a (m + 1) (i : Int) = sumN 8 (fun c => cnt a m (a.to (i : Int) (c : Int))) := by
      rw [cnt, if_pos (by omega)]
      simp only [sum8, sumN, Nat.zero_add]
    show _ = (sumN i _ + w i * cnt a (m + 1) (i : Int)) + w (i + 1) * 0
    rw [e]; omega
  · rw [sumN]; omega
theorem Ct.skip (h : Ct a w g m i d) (hn : a.to (i : Int) (d : Int) < 0) : Ct a w g m i (d + 1) := by
  have h2 := h.tot
  refine ⟨by show _ = _ + w i * (sumN d _ + cnt a m (a.to (i : Int) (d : Int))); rw [cnt_neg hn, Nat.add_zero]; exact h.dot, ?_⟩
  rw [Nat.add_mul]; omega
theorem Ct.add (h : Ct a w g m i d) {t : Nat} (ht : t < a.next.length) (hto : a.to (i : Int) (d : Int) = (t : Int)) : Ct a w (fun k => if k = t then g k + w i else g k) m i (d + 1) := by
  have h2 := h.tot
  refine ⟨?_, ?_⟩
  · rw [sumN_upd g (fun k => cnt a m (k : Int)) (w i) ht, h.dot, sumN, hto, Nat.mul_add]; omega
  · rw [sumN_upd1 g (w i) ht, Nat.add_mul]; omega
theorem Ct.done (h : Ct a w g m a.next.length 0) : sumN a.next.length (fun k => g k * cnt a m (k : Int)) = sumN a.next.length (fun k => w k * cnt a (m + 1) (k : Int)) ∧ sumN a.next.length g ≤ 8 * sumN a.next.length w :=
  ⟨by rw [h.dot]; simp [sumN], by have := h.tot; omega⟩
/-- how many words lead to each state, so far -/
structure Wy (a : Au) (long k : Nat) (w : Nat → Nat) : Prop where
  dot : sumN a.next.length (fun i => w i * cnt a (long - k) (i : Int)) = cnt a long 0
  tot : sumN a.next.length w ≤ 8 ^ k
theorem Wy.start (hp : 0 < a.next.length) (long : Nat) : Wy a long 0 (fun i => if i = 0 then 1 else 0) := by
  have e : (fun i => if i = 0 then 1 else 0) = fun i => if i = 0 then (fun _ => 0) i + 1 else (fun _ => 0) i := rfl
  refine ⟨?_, ?_⟩
  · have := sumN_upd (fun _ => 0) (fun i => cnt a (long - 0) (i : Int)) 1 hp
    rw [sumN_congr (g := fun _ => 0) (f := fun k => (fun _ => 0) k * _) (fun k _ => Nat.zero_mul _), sumN_zero] at this
    refine this.trans ?_
    simp
  · rw [e, sumN_upd1 _ 1 hp, sumN_zero]; decide
theorem Wy.step {long k : Nat} (h : Wy a long k w) (hk : k < long) (hc : Ct a w g (long - (k + 1)) a.next.length 0) : Wy a long (k + 1) g := by
  obtain ⟨h1, h2⟩ := hc.done
  refine ⟨?_, ?_⟩
  · rw [h1, show long - (k + 1) + 1 = long - k from by omega]; exact h.dot
  · have := h.tot; rw [Nat.pow_succ]; omega
theorem Wy.le {long k : Nat} (h : Wy a long k w) (hk : k ≤ 12) {i : Nat} (hi : i < a.next.length) : w i ≤ 68719476736 := by
  have h1 := sumN_le w hi
  have h2 := h.tot
  have h3 : 8 ^ k ≤ 8 ^ 12 := Nat.pow_le_pow_right (by decide) hk
  omega
theorem Ct.le {long k : Nat} (hw : Wy a long k w) (hk : k ≤ 12) (h : Ct a w g m i d) (hi : i < a.next.length) (hd : d < 8) {t : Nat} (ht : t < a.next.length) : g t ≤ 1099511627776 := by
  have h1 := sumN_le g ht
  have h2 := h.tot
  have h3 := hw.tot
  have h4 : 8 ^ k ≤ 8 ^ 12 := Nat.pow_le_pow_right (by decide) hk
  have h5 := sumN_mono w (Nat.le_of_lt hi)
  have h6 := sumN_le w hi
  have h7 : d * w i ≤ 8 * w i := Nat.mul_le_mul_right _ (by omega)
  omega
theorem Wy.last {long : Nat} (h : Wy a long long w) : sumN a.next.length (fun i => w i * cnt a 0 (i : Int)) = cnt a long 0 := by
  have := h.dot
  rwa [Nat.sub_self] at this
end Au
end Go.Vl
end

section
set_option linter.unusedVariables false
set_option linter.unusedSimpArgs false
set_option linter.unusedSectionVars false
namespace Go.Vl
theorem bl_set {M : List ME} {i : Nat} {m m' : ME} (hM : M[i]? = some m) (hb : m'.blks = m.blks) : bl (M.set i m') = bl M := by
  induction M generalizing i with
  | nil => cases hM
  | cons q M ih =>
    cases i with
    | zero =>
      have hM : q = m := by simpa using hM
      subst hM
      show m'.blks ++ bl M = q.blks ++ bl M
      rw [hb]
    | succ i =>
      have := ih (i := i) hM
      show q.blks ++ bl (M.set i m') = q.blks ++ bl M
      rw [this]
/-- what is known of a block, said in another way -/
theorem W.me {x : Cx} {L : List (Tmp × Bool × AV)} {M : List ME} {R : Act → World → Prop} (i : Nat) {m m' : ME} (hM : M[i]? = some m) (hb : m'.blks = m.blks) (hh : ∀ w N, m.holds w N → m'.holds w N) (next : W x L (M.set i m') R) : W x L M R := by
  intro a w hs
  have e := bl_set hM hb
  refine next a w ⟨hs.defers, hs.size, by rw [e]; exact hs.slots, ⟨by rw [e]; exact hs.mem.nodup, by rw [e]; exact hs.mem.apart, ?_⟩, by rw [e]; exact hs.fr, hs.old⟩
  intro q hq
  rw [e]
  rcases List.mem_or_eq_of_mem_set hq with h | h
  · exact hs.mem.holds q h
  · rw [h]; exact hh _ _ (hs.mem.holds m (List.mem_of_getElem? hM))
def tailV (g off k n cap : Nat) : Value := .slice (if cap = 1 then some ⟨g, off, none⟩ else some ⟨g, off + 1 * k, none⟩) (n - 1) (cap - 1)
/-- an entry of the queue -/
def qav (q : Nat × List Int) : AV := .agg [.int (q.1 : Int), .sl 1 (q.2.map AV.int)]
end Go.Vl
end

section
set_option linter.unusedVariables false
set_option linter.unusedSimpArgs false
namespace Go.Vl
abbrev natv (n : Nat) : AV := .int (n : Int)
theorem okc_natv (l : List Nat) : ∀ e ∈ l.map natv, e.okc = true := by
  intro e he
  obtain ⟨k, _, rfl⟩ := List.mem_map.1 he
  rfl
theorem getD_set {α : Type} (l : List α) (r : Nat) (x z : α) (p : Nat) : (l.set r x).getD p z = if p = r ∧ r < l.length then x else l.getD p z := by
  rw [List.getD_eq_getElem?_getD, List.getElem?_set, List.getD_eq_getElem?_getD]
  by_cases h : r = p
  · subst h
    by_cases h2 : r < l.length
    · rw [if_pos rfl, if_pos h2, if_pos ⟨rfl, h2⟩]; rfl
    · rw [if_pos rfl, if_neg h2, if_neg (fun h => h2 h.2), List.getElem?_eq_none (by omega)]
  · rw [if_neg h, if_neg (fun h' => h h'.1.symm)]
theorem getD_over {α : Type} (l : List α) (z : α) {p : Nat} (h : l.length ≤ p) : l.getD p z = z := by
  rw [List.getD_eq_getElem?_getD, List.getElem?_eq_none h]; rfl
theorem getD_app {α : Type} (l m : List α) (z : α) {p : Nat} (h : p < l.length) : (l ++ m).getD p z = l.getD p z := by
  rw [List.getD_eq_getElem?_getD, List.getElem?_append_left h, List.getD_eq_getElem?_getD]
abbrev Fol := List (List Nat)
/-- links, so far: from all ahead of i to all; from the i-th to those ahead of j -/
structure LnkP (F F' : Fol) (fr to : List Nat) (i j : Nat) : Prop where
  len : F'.length = F.length
  mem : ∀ p q, p < F.length → (q ∈ F'.getD p [] ↔ q ∈ F.getD p [] ∨ (p ∈ fr.take i ∧ q ∈ to) ∨ (i < fr.length ∧ p = fr.getD i 0 ∧ q ∈ to.take j))
  keep : ∀ p, p ∉ fr → F'.getD p [] = F.getD p []
  nodup : ∀ p, (F.getD p []).Nodup → (F'.getD p []).Nodup
structure Lnk (F F' : Fol) (fr to : List Nat) : Prop where
  len : F'.length = F.length
  mem : ∀ p q, p < F.length → (q ∈ F'.getD p [] ↔ q ∈ F.getD p [] ∨ (p ∈ fr ∧ q ∈ to))
  keep : ∀ p, p ∉ fr → F'.getD p [] = F.getD p []
  nodup : ∀ p, (F.getD p []).Nodup → (F'.getD p []).Nodup
section lnk
variable {F F' : Fol} {fr to : List Nat} {i j : Nat}
theorem LnkP.start (F : Fol) (fr to : List Nat) : LnkP F F fr to 0 0 := ⟨rfl, fun p q _ => by simp, fun _ _ => rfl, fun _ h => h⟩
theorem LnkP.row (h : LnkP F F' fr to i to.length) (hi : i < fr.length) : LnkP F F' fr to (i + 1) 0 := by
  refine ⟨h.len, fun p q hp => ?_, h.keep, h.nodup⟩
  rw [h.mem p q hp, take_getDG 0 fr i hi, List.mem_append, List.mem_singleton, List.take_length, List.take_zero]
  constructor
  · rintro (h1 | ⟨h1, h2⟩ | ⟨_, h1, h2⟩)
    · exact .inl h1
    · exact .inr (.inl ⟨.inl h1, h2⟩)
    · exact .inr (.inl ⟨.inr h1, h2⟩)
  · rintro (h1 | ⟨h1 | h1, h2⟩ | ⟨_, _, h2⟩)
    · exact .inl h1
    · exact .inr (.inl ⟨h1, h2⟩)
    · exact .inr (.inr ⟨hi, h1, h2⟩)
    · cases h2
theorem LnkP.skip (h : LnkP F F' fr to i j) (hi : i < fr.length) (hj : j < to.length) (hr : fr.getD i 0 < F.length) (hk : to.getD j 0 ∈ F'.getD (fr.getD i 0) []) : LnkP F F' fr to i (j + 1) := by
  refine ⟨h.len, fun p q hp => ?_, h.keep, h.nodup⟩
  rw [take_getDG 0 to j hj, List.mem_append, List.mem_singleton]
  constructor
  · intro hq
    rcases (h.mem p q hp).1 hq with h1 | h1 | ⟨h1, h2, h3⟩
    · exact .inl h1
    · exact .inr (.inl h1)
    · exact .inr (.inr ⟨h1, h2, .inl h3⟩)
  · rintro (h1 | h1 | ⟨h1, h2, h3 | h3⟩)
    · exact (h.mem p q hp).2 (.inl h1)
    · exact (h.mem p q hp).2 (.inr (.inl h1))
    · exact (h.mem p q hp).2 (.inr (.inr ⟨h1, h2, h3⟩))
    · rw [h3, h2]; exact hk
theorem LnkP.add (h : LnkP F F' fr to i j) (hi : i < fr.length) (hj : j < to.length) (hr : fr.getD i 0 < F.length) (hk : to.getD j 0 ∉ F'.getD (fr.getD i 0) []) :
    LnkP F (F'.set (fr.getD i 0) (F'.getD (fr.getD i 0) [] ++ [to.getD j 0])) fr to i (j + 1) := by
  have hg : ∀ p, (F'.set (fr.getD i 0) (F'.getD (fr.getD i 0) [] ++ [to.getD j 0])).getD p [] = if p = fr.getD i 0 then F'.getD (fr.getD i 0) [] ++ [to.getD j 0] else F'.getD p [] := fun p => by
    rw [getD_set]
    by_cases e : p = fr.getD i 0
    · rw [if_pos e, if_pos ⟨e, by rw [h.len]; exact hr⟩]
    · rw [if_neg e, if_neg (fun h => e h.1)]
  refine ⟨by rw [List.length_set]; exact h.len, fun p q hp => ?_, fun p hp => ?_, fun p hp => ?_⟩
  · rw [hg, take_getDG 0 to j hj, List.mem_append, List.mem_singleton]
    by_cases e : p = fr.getD i 0
    · rw [if_pos e, List.mem_append, List.mem_singleton, ← e, h.mem p q hp]
      constructor
      · rintro ((h1 | h1 | ⟨h1, h2, h3⟩) | h1)
        · exact .inl h1
        · exact .inr (.inl h1)
        · exact .inr (.inr ⟨h1, rfl, .inl h3⟩)
        · exact .inr (.inr ⟨hi, rfl, .inr h1⟩)
      · rintro (h1 | h1 | ⟨h1, h2, h3 | h3⟩)
        · exact .inl (.inl h1)
        · exact .inl (.inr (.inl h1))
        · exact .inl (.inr (.inr ⟨h1, e, h3⟩))
        · exact .inr h3
    · rw [if_neg e, h.mem p q hp]
      constructor
      · rintro (h1 | h1 | ⟨h1, h2, h3⟩)
        · exact .inl h1
        · exact .inr (.inl h1)
        · exact absurd h2 e
      · rintro (h1 | h1 | ⟨h1, h2, h3⟩)
        · exact .inl h1
        · exact .inr (.inl h1)
        · exact absurd h2 e
  · have e : p ≠ fr.getD i 0 := fun e => hp (e ▸ getD_memG 0 fr i hi)
    rw [hg, if_neg e]; exact h.keep p hp
  · rw [hg]
    split
    · rename_i e
      have := h.nodup p hp
      rw [e] at this
      exact List.nodup_append.2 ⟨this, by simp, fun a ha b hb e => hk (by rw [← List.mem_singleton.1 hb, ← e]; exact ha)⟩
    · exact h.nodup p hp
theorem LnkP.done (h : LnkP F F' fr to fr.length 0) : Lnk F F' fr to := by
  refine ⟨h.len, fun p q hp => ?_, h.keep, h.nodup⟩
  rw [h.mem p q hp, List.take_length]
  constructor
  · rintro (h1 | h1 | ⟨h1, _⟩)
    · exact .inl h1
    · exact .inr h1
    · omega
  · rintro (h1 | h1)
    · exact .inl h1
    · exact .inr (.inl h1)
end lnk
def tyOf (tys : List Int) (p : Nat) : Int := tys.getD p 0
def glOf (b : Nat) (F : Fol) (fi la : List Nat) (no : Bool) : Gl := ⟨fun p => p ∈ fi, fun p => p ∈ la, no = true, fun p q => b ≤ p ∧ q ∈ F.getD p []⟩
/-- places that came in: those of a part that means A -/
structure Pl (t0 : List Int) (F0 : Fol) (t : List Int) (F : Fol) (fi la : List Nat) (no : Bool) (A : Lg) : Prop where
  ext : ∃ u, t = t0 ++ u
  len : F.length = t.length
  old : ∀ p, p < t0.length → F.getD p [] = F0.getD p []
  inn : (glOf t0.length F fi la no).In t0.length t.length
  lang : (glOf t0.length F fi la no).lg (tyOf t) = A
  nodup : ∀ p, t0.length ≤ p → (F.getD p []).Nodup
  lf : fi.length + t0.length ≤ t.length
  ll : la.length + t0.length ≤ t.length
section pl
variable {t0 t1 t2 : List Int} {F0 F1 F2 F3 : Fol} {f1 l1 f2 l2 : List Nat} {n1 n2 : Bool} {A B : Lg}
theorem Pl.le (h : Pl t0 F0 t1 F1 f1 l1 n1 A) : t0.length ≤ t1.length := by
  obtain ⟨u, rfl⟩ := h.ext; rw [List.length_append]; omega
theorem Pl.nothing (h0 : F0.length = t0.length) (no : Bool) : Pl t0 F0 t0 F0 [] [] no (if no = true then Lg.eps else Lg.none) := by
  have e : glOf t0.length F0 [] [] no = Gl.nothing (no = true) := Gl.ext' (fun p => by simp [glOf, Gl.nothing]) (fun p => by simp [glOf, Gl.nothing]) Iff.rfl (fun p q => by
    simp only [glOf, Gl.nothing, iff_false]
    rintro ⟨h1, h2⟩
    rw [getD_over F0 [] (by omega)] at h2; cases h2)
  refine ⟨⟨[], by simp⟩, h0, fun _ _ => rfl, by rw [e]; exact Gl.nothing_in _ _, ?_, fun p hp => by rw [getD_over F0 [] (by omega)]; exact List.nodup_nil, by simp, by simp⟩
  rw [e]
  cases no with
  | true => rw [if_pos rfl, show (true = true) = True from eq_self _]; exact Gl.eps_lg _
  | false => rw [if_neg (by decide), show (false = true) = False from by simp]; exact Gl.none_lg _
theorem Pl.one (h0 : F0.length = t0.length) (c : Int) : Pl t0 F0 (t0 ++ [c]) (F0 ++ [[]]) [t0.length] [t0.length] false (Lg.one c) := by
  have hF : ∀ p, t0.length ≤ p → (F0 ++ [[]]).getD p [] = [] := fun p hp => by
    rcases Nat.lt_or_ge p (F0.length + 1) with h | h
    · obtain rfl : p = F0.length := by omega
      rw [List.getD_eq_getElem?_getD, List.getElem?_append_right (Nat.le_refl _), Nat.sub_self]; rfl
    · exact getD_over _ _ (by rw [List.length_append, List.length_singleton]; exact h)
  have e : glOf t0.length (F0 ++ [[]]) [t0.length] [t0.length] false = Gl.one t0.length := Gl.ext' (fun p => by simp [glOf, Gl.one]) (fun p => by simp [glOf, Gl.one]) (by simp [glOf, Gl.one]) (fun p q => by
    simp only [glOf, Gl.one, iff_false]
    rintro ⟨h1, h2⟩
    rw [hF p h1] at h2; cases h2)
  refine ⟨⟨[c], rfl⟩, by rw [List.length_append, List.length_append, h0]; rfl, fun p hp => getD_app _ _ _ (by omega), ?_, ?_, fun p hp => by rw [hF p hp]; exact List.nodup_nil, ?_, ?_⟩
  · rw [e, List.length_append, List.length_singleton]
    refine ⟨fun p hp => ?_, fun p hp => ?_, fun p q h => h.elim⟩
    · have hp : p = t0.length := hp
      omega
    · have hp : p = t0.length := hp
      omega
  · rw [e, Gl.one_lg]
    congr 1
    unfold tyOf
    rw [List.getD_eq_getElem?_getD, List.getElem?_append_right (Nat.le_refl _), Nat.sub_self]; rfl
  · rw [List.length_append]; simp; omega
  · rw [List.length_append]; simp; omega
theorem Pl.ty (h : Pl t0 F0 t1 F1 f1 l1 n1 A) {t : List Int} (hx : ∃ u, t = t1 ++ u) : (glOf t0.length F1 f1 l1 n1).lg (tyOf t) = A := by
  rw [← h.lang]
  obtain ⟨u, rfl⟩ := hx
  exact Gl.lg_ty h.inn fun p _ hp => getD_app _ _ _ hp
theorem Pl.exts (h1 : Pl t0 F0 t1 F1 f1 l1 n1 A) (h2 : Pl t1 F1 t2 F2 f2 l2 n2 B) : ∃ u, t2 = t0 ++ u := by
  obtain ⟨u, rfl⟩ := h1.ext
  obtain ⟨v, e⟩ := h2.ext
  exact ⟨u ++ v, by rw [e, List.append_assoc]⟩
/-- what may follow what, in both parts -/
theorem Pl.fols (h1 : Pl t0 F0 t1 F1 f1 l1 n1 A) (h2 : Pl t1 F1 t2 F2 f2 l2 n2 B) (p q : Nat) : (t0.length ≤ p ∧ q ∈ F2.getD p []) ↔ (t0.length ≤ p ∧ q ∈ F1.getD p []) ∨ (t1.length ≤ p ∧ q ∈ F2.getD p []) := by
  have hle := h1.le
  constructor
  · rintro ⟨a, b⟩
    rcases Nat.lt_or_ge p t1.length with h | h
    · exact .inl ⟨a, by rw [← h2.old p h]; exact b⟩
    · exact .inr ⟨h, b⟩
  · rintro (⟨a, b⟩ | ⟨a, b⟩)
    · rcases Nat.lt_or_ge p t1.length with h | h
      · exact ⟨a, by rw [h2.old p h]; exact b⟩
      · rw [getD_over F1 [] (by rw [h1.len]; exact h)] at b; cases b
    · exact ⟨by omega, b⟩
theorem Pl.or (h1 : Pl t0 F0 t1 F1 f1 l1 n1 A) (h2 : Pl t1 F1 t2 F2 f2 l2 n2 B) : Pl t0 F0 t2 F2 (f1 ++ f2) (l1 ++ l2) (n1 || n2) (Lg.alt A B) := by
  have hl1 := h1.le
  have hl2 := h2.le
  have e : glOf t0.length F2 (f1 ++ f2) (l1 ++ l2) (n1 || n2) = Gl.or (glOf t0.length F1 f1 l1 n1) (glOf t1.length F2 f2 l2 n2) :=
    Gl.ext' (fun p => by simp [glOf, Gl.or]) (fun p => by simp [glOf, Gl.or]) (by simp [glOf, Gl.or]) (fun p q => h1.fols h2 p q)
  refine ⟨h1.exts h2, h2.len, fun p hp => by rw [h2.old p (by omega), h1.old p hp], by rw [e]; exact Gl.or_in h1.inn h2.inn hl1 hl2, ?_, fun p hp => ?_, ?_, ?_⟩
  · rw [e, Gl.or_lg h1.inn h2.inn, h1.ty h2.ext, h2.lang]
  · rcases Nat.lt_or_ge p t1.length with h | h
    · rw [h2.old p h]; exact h1.nodup p hp
    · exact h2.nodup p h
  · rw [List.length_append]; have := h1.lf; have := h2.lf; omega
  · rw [List.length_append]; have := h1.ll; have := h2.ll; omega
theorem Pl.seq (h1 : Pl t0 F0 t1 F1 f1 l1 n1 A) (h2 : Pl t1 F1 t2 F2 f2 l2 n2 B) (hk : Lnk F2 F3 l1 f2) : Pl t0 F0 t2 F3 (if n1 = true then f1 ++ f2 else f1) ((if n2 = true then l1 else []) ++ l2) (n1 && n2) (Lg.cat A B) := by
  have hl1 := h1.le
  have hl2 := h2.le
  have hin1 : ∀ p, p ∈ l1 → t0.length ≤ p ∧ p < t1.length := fun p hp => h1.inn.L p hp
  have hmem : ∀ p q, q ∈ F3.getD p [] ↔ q ∈ F2.getD p [] ∨ (p ∈ l1 ∧ q ∈ f2) := fun p q => by
    rcases Nat.lt_or_ge p F2.length with h | h
    · exact hk.mem p q h
    · rw [getD_over F3 [] (by rw [hk.len]; exact h), getD_over F2 [] h]
      constructor
      · intro h; cases h
      · rintro (h' | ⟨h', _⟩)
        · cases h'
        · have := hin1 p h'; rw [h2.len] at h; omega
  have e : glOf t0.length F3 (if n1 = true then f1 ++ f2 else f1) ((if n2 = true then l1 else []) ++ l2) (n1 && n2) = Gl.seq (glOf t0.length F1 f1 l1 n1) (glOf t1.length F2 f2 l2 n2) := by
    refine Gl.ext' (fun p => ?_) (fun p => ?_) (by simp [glOf, Gl.seq]) (fun p q => ?_)
    · simp only [glOf, Gl.seq]
      cases n1 <;> simp
    · simp only [glOf, Gl.seq]
      cases n2 <;> simp
    · show (t0.length ≤ p ∧ q ∈ F3.getD p []) ↔ ((t0.length ≤ p ∧ q ∈ F1.getD p []) ∨ (t1.length ≤ p ∧ q ∈ F2.getD p [])) ∨ (p ∈ l1 ∧ q ∈ f2)
      rw [hmem, ← h1.fols h2 p q]
      constructor
      · rintro ⟨a, b | b⟩
        · exact .inl ⟨a, b⟩
        · exact .inr b
      · rintro (⟨a, b⟩ | b)
        · exact ⟨a, .inl b⟩
        · exact ⟨(hin1 p b.1).1, .inr b⟩
  refine ⟨h1.exts h2, by rw [hk.len]; exact h2.len, fun p hp => ?_, by rw [e]; exact Gl.seq_in h1.inn h2.inn hl1 hl2, ?_, fun p hp => ?_, ?_, ?_⟩
  · rw [hk.keep p fun h => by have := hin1 p h; omega, h2.old p (by omega), h1.old p hp]
  · rw [e, Gl.seq_lg h1.inn h2.inn, h1.ty h2.ext, h2.lang]
  · refine hk.nodup p ?_
    rcases Nat.lt_or_ge p t1.length with h | h
    · rw [h2.old p h]; exact h1.nodup p hp
    · exact h2.nodup p h
  · have := h1.lf; have := h2.lf
    split
    · rw [List.length_append]; omega
    · omega
  · have := h1.ll; have := h2.ll
    rw [List.length_append]
    split
    · omega
    · simp only [List.length_nil]; omega
theorem Pl.loop (h1 : Pl t0 F0 t1 F1 f1 l1 n1 A) (hk : Lnk F1 F2 l1 f1) (no : Bool) : (Pl t0 F0 t1 F2 f1 l1 true (Lg.star A)) ∧ Pl t0 F0 t1 F2 f1 l1 n1 (Lg.cat A (Lg.star A)) := by
  have hl1 := h1.le
  have hin1 : ∀ p, p ∈ l1 → t0.length ≤ p ∧ p < t1.length := fun p hp => h1.inn.L p hp
  have hmem : ∀ p q, q ∈ F2.getD p [] ↔ q ∈ F1.getD p [] ∨ (p ∈ l1 ∧ q ∈ f1) := fun p q => by
    rcases Nat.lt_or_ge p F1.length with h | h
    · exact hk.mem p q h
    · rw [getD_over F2 [] (by rw [hk.len]; exact h), getD_over F1 [] h]
      constructor
      · intro h; cases h
      · rintro (h' | ⟨h', _⟩)
        · cases h'
        · have := hin1 p h'; rw [h1.len] at h; omega
  have e : ∀ (m : Bool) (N : Prop), ((m = true) ↔ N) → glOf t0.length F2 f1 l1 m = Gl.loop (glOf t0.length F1 f1 l1 n1) N := fun m N hN =>
    Gl.ext' (fun p => Iff.rfl) (fun p => Iff.rfl) hN (fun p q => by
      show (t0.length ≤ p ∧ q ∈ F2.getD p []) ↔ (t0.length ≤ p ∧ q ∈ F1.getD p []) ∨ (p ∈ l1 ∧ q ∈ f1)
      rw [hmem]
      constructor
      · rintro ⟨a, b | b⟩
        · exact .inl ⟨a, b⟩
        · exact .inr b
      · rintro (⟨a, b⟩ | b)
        · exact ⟨a, .inl b⟩
        · exact ⟨(hin1 p b.1).1, .inr b⟩)
  have old : ∀ p, p < t0.length → F2.getD p [] = F0.getD p [] := fun p hp => by
    rw [hk.keep p fun h => by have := hin1 p h; omega, h1.old p hp]
  have nd : ∀ p, t0.length ≤ p → (F2.getD p []).Nodup := fun p hp => hk.nodup p (h1.nodup p hp)
  refine ⟨⟨h1.ext, by rw [hk.len]; exact h1.len, old, ?_, ?_, nd, h1.lf, h1.ll⟩, ⟨h1.ext, by rw [hk.len]; exact h1.len, old, ?_, ?_, nd, h1.lf, h1.ll⟩⟩
  · rw [e true True (by simp)]; exact Gl.loop_in h1.inn
  · rw [e true True (by simp), Gl.star_lg, h1.lang]
  · rw [e n1 (n1 = true) Iff.rfl]; exact Gl.loop_in h1.inn
  · rw [e n1 (glOf t0.length F1 f1 l1 n1).N Iff.rfl, Gl.plus_lg, h1.lang]
theorem Pl.opt (h1 : Pl t0 F0 t1 F1 f1 l1 n1 A) : Pl t0 F0 t1 F1 f1 l1 true (Lg.alt Lg.eps A) := by
  have e : glOf t0.length F1 f1 l1 true = Gl.opt (glOf t0.length F1 f1 l1 n1) := Gl.ext' (fun p => Iff.rfl) (fun p => Iff.rfl) (by simp [glOf, Gl.opt]) (fun p q => Iff.rfl)
  exact ⟨h1.ext, h1.len, h1.old, by rw [e]; exact Gl.opt_in h1.inn, by rw [e, Gl.opt_lg, h1.lang], h1.nodup, h1.lf, h1.ll⟩
end pl
/-- rows that may grow: own arrays -/
abbrev Rw := Value × List Nat
def rowsM (I : TypeId) (R : List Rw) : List ME := R.map fun z => .arr z.1 I 1 (z.2.map natv)
def rowsV (R : List Rw) : List AV := R.map fun z => .lit z.1
def folOf (R : List Rw) : Fol := R.map fun z => z.2
theorem folOf_get (R : List Rw) (p : Nat) : (folOf R).getD p [] = (R.getD p (.slice none 0 0, [])).2 := by
  unfold folOf
  rw [List.getD_eq_getElem?_getD, List.getElem?_map, List.getD_eq_getElem?_getD]
  cases R[p]? <;> rfl
theorem folOf_set (R : List Rw) (p : Nat) (z : Rw) : folOf (R.set p z) = (folOf R).set p z.2 := by unfold folOf; rw [List.map_set]
theorem rows_mid (R : List Rw) (p : Nat) (h : p < R.length) : R = R.take p ++ R.getD p (.slice none 0 0, []) :: R.drop (p + 1) := by
  rw [List.getD_eq_getElem?_getD, List.getElem?_eq_getElem h]
  exact (List.take_append_drop p R).symm.trans (by rw [List.drop_eq_getElem_cons h]; rfl)
theorem rows_set_mid (R : List Rw) (p : Nat) (z : Rw) (h : p < R.length) : R.set p z = R.take p ++ z :: R.drop (p + 1) := by
  rw [List.set_eq_take_append_cons_drop, if_pos h]
theorem rowsM_app (I : TypeId) (R S : List Rw) : rowsM I (R ++ S) = rowsM I R ++ rowsM I S := by simp [rowsM]
/-- one row ahead of the others -/
theorem rowsM_out (I : TypeId) (R : List Rw) (p : Nat) (h : p < R.length) (M : List ME) : List.Perm (M ++ rowsM I R) (.arr (R.getD p (.slice none 0 0, [])).1 I 1 ((R.getD p (.slice none 0 0, [])).2.map natv) :: (M ++ (rowsM I (R.take p) ++ rowsM I (R.drop (p + 1))))) := by
  have e : rowsM I R = rowsM I (R.take p) ++ .arr (R.getD p (.slice none 0 0, [])).1 I 1 ((R.getD p (.slice none 0 0, [])).2.map natv) :: rowsM I (R.drop (p + 1)) := by
    conv => lhs; rw [rows_mid R p h]
    rw [rowsM_app]; rfl
  rw [e]
  refine (List.Perm.append_left M List.perm_middle).trans ?_
  exact List.perm_middle
theorem rowsM_in (I : TypeId) (R : List Rw) (p : Nat) (z : Rw) (h : p < R.length) (M : List ME) : List.Perm (.arr z.1 I 1 (z.2.map natv) :: (M ++ (rowsM I (R.take p) ++ rowsM I (R.drop (p + 1))))) (M ++ rowsM I (R.set p z)) := by
  have e : rowsM I (R.set p z) = rowsM I (R.take p) ++ .arr z.1 I 1 (z.2.map natv) :: rowsM I (R.drop (p + 1)) := by
    rw [rows_set_mid R p z h, rowsM_app]; rfl
  rw [e]
  refine List.Perm.trans ?_ (List.Perm.append_left M List.perm_middle.symm)
  exact List.perm_middle.symm
theorem rowsV_get (R : List Rw) (p : Nat) (h : p < R.length) : (rowsV R)[p]? = some (.lit (R.getD p (.slice none 0 0, [])).1) := by
  unfold rowsV
  rw [List.getElem?_map, List.getD_eq_getElem?_getD, List.getElem?_eq_getElem h]; rfl
theorem rowsV_set (R : List Rw) (p : Nat) (z : Rw) : (rowsV R).set p (.lit z.1) = rowsV (R.set p z) := by unfold rowsV; rw [List.map_set]
theorem rowsV_len (R : List Rw) : (rowsV R).length = R.length := by simp [rowsV]
theorem folOf_len (R : List Rw) : (folOf R).length = R.length := by simp [folOf]
/-- numbers of which none is there twice, all below n -/
theorem nodup_len {n : Nat} {l : List Nat} (h : l.Nodup) (hb : ∀ x ∈ l, x < n) : l.length ≤ n :=
  pigeon n l.length (fun i => l.getD i 0) (fun i hi => hb _ (getD_memG 0 l i hi)) fun i j hi hj e => by
    have e : l.getD i 0 = l.getD j 0 := e
    rw [List.getD_eq_getElem?_getD, List.getD_eq_getElem?_getD, List.getElem?_eq_getElem hi, List.getElem?_eq_getElem hj] at e
    exact (List.getElem_inj h).1 e
end Go.Vl
end

section
set_option linter.unusedVariables false
set_option linter.unusedSimpArgs false
namespace Go.Vl
namespace Ex
mutual
def lv : Ex → Nat
  | mk k _ p => if k = 1 then 1 else lvs p
def lvs : List Ex → Nat
  | [] => 0
  | d :: l => lv d + lvs l
end
theorem lv_eq (x : Ex) : lv x = if x.kind = 1 then 1 else lvs x.parts := by cases x with | mk k t p => rw [lv]; rfl
theorem lvs_append (l m : List Ex) : lvs (l ++ m) = lvs l + lvs m := by
  induction l with
  | nil => simp [lvs]
  | cons d l ih => rw [List.cons_append, lvs, lvs, ih]; omega
theorem lvs_one (d : Ex) : lvs [d] = lv d := by rw [lvs, lvs, Nat.add_zero]
theorem lvs_snoc (l : List Ex) (i : Nat) (h : i < l.length) : lvs (l.take (i + 1)) = lvs (l.take i) + lv (l.getD i dflt) := by
  rw [take_getDG dflt l i h, lvs_append, lvs_one]
theorem lvs_take (l : List Ex) (i : Nat) : lvs (l.take i) ≤ lvs l := by
  have h := lvs_append (l.take i) (l.drop i)
  rw [List.take_append_drop] at h; omega
theorem lv_sz : ∀ x : Ex, lv x ≤ sz x := by
  refine rec' fun x ih => ?_
  have h : ∀ l : List Ex, (∀ d ∈ l, lv d ≤ sz d) → lvs l ≤ szs l := fun l => by
    induction l with
    | nil => intro _; exact Nat.le_refl _
    | cons d l ih2 => intro h; rw [lvs, szs]; have := h d List.mem_cons_self; have := ih2 fun e he => h e (List.mem_cons_of_mem _ he); omega
  have := h x.parts ih
  rw [lv_eq, sz_eq]
  split <;> omega
theorem lvs_flat (k : Int) (hk : k ≠ 1) (l : List Ex) : lvs (flat k l) = lvs l := by
  induction l with
  | nil => rfl
  | cons d l ih =>
    rw [show flat k (d :: l) = (if d.kind = k then d.parts else [d]) ++ flat k l from rfl, lvs_append, lvs, ih]
    congr 1
    split
    · rename_i e; rw [lv_eq, if_neg (by rw [e]; exact hk)]
    · exact lvs_one d
theorem lv_tog (k : Int) (hk : k ≠ 1) (l : List Ex) : lv (tog k l) = lvs l := by
  rcases tog_cases k l with ⟨x, rfl, e⟩ | ⟨h1, y, h2, e⟩ | ⟨h1, h2, e⟩
  · rw [e, lvs_one]
  · rw [e, ← lvs_flat k hk l, h2, lvs_one]
  · rw [e, lv_eq]
    show (if k = 1 then 1 else lvs (flat k l)) = _
    rw [if_neg hk, lvs_flat k hk]
theorem lv_sfe : ∀ (sf : List Nat) (x : Ex), lv (sfe x sf) = lv x
  | [], x => rfl
  | k :: sf, x => by
    show lv (sfe (.mk (4 + (k : Int)) 0 [x]) sf) = lv x
    rw [lv_sfe sf, lv_eq]
    show (if (4 + (k : Int)) = 1 then 1 else lvs [x]) = _
    rw [if_neg (by omega), lvs_one]
end Ex
namespace It
theorem lvs_sev (s : List It) (h : ∀ i ∈ s, Ex.lv i.ev = nl i) : Ex.lvs (sev s) = snl s := by
  induction s with
  | nil => rfl
  | cons i s ih => rw [sev, Ex.lvs, snl, h i List.mem_cons_self, ih fun j hj => h j (List.mem_cons_of_mem _ hj)]
theorem lv_sq' (s : List It) (h : ∀ i ∈ s, Ex.lv i.ev = nl i) : Ex.lv (sq s) = snl s := by
  rw [sq, Ex.lv_tog 2 (by decide), lvs_sev s h]
theorem lvs_aev (a : List (List It)) (h : ∀ t ∈ a, Ex.lv (sq t) = snl t) : Ex.lvs (aev a) = anl a := by
  induction a with
  | nil => rfl
  | cons t a ih => rw [aev, Ex.lvs, anl, h t List.mem_cons_self, ih fun j hj => h j (List.mem_cons_of_mem _ hj)]
theorem lv_ev : ∀ i : It, Ex.lv i.ev = nl i := by
  refine rec' ?_ ?_
  · intro n sf
    rw [ev, Ex.lv_sfe, nl, Ex.lv_eq]; rfl
  · intro s a sf h1 h2
    rw [ev, Ex.lv_sfe, nl, Ex.lv_tog 3 (by decide), Ex.lvs, lv_sq' s h1, lvs_aev a fun t ht => lv_sq' t (h2 t ht)]
theorem lv_al (s : List It) (a : List (List It)) : Ex.lv (al s a) = snl s + anl a := by
  rw [al, Ex.lv_tog 3 (by decide), Ex.lvs, lv_sq' s fun i _ => lv_ev i, lvs_aev a fun t _ => lv_sq' t fun i _ => lv_ev i]
end It
/-- where a part's walk stands -/
structure AddZ where
  i : Nat
  fi : List Nat
  la : List Nat
  no : Bool
  vf : Value
  vl : Value
  vT : Value
  vF : Value
  tys : List Int
  R : List Rw
/-- letters that may be came in -/
def Tys (t0 t : List Int) : Prop := ∀ c ∈ t, c ∈ t0 ∨ (0 ≤ c ∧ c < 8)
theorem Tys.refl (t : List Int) : Tys t t := fun c h => .inl h
theorem Tys.trans {a b c : List Int} (h1 : Tys a b) (h2 : Tys b c) : Tys a c := fun x hx => (h2 x hx).elim (fun h => h1 x h) .inr
section pre
variable {t0 t1 t2 : List Int} {F0 F1 F2 : Fol} {f1 l1 f2 l2 : List Nat} {n1 n2 : Bool} {A B : Lg}
theorem Pl.pre1 (h : Pl t0 F0 t1 F1 f1 l1 n1 A) : (∀ p ∈ l1, p < t1.length) ∧ (∀ p ∈ l1, (F1.getD p []).Nodup) ∧ (∀ p ∈ l1, ∀ q ∈ F1.getD p [], q < t1.length) ∧ (∀ q ∈ f1, q < t1.length) :=
  ⟨fun p hp => (h.inn.L p hp).2, fun p hp => h.nodup p (h.inn.L p hp).1, fun p hp q hq => (h.inn.E p q ⟨(h.inn.L p hp).1, hq⟩).2.2, fun q hq => (h.inn.F q hq).2⟩
theorem Pl.pre2 (h1 : Pl t0 F0 t1 F1 f1 l1 n1 A) (h2 : Pl t1 F1 t2 F2 f2 l2 n2 B) : (∀ p ∈ l1, p < t2.length) ∧ (∀ p ∈ l1, (F2.getD p []).Nodup) ∧ (∀ p ∈ l1, ∀ q ∈ F2.getD p [], q < t2.length) ∧ (∀ q ∈ f2, q < t2.length) := by
  obtain ⟨a, b, c, d⟩ := h1.pre1
  have hle := h2.le
  refine ⟨fun p hp => by have := a p hp; omega, fun p hp => by rw [h2.old p (a p hp)]; exact b p hp, fun p hp q hq => ?_, fun q hq => (h2.inn.F q hq).2⟩
  rw [h2.old p (a p hp)] at hq
  have := c p hp q hq; omega
end pre
section fin
variable {t0 t1 : List Int} {F0 F1 F2 : Fol} {f1 l1 : List Nat} {n1 : Bool} {x : Ex}
theorem Pl.fin3 (h : Pl t0 F0 t1 F1 f1 l1 n1 (Ex.alts x.parts)) (hk : x.kind = 3 ∨ x.kind = 6) : Pl t0 F0 t1 F1 f1 l1 ((n1 || (x.kind == 4)) || (x.kind == 6)) x.lg := by
  rcases hk with hk | hk
  · rw [Ex.lg_eq, hk, show ((n1 || ((3 : Int) == 4)) || ((3 : Int) == 6)) = n1 from by cases n1 <;> rfl, if_neg (by decide), if_neg (by decide), if_pos rfl]; exact h
  · rw [Ex.lg_eq, hk, show ((n1 || ((6 : Int) == 4)) || ((6 : Int) == 6)) = true from by cases n1 <;> rfl, if_neg (by decide), if_neg (by decide), if_neg (by decide), if_neg (by decide), if_neg (by decide)]
    exact h.opt
theorem Pl.fin4 (h : Pl t0 F0 t1 F1 f1 l1 n1 (Ex.alts x.parts)) (hl : Lnk F1 F2 l1 f1) (hk : x.kind = 4 ∨ x.kind = 5) : Pl t0 F0 t1 F2 f1 l1 ((n1 || (x.kind == 4)) || (x.kind == 6)) x.lg := by
  obtain ⟨h1, h2⟩ := h.loop hl true
  rcases hk with hk | hk
  · rw [Ex.lg_eq, hk, show ((n1 || ((4 : Int) == 4)) || ((4 : Int) == 6)) = true from by cases n1 <;> rfl, if_neg (by decide), if_neg (by decide), if_neg (by decide), if_pos rfl]; exact h1
  · rw [Ex.lg_eq, hk, show ((n1 || ((5 : Int) == 4)) || ((5 : Int) == 6)) = n1 from by cases n1 <;> rfl, if_neg (by decide), if_neg (by decide), if_neg (by decide), if_neg (by decide), if_pos rfl]; exact h2
theorem Pl.fin2 (h : Pl t0 F0 t1 F1 f1 l1 n1 (Ex.seqs x.parts)) (hk : x.kind = 2) : Pl t0 F0 t1 F1 f1 l1 ((n1 || (x.kind == 4)) || (x.kind == 6)) x.lg := by
  rw [Ex.lg_eq, hk, show ((n1 || ((2 : Int) == 4)) || ((2 : Int) == 6)) = n1 from by cases n1 <;> rfl, if_neg (by decide), if_pos rfl]; exact h
end fin
theorem alts_snoc (l : List Ex) (i : Nat) (h : i < l.length) : Ex.alts (l.take (i + 1)) = Lg.alt (Ex.alts (l.take i)) (Ex.lg (l.getD i Ex.dflt)) := by
  rw [take_getDG Ex.dflt l i h, Ex.alts_append, Ex.alts_one]
theorem seqs_snoc (l : List Ex) (i : Nat) (h : i < l.length) : Ex.seqs (l.take (i + 1)) = Lg.cat (Ex.seqs (l.take i)) (Ex.lg (l.getD i Ex.dflt)) := by
  rw [take_getDG Ex.dflt l i h, Ex.seqs_append, Ex.seqs_one]
end Go.Vl
end

section
set_option linter.unusedVariables false
set_option linter.unusedSimpArgs false
namespace Go.Vl
abbrev Ss := List Int × Bool
/-- an expression's places -/
structure Gp where
  tys : List Int
  F : Fol
  fi : List Nat
  la : List Nat
  no : Bool
namespace Gp
def ints (l : List Nat) : List Int := l.map fun n : Nat => (n : Int)
theorem ints_mem (l : List Nat) (x : Int) : x ∈ ints l ↔ ∃ n, n ∈ l ∧ x = (n : Int) := by
  simp only [ints, List.mem_map]
  exact ⟨fun ⟨n, h, e⟩ => ⟨n, h, e.symm⟩, fun ⟨n, h, e⟩ => ⟨n, h, e.symm⟩⟩
theorem ints_av (l : List Nat) : (ints l).map AV.int = l.map natv := by rw [ints, List.map_map]; rfl
/-- those of a set whose letter it is -/
def sel (g : Gp) (S : List Int) (c : Nat) : List Int := S.filter fun k => tyOf g.tys k.toNat == (c : Int)
/-- what may come next -/
def tos (g : Gp) (P : List Int) : List Int := P.flatMap fun k => ints (g.F.getD k.toNat [])
def fins (g : Gp) (P : List Int) : Bool := P.any fun k => decide (k.toNat ∈ g.la)
def stp (g : Gp) (s : Ss) (c : Nat) : Ss := (norm (g.tos (g.sel s.1 c)), g.fins (g.sel s.1 c))
theorem sel_snoc (g : Gp) (S : List Int) (c i : Nat) (h : i < S.length) : g.sel (S.take (i + 1)) c = g.sel (S.take i) c ++ (if tyOf g.tys (S.getD i 0).toNat == (c : Int) then [S.getD i 0] else []) := by
  rw [take_getDG 0 S i h, sel, List.filter_append]
  congr 1
  simp only [List.filter_cons, List.filter_nil]
theorem tos_snoc (g : Gp) (P : List Int) (k : Int) : g.tos (P ++ [k]) = g.tos P ++ ints (g.F.getD k.toNat []) := by simp [tos]
theorem fins_snoc (g : Gp) (P : List Int) (k : Int) : g.fins (P ++ [k]) = (g.fins P || decide (k.toNat ∈ g.la)) := by simp [fins]
/-- words behind a state -/
def lgs (g : Gp) (s : Ss) : Lg
  | [] => s.2 = true
  | c :: u => ∃ q : Nat, (q : Int) ∈ s.1 ∧ tyOf g.tys q = c ∧ (glOf 0 g.F g.fi g.la g.no).rd (tyOf g.tys) q u
/-- as_ it is made from an expression -/
structure Ok (g : Gp) : Prop where
  len : g.F.length = g.tys.length
  fi : ∀ p ∈ g.fi, p < g.tys.length
  la : ∀ p ∈ g.la, p < g.tys.length
  fol : ∀ p q, q ∈ g.F.getD p [] → q < g.tys.length
  ty : ∀ c ∈ g.tys, 0 ≤ c ∧ c < 8
/-- a state of places that there are -/
def In (g : Gp) (s : Ss) : Prop := ∀ x ∈ s.1, 0 ≤ x ∧ x < g.tys.length
theorem stp_in (g : Gp) (h : g.Ok) (s : Ss) (c : Nat) : g.In (g.stp s c) := by
  intro x hx
  have hx := (norm_mem _ x).1 hx
  obtain ⟨k, _, hk⟩ := List.mem_flatMap.1 hx
  obtain ⟨n, hn, rfl⟩ := (ints_mem _ x).1 hk
  have := h.fol _ n hn
  omega
theorem start_in (g : Gp) (h : g.Ok) : g.In (norm (ints g.fi), g.no) := by
  intro x hx
  obtain ⟨n, hn, rfl⟩ := (ints_mem _ x).1 ((norm_mem _ x).1 hx)
  have := h.fi n hn
  omega
theorem lgs_start (g : Gp) : g.lgs (norm (ints g.fi), g.no) = (glOf 0 g.F g.fi g.la g.no).lg (tyOf g.tys) := Lg.ext fun w => by
  cases w with
  | nil => exact Iff.rfl
  | cons c u =>
    simp only [lgs, Gl.lg, norm_mem, ints_mem, glOf]
    constructor
    · rintro ⟨q, ⟨n, hn, e⟩, h1, h2⟩
      obtain rfl : q = n := by omega
      exact ⟨q, hn, h1, h2⟩
    · rintro ⟨q, hq, h1, h2⟩
      exact ⟨q, ⟨q, hq, rfl⟩, h1, h2⟩
theorem mem_sel (g : Gp) {s : Ss} (hs : g.In s) (c : Nat) (x : Int) : x ∈ g.sel s.1 c ↔ ∃ q : Nat, x = (q : Int) ∧ (q : Int) ∈ s.1 ∧ tyOf g.tys q = (c : Int) := by
  simp only [sel, List.mem_filter, beq_iff_eq]
  constructor
  · rintro ⟨h1, h2⟩
    have := hs x h1
    exact ⟨x.toNat, by omega, by rw [Int.toNat_of_nonneg this.1]; exact h1, h2⟩
  · rintro ⟨q, rfl, h1, h2⟩
    exact ⟨h1, h2⟩
/-- a letter's step -/
theorem lgs_stp (g : Gp) (h : g.Ok) {s : Ss} (hs : g.In s) (c : Nat) (u : List Int) : g.lgs s ((c : Int) :: u) ↔ g.lgs (g.stp s c) u := by
  cases u with
  | nil =>
    show (∃ q : Nat, (q : Int) ∈ s.1 ∧ tyOf g.tys q = (c : Int) ∧ q ∈ g.la) ↔ g.fins (g.sel s.1 c) = true
    simp only [fins, List.any_eq_true, decide_eq_true_eq]
    constructor
    · rintro ⟨q, h1, h2, h3⟩
      exact ⟨(q : Int), (g.mem_sel hs c _).2 ⟨q, rfl, h1, h2⟩, by rw [Int.toNat_natCast]; exact h3⟩
    · rintro ⟨x, h1, h2⟩
      obtain ⟨q, rfl, h3, h4⟩ := (g.mem_sel hs c x).1 h1
      exact ⟨q, h3, h4, by rw [Int.toNat_natCast] at h2; exact h2⟩
  | cons d u =>
    show (∃ q : Nat, (q : Int) ∈ s.1 ∧ tyOf g.tys q = (c : Int) ∧ ∃ r, (0 ≤ q ∧ r ∈ g.F.getD q []) ∧ tyOf g.tys r = d ∧ _) ↔ ∃ r : Nat, (r : Int) ∈ norm (g.tos (g.sel s.1 c)) ∧ tyOf g.tys r = d ∧ _
    simp only [norm_mem, tos, List.mem_flatMap, ints_mem]
    constructor
    · rintro ⟨q, h1, h2, r, ⟨_, h3⟩, h4, h5⟩
      exact ⟨r, ⟨(q : Int), (g.mem_sel hs c _).2 ⟨q, rfl, h1, h2⟩, r, by rw [Int.toNat_natCast]; exact h3, rfl⟩, h4, h5⟩
    · rintro ⟨r, ⟨x, h1, n, h2, e⟩, h4, h5⟩
      obtain rfl : r = n := by omega
      obtain ⟨q, rfl, h6, h7⟩ := (g.mem_sel hs c x).1 h1
      exact ⟨q, h6, h7, r, ⟨Nat.zero_le _, by rw [Int.toNat_natCast] at h2; exact h2⟩, h4, h5⟩
theorem lgs_none (g : Gp) {s : Ss} (hs : g.In s) (c : Nat) (hn : g.sel s.1 c = []) (u : List Int) : ¬ g.lgs s ((c : Int) :: u) := by
  rintro ⟨q, h1, h2, _⟩
  have := (g.mem_sel hs c _).2 ⟨q, rfl, h1, h2⟩
  rw [hn] at this; cases this
theorem lgs_over (g : Gp) (h : g.Ok) {s : Ss} (hs : g.In s) {c : Int} (hc : ¬ (0 ≤ c ∧ c < 8)) (u : List Int) : ¬ g.lgs s (c :: u) := by
  rintro ⟨q, h1, h2, _⟩
  have hq := hs _ h1
  have : tyOf g.tys q ∈ g.tys := getD_memG 0 g.tys q (by omega)
  rw [h2] at this
  exact hc (h.ty c this)
end Gp
/-- states that are known while rows are made -/
structure Sts (g : Gp) (SL : List Ss) (T : Nat → Nat → Int) (i c : Nat) : Prop where
  zero : SL.getD 0 ([], false) = (norm (Gp.ints g.fi), g.no) ∧ 0 < SL.length
  nodup : SL.Nodup
  inn : ∀ s ∈ SL, g.In s
  asc : ∀ s ∈ SL, s.1.Pairwise (· < ·)
  ent : ∀ k d, k < SL.length → d < 8 → (k < i ∨ (k = i ∧ d < c)) → (T k d = -1 ∧ g.sel (SL.getD k ([], false)).1 d = []) ∨ ∃ j : Nat, j < SL.length ∧ T k d = (j : Int) ∧ SL.getD j ([], false) = g.stp (SL.getD k ([], false)) d
  src : ∀ k, 0 < k → k < SL.length → ∃ s d, g.In s ∧ g.sel s.1 d ≠ [] ∧ SL.getD k ([], false) = g.stp s d
section sts
variable {g : Gp} {SL : List Ss} {T : Nat → Nat → Int} {i c : Nat}
theorem Sts.start (hg : g.Ok) (T : Nat → Nat → Int) : Sts g [(norm (Gp.ints g.fi), g.no)] T 0 0 :=
  ⟨⟨rfl, by simp⟩, by simp, fun s hs => by rw [List.mem_singleton.1 hs]; exact g.start_in hg, fun s hs => by rw [List.mem_singleton.1 hs]; exact (norm_all _).1, fun k d _ _ h => by omega, fun k h0 hk => by simp only [List.length_singleton] at hk; omega⟩
theorem Sts.row (h : Sts g SL T i 8) : Sts g SL T (i + 1) 0 := ⟨h.zero, h.nodup, h.inn, h.asc, fun k d hk hd hx => h.ent k d hk hd (by omega), h.src⟩
theorem Sts.setI (h : Sts g SL T i c) (x : Int) : Sts g SL (Au.setI T i c x) i c :=
  ⟨h.zero, h.nodup, h.inn, h.asc, fun k d hk hd hx => by rw [Au.setI_ne T i c x (by omega)]; exact h.ent k d hk hd hx, h.src⟩
theorem Sts.none (h : Sts g SL T i c) (hT : T i c = -1) (hn : g.sel (SL.getD i ([], false)).1 c = []) : Sts g SL T i (c + 1) := by
  refine ⟨h.zero, h.nodup, h.inn, h.asc, fun k d hk hd hx => ?_, h.src⟩
  by_cases h1 : k < i ∨ (k = i ∧ d < c)
  · exact h.ent k d hk hd h1
  · obtain ⟨rfl, rfl⟩ : k = i ∧ d = c := by omega
    exact .inl ⟨hT, hn⟩
theorem Sts.old (h : Sts g SL T i c) {j : Nat} (hT : T i c = (j : Int)) (hj : j < SL.length) (he : SL.getD j ([], false) = g.stp (SL.getD i ([], false)) c) : Sts g SL T i (c + 1) := by
  refine ⟨h.zero, h.nodup, h.inn, h.asc, fun k d hk hd hx => ?_, h.src⟩
  by_cases h1 : k < i ∨ (k = i ∧ d < c)
  · exact h.ent k d hk hd h1
  · obtain ⟨rfl, rfl⟩ : k = i ∧ d = c := by omega
    exact .inr ⟨j, hj, hT, he⟩
theorem Sts.new (hg : g.Ok) (h : Sts g SL T i c) (hi : i < SL.length) (hc : c < 8) (hT : T i c = (SL.length : Int)) (hs : g.sel (SL.getD i ([], false)).1 c ≠ []) (hn : g.stp (SL.getD i ([], false)) c ∉ SL) : Sts g (SL ++ [g.stp (SL.getD i ([], false)) c]) T i (c + 1) := by
  have hl : (SL ++ [g.stp (SL.getD i ([], false)) c]).length = SL.length + 1 := by simp
  have g1 : ∀ k, k < SL.length → (SL ++ [g.stp (SL.getD i ([], false)) c]).getD k ([], false) = SL.getD k ([], false) := fun k hk => getD_app _ _ _ hk
  have g2 : (SL ++ [g.stp (SL.getD i ([], false)) c]).getD SL.length ([], false) = g.stp (SL.getD i ([], false)) c := by
    rw [List.getD_eq_getElem?_getD, List.getElem?_append_right (Nat.le_refl _), Nat.sub_self]; rfl
  have hin := h.inn _ (getD_memG ([], false) SL i hi)
  refine ⟨⟨by rw [g1 0 h.zero.2]; exact h.zero.1, by omega⟩, ?_, ?_, ?_, ?_, ?_⟩
  · exact List.nodup_append.2 ⟨h.nodup, by simp, fun a ha b hb e => hn (by rw [← List.mem_singleton.1 hb, ← e]; exact ha)⟩
  · intro s hs
    rcases List.mem_append.1 hs with hs | hs
    · exact h.inn s hs
    · rw [List.mem_singleton.1 hs]; exact g.stp_in hg _ _
  · intro s hs
    rcases List.mem_append.1 hs with hs | hs
    · exact h.asc s hs
    · rw [List.mem_singleton.1 hs]; exact (norm_all _).1
  · intro k d hk hd hx
    by_cases h1 : k < i ∨ (k = i ∧ d < c)
    · rw [g1 k (by omega)]
      rcases h.ent k d (by omega) hd h1 with h2 | ⟨j, h2, h3, h4⟩
      · exact .inl h2
      · exact .inr ⟨j, by omega, h3, by rw [g1 j h2]; exact h4⟩
    · obtain ⟨rfl, rfl⟩ : k = i ∧ d = c := by omega
      exact .inr ⟨SL.length, by omega, hT, by rw [g2, g1 k hi]⟩
  · intro k h0 hk
    rcases Nat.lt_or_ge k SL.length with h1 | h1
    · rw [g1 k h1]; exact h.src k h0 h1
    · obtain rfl : k = SL.length := by omega
      exact ⟨_, c, hin, hs, g2⟩
/-- as_ many as_ there are sets of places, at most -/
theorem Sts.len (h : Sts g SL T i c) : SL.length ≤ 2 ^ g.tys.length := by
  classical
  -- a set of places, not empty, for each state but the first
  have key : ∀ k, k < SL.length → ∃ X : Nat → Bool, (k = 0 → ∀ j, X j = false) ∧ (0 < k → (∃ j, j < g.tys.length ∧ X j = true) ∧ SL.getD k ([], false) = (norm (g.tos (((List.range g.tys.length).filter X).map fun n : Nat => (n : Int))), g.fins (((List.range g.tys.length).filter X).map fun n : Nat => (n : Int)))) := by
    intro k hk
    rcases Nat.eq_zero_or_pos k with h0 | h0
    · exact ⟨fun _ => false, fun _ _ => rfl, fun h => by omega⟩
    · obtain ⟨s, d, hs, hne, he⟩ := h.src k h0 hk
      refine ⟨fun j : Nat => decide ((j : Int) ∈ g.sel s.1 d), fun h => by omega, fun _ => ⟨?_, ?_⟩⟩
      · obtain ⟨x, hx⟩ := List.exists_mem_of_ne_nil _ hne
        obtain ⟨q, rfl, h1, h2⟩ := (g.mem_sel hs d x).1 hx
        have := hs _ h1
        exact ⟨q, by omega, decide_eq_true hx⟩
      · rw [he, Gp.stp]
        have hm : ∀ x : Int, x ∈ (((List.range g.tys.length).filter fun j : Nat => decide ((j : Int) ∈ g.sel s.1 d)).map fun n : Nat => (n : Int)) ↔ x ∈ g.sel s.1 d := fun x => by
          simp only [List.mem_map, List.mem_filter, List.mem_range, decide_eq_true_eq]
          constructor
          · rintro ⟨q, ⟨_, h1⟩, rfl⟩; exact h1
          · intro hx
            obtain ⟨q, rfl, h1, h2⟩ := (g.mem_sel hs d x).1 hx
            have := hs _ h1
            exact ⟨q, ⟨by omega, hx⟩, rfl⟩
        congr 1
        · refine norm_ext fun x => ?_
          simp only [Gp.tos, List.mem_flatMap]
          exact ⟨fun ⟨k, h1, h2⟩ => ⟨k, (hm k).2 h1, h2⟩, fun ⟨k, h1, h2⟩ => ⟨k, (hm k).1 h1, h2⟩⟩
        · refine Bool.eq_iff_iff.2 ?_
          simp only [Gp.fins, List.any_eq_true]
          exact ⟨fun ⟨k, h1, h2⟩ => ⟨k, (hm k).2 h1, h2⟩, fun ⟨k, h1, h2⟩ => ⟨k, (hm k).1 h1, h2⟩⟩
  let X : Nat → Nat → Bool := fun k => if hk : k < SL.length then Classical.choose (key k hk) else fun _ => false
  have hX : ∀ k, k < SL.length → (k = 0 → ∀ j, X k j = false) ∧ (0 < k → (∃ j, j < g.tys.length ∧ X k j = true) ∧ SL.getD k ([], false) = (norm (g.tos (((List.range g.tys.length).filter (X k)).map fun n : Nat => (n : Int))), g.fins (((List.range g.tys.length).filter (X k)).map fun n : Nat => (n : Int)))) := fun k hk => by
    have := Classical.choose_spec (key k hk)
    simp only [X, dif_pos hk]; exact this
  have hlen : ∀ k, ((List.range g.tys.length).map (X k)).length = g.tys.length := fun k => by simp
  refine pigeon (2 ^ g.tys.length) SL.length (fun k => bval ((List.range g.tys.length).map (X k))) (fun k hk => ?_) (fun a b ha hb e => ?_)
  · have := bval_lt ((List.range g.tys.length).map (X k))
    rwa [hlen] at this
  · have e := bval_inj _ _ (by rw [hlen, hlen]) e
    have e2 : ∀ j, j < g.tys.length → X a j = X b j := fun j hj => by
      have := congrArg (fun l => l[j]?) e
      simpa [hj] using this
    have hne : ∀ a b, a < SL.length → b < SL.length → (∀ j, j < g.tys.length → X a j = X b j) → a = 0 → 0 < b → False := fun a b ha hb e2 h0 h1 => by
      obtain ⟨⟨j, hj, hx⟩, _⟩ := (hX b hb).2 h1
      rw [← e2 j hj, (hX a ha).1 h0 j] at hx; cases hx
    rcases Nat.eq_zero_or_pos a with h0 | h0
    · rcases Nat.eq_zero_or_pos b with h1 | h1
      · omega
      · exact (hne a b ha hb e2 h0 h1).elim
    · rcases Nat.eq_zero_or_pos b with h1 | h1
      · exact (hne b a hb ha (fun j hj => (e2 j hj).symm) h1 h0).elim
      · have ea := ((hX a ha).2 h0).2
        have eb := ((hX b hb).2 h1).2
        have ef : (List.range g.tys.length).filter (X a) = (List.range g.tys.length).filter (X b) := List.filter_congr fun j hj => e2 j (List.mem_range.1 hj)
        rw [ef, ← eb] at ea
        rw [List.getD_eq_getElem?_getD, List.getD_eq_getElem?_getD, List.getElem?_eq_getElem ha, List.getElem?_eq_getElem hb] at ea
        exact (List.getElem_inj h.nodup).1 ea
/-- THE WIDE MACHINE: it means what the places mean. -/
theorem Sts.done (hg : g.Ok) (h : Sts g SL T SL.length 0) : (Au.auOf SL.length T (SL.map (·.2))).Shape ∧ ∀ u, (Au.auOf SL.length T (SL.map (·.2))).acc 0 u ↔ (glOf 0 g.F g.fi g.la g.no).lg (tyOf g.tys) u := by
  have hto := fun k c hk hc => Au.auOf_to SL.length T (SL.map (·.2)) k c hk hc
  have hshape : (Au.auOf SL.length T (SL.map (·.2))).Shape := by
    refine ⟨by rw [Au.auOf_len]; exact h.zero.2, by rw [Au.auOf_len]; show (SL.map (·.2)).length = _; rw [List.length_map], fun k hk => Au.auOf_row _ _ _ k (by rwa [Au.auOf_len] at hk), fun k hk d hd => ?_⟩
    rw [Au.auOf_len] at hk ⊢
    have h1 := hto k d hk hd
    simp only [Au.to, Int.toNat_natCast] at h1
    rw [h1]
    rcases h.ent k d hk hd (.inl hk) with ⟨h2, _⟩ | ⟨j, h2, h3, _⟩ <;> omega
  have key : ∀ (u : List Int) (k : Nat), k < SL.length → ((Au.auOf SL.length T (SL.map (·.2))).acc (k : Int) u ↔ g.lgs (SL.getD k ([], false)) u) := by
    intro u
    induction u with
    | nil =>
      intro k hk
      rw [Au.acc_nil, Au.fin, Int.toNat_natCast, decide_eq_true (show (0 : Int) ≤ (k : Int) by omega), Bool.true_and]
      show (SL.map (·.2)).getD k false = true ↔ (SL.getD k ([], false)).2 = true
      rw [List.getD_eq_getElem?_getD, List.getElem?_map, List.getD_eq_getElem?_getD, List.getElem?_eq_getElem hk]; rfl
    | cons c u ih =>
      intro k hk
      have hin := h.inn _ (getD_memG ([], false) SL k hk)
      by_cases hc : 0 ≤ c ∧ c < 8
      · obtain ⟨c, rfl⟩ : ∃ j : Nat, c = (j : Int) := ⟨c.toNat, by omega⟩
        rw [Au.acc_step k c (by omega), hto k c hk (by omega)]
        rcases h.ent k c hk (by omega) (.inl hk) with ⟨h1, h2⟩ | ⟨j, h1, h2, h3⟩
        · rw [h1]
          exact ⟨fun h => absurd h (Au.acc_neg (by decide) _), fun h' => absurd h' (g.lgs_none hin c h2 u)⟩
        · rw [h2, ih j h1, h3, g.lgs_stp hg hin c u]
      · refine ⟨fun h' => ?_, fun h' => absurd h' (g.lgs_over hg hin hc u)⟩
        simp only [Au.acc] at h'
        exact absurd ⟨h'.2.1, h'.2.2.1⟩ hc
  refine ⟨hshape, fun u => ?_⟩
  have h1 := key u 0 h.zero.2
  rw [h.zero.1, g.lgs_start] at h1
  exact h1
end sts
/-- a state has not more places than there are -/
theorem Sts.sle {g : Gp} {SL : List Ss} {T : Nat → Nat → Int} {i c : Nat} (h : Sts g SL T i c) {s : Ss} (hs : s ∈ SL) : s.1.length ≤ g.tys.length := by
  have h1 := h.inn s hs
  have h2 := h.asc s hs
  refine pigeon g.tys.length s.1.length (fun k => (s.1.getD k 0).toNat) (fun k hk => by have := h1 _ (getD_memG 0 s.1 k hk); show (s.1.getD k 0).toNat < _; omega) (fun a b ha hb e => ?_)
  have ea := h1 _ (getD_memG 0 s.1 a ha)
  have eb := h1 _ (getD_memG 0 s.1 b hb)
  have e : (s.1.getD a 0).toNat = (s.1.getD b 0).toNat := e
  have e' : s.1.getD a 0 = s.1.getD b 0 := by omega
  rw [List.getD_eq_getElem?_getD, List.getD_eq_getElem?_getD, List.getElem?_eq_getElem ha, List.getElem?_eq_getElem hb] at e'
  simp only [Option.getD_some] at e'
  rcases Nat.lt_trichotomy a b with h3 | h3 | h3
  · have := List.pairwise_iff_getElem.1 h2 a b ha hb h3; omega
  · exact h3
  · have := List.pairwise_iff_getElem.1 h2 b a hb ha h3; omega
theorem Gp.tos_len (g : Gp) {m : Nat} (hr : ∀ p, (g.F.getD p []).length ≤ m) : ∀ P : List Int, (g.tos P).length ≤ P.length * m
  | [] => by simp [Gp.tos]
  | k :: P => by
    have h1 := Gp.tos_len g hr P
    have h2 := hr k.toNat
    show ((Gp.ints (g.F.getD k.toNat [])) ++ g.tos P).length ≤ _
    rw [List.length_append, Gp.ints, List.length_map, List.length_cons, Nat.add_mul]; omega
theorem Gp.sel_len (g : Gp) (S : List Int) (c : Nat) : (g.sel S c).length ≤ S.length := List.length_filter_le _ _
/-- from the parts of an expression -/
theorem Pl.gp {tys : List Int} {F : Fol} {fi la : List Nat} {no : Bool} {A : Lg} (h : Pl [] [] tys F fi la no A) (hty : Tys [] tys) : (Gp.mk tys F fi la no).Ok ∧ (glOf 0 F fi la no).lg (tyOf tys) = A ∧ ∀ p, (F.getD p []).length ≤ tys.length := by
  refine ⟨⟨h.len, fun p hp => (h.inn.F p hp).2, fun p hp => (h.inn.L p hp).2, fun p q hq => (h.inn.E p q ⟨Nat.zero_le _, hq⟩).2.2, fun c hc => (hty c hc).resolve_left (by simp)⟩, h.lang, fun p => ?_⟩
  exact nodup_len (h.nodup p (Nat.zero_le _)) fun q hq => (h.inn.E p q ⟨Nat.zero_le _, hq⟩).2.2
theorem Au.rowV_splice (T : Nat → Nat → Int) (i c : Nat) (x : Int) (hc : c < 8) : splice (Au.rowV T i c) c [.int x] = Au.rowV (Au.setI T i c x) i (c + 1) := by
  rw [← Au.rowV_step T i c x hc]
  unfold Au.rowV
  rw [row8_splice _ c hc, row8_set _ c hc]
theorem Au.rowV_splice2 (T : Nat → Nat → Int) (i c : Nat) (y x : Int) (hc : c < 8) : splice (splice (Au.rowV T i c) c [.int y]) c [.int x] = Au.rowV (Au.setI T i c x) i (c + 1) := by
  rw [← Au.rowV_splice T i c x hc]
  unfold Au.rowV
  rw [row8_splice _ c hc, row8_splice _ c hc, row8_splice _ c hc]
  exact row8_congr fun d _ => by by_cases h : d = c <;> simp [h]
theorem rows_setI (T : Nat → Nat → Int) (i c : Nat) (x : Int) : ((List.range i).map fun k => r8av (Au.setI T i c x k)) = (List.range i).map fun k => r8av (T k) :=
  rows_congr i (T := Au.setI T i c x) (T' := T) fun k hk d _ => Au.setI_ne T i c x (by omega)
/-- keys of states -/
def keyS (s : Ss) : List UInt8 := keyL s.1 ++ fmtB s.2
theorem keyS_inj {s t : Ss} (hs : sml s.1) (ht : sml t.1) (h : keyS s = keyS t) : s = t := by
  obtain ⟨h1, h2⟩ := keyB_inj hs ht h
  exact Prod.ext h1 h2
theorem keyS_place {s : Ss} {SL : List Ss} (hs : sml s.1) (hL : ∀ t ∈ SL, sml t.1) : place (keyS s) (SL.map keyS) = place s SL := place_map fun t ht e => keyS_inj hs (hL t ht) e
theorem Gp.In.sml {g : Gp} {s : Ss} (h : g.In s) (hn : g.tys.length ≤ 100) : sml s.1 := fun x hx => by have := h x hx; omega
end Go.Vl
end

section
set_option linter.unusedVariables false
set_option linter.unusedSimpArgs false
namespace Go.Proofs.YtacaemfkdieocaaGreatDoor.WSeq
open Go.RowKit Go.Shelf Go.Sort
attribute [local go_sem] Oper.semAt_some
/-- what has come when k rounds are over -/
def upto {α : Type} (f : Nat → α) (k : Nat) : List α := (List.range k).map f
theorem upto_succ {α : Type} (f : Nat → α) (k : Nat) : upto f (k + 1) = upto f k ++ [f k] := by simp [upto, List.range_succ]
theorem upto_length {α : Type} (f : Nat → α) (k : Nat) : (upto f k).length = k := by simp [upto]
theorem upto_all (zs : List Int) : upto (fun j => zs[j]?.getD 0) zs.length = zs := by
  apply List.ext_getElem
  · simp [upto]
  · intro i h1 h2
    simp [upto, h2]
theorem upto_take (zs : List Int) {k : Nat} (hk : k ≤ zs.length) : upto (fun j => zs[j]?.getD 0) k = zs.take k := by
  apply List.ext_getElem
  · simp [upto, hk]
  · intro i h1 h2
    have : i < zs.length := by simp [upto] at h1; omega
    simp [upto, this]
set_option maxRecDepth 100000 in
set_option maxHeartbeats 2000000 in
theorem values1_in (F : Fence) (n : Nat) (h7 : F.fn 66) (hro : F.round = none) (hn : 1 ≤ n) (l Bs n₀ b off len cap : Nat) (zs : List Int) (hreach : len * 8 ≤ 140737488351232) (hb : b < n₀) (J Jx : List Int → World → Prop)
    (hY : ∀ pre x W, J pre W → pre.length < len → YieldAt F (n - 1) Tryz.prog l #[.int .i64 x] W fun e W' =>
      (e = .returned (.bool true) ∧ J (pre ++ [x]) W' ∧ Below n₀ W W') ∨ (e = .returned (.bool false) ∧ Jx (pre ++ [x]) W'))
    (W : World) (hBs : W.cell? ⟨Bs, 0, none⟩ = some (.slice (some ⟨b, off, none⟩) len cap)) (hc : ∀ j, j < len → W.cell? ⟨b, off + j, none⟩ = some (.int .i64 (zs[j]?.getD 0))) (h0 : J [] W) :
    CallsIn F n Tryz.prog 66 #[.func (.yield l) #[] #[], .pointer (some ⟨Bs, 0, none⟩)] W fun e W' => (∃ v, e = .returned v) ∧
      ((∃ ys, ys = upto (fun j => zs[j]?.getD 0) len ∧ J ys W') ∨ (∃ pre, (∃ k, k ≤ len ∧ pre = upto (fun j => zs[j]?.getD 0) k) ∧ Jx pre W')) := by
  refine callsIn_of_wp Tryz.func66 rfl h7 ?_ hro
  simp only [Tryz.ntmps66, List.size_toArray, List.length_cons, List.length_nil, Nat.reduceAdd, Nat.reduceSub, Array.replicate_succ, Array.replicate_zero, List.push_toArray, List.append_toArray, List.nil_append, List.cons_append]
  gi_wp2
  gi_loopw [7] (fun i wr => ∃ k : Nat, k ≤ len ∧ i = .int .i64 k ∧ J (upto (fun j => zs[j]?.getD 0) k) wr ∧ Below n₀ W wr)
    (fun i _ => len - (intOf i).toNat)
  case atStart => exact ⟨0, Nat.zero_le _, rfl, h0, Below.refl _ _⟩
  case round =>
    obtain ⟨k, hk, rfl, hJs, hnx⟩ := hrel
    have hcx : k < len → wr.cell? ⟨b, off + k, none⟩ = some (.int .i64 (zs[k]?.getD 0)) := fun h => (hnx.cell (p := ⟨b, off + k, none⟩) hb).trans (hc k h)
    by_cases hlt : k < len
    · obtain ⟨fn, tmps, assign, body, hy, hR⟩ := hY _ (zs[k]?.getD 0) wr hJs (by rw [upto_length]; exact hlt)
      have hcx' := hcx hlt
      gi_wp2
      refine hR.mono ?_
      rintro e W3 (⟨rfl, hJ3, hk3⟩ | ⟨rfl, hJx3⟩)
      · gi_wp2
        go_roundw
        case rel => exact ⟨k + 1, by omega, by simp, by rw [upto_succ]; exact hJ3, hnx.trans hk3⟩
        case measure => simp [intOf]; omega
      · gi_wp2
        refine bodyPost_ret (results_none rfl _ _ _) rfl ?_
        exact ⟨⟨_, rfl⟩, .inr ⟨_, ⟨k + 1, by omega, (upto_succ _ _).symm⟩, hJx3⟩⟩
    · obtain rfl : k = len := by omega
      gi_wp2
      go_end0
      exact ⟨⟨_, rfl⟩, .inl ⟨_, rfl, hJs⟩⟩
/-- the slice holds the numbers, in a block below n₀; or it has none and there are none -/
def Ints (n₀ : Nat) (W : World) (sv : Value) (zs : List Int) : Prop :=
  (∃ a cap, sv = .slice a 0 cap ∧ zs = []) ∨ ∃ b off cap, sv = .slice (some ⟨b, off, none⟩) zs.length cap ∧ b < n₀ ∧ ∀ j, j < zs.length → W.cell? ⟨b, off + j, none⟩ = some (.int .i64 (zs[j]?.getD 0))
theorem Ints.below {n₀ : Nat} {A B : World} (h : Below n₀ A B) {sv : Value} {zs : List Int} : Ints n₀ A sv zs → Ints n₀ B sv zs
  | .inl e => .inl e
  | .inr ⟨b, off, cap, e, hb, hc⟩ => .inr ⟨b, off, cap, e, hb, fun j hj => (h.cell (p := ⟨b, off + j, none⟩) hb).trans (hc j hj)⟩
set_option maxRecDepth 100000 in
set_option maxHeartbeats 1000000 in
theorem values1_nil_in (F : Fence) (n : Nat) (h7 : F.fn 66) (hro : F.round = none) (l Bs : Nat) (a : Option Addr) (cap : Nat) (J : List Int → World → Prop) (W : World) (hBs : W.cell? ⟨Bs, 0, none⟩ = some (.slice a 0 cap)) (h0 : J [] W) :
    CallsIn F n Tryz.prog 66 #[.func (.yield l) #[] #[], .pointer (some ⟨Bs, 0, none⟩)] W fun e W' => (∃ v, e = .returned v) ∧ J [] W' := by
  refine callsIn_of_wp Tryz.func66 rfl h7 ?_ hro
  simp only [Tryz.ntmps66, List.size_toArray, List.length_cons, List.length_nil, Nat.reduceAdd, Nat.reduceSub, Array.replicate_succ, Array.replicate_zero, List.push_toArray, List.append_toArray, List.nil_append, List.cons_append]
  gi_wp2
  gi_loopw [7] (fun i wr => i = .int .i64 0 ∧ J [] wr) (fun _ _ => 0)
  case atStart => exact ⟨rfl, h0⟩
  case round =>
    obtain ⟨rfl, hJs⟩ := hrel
    gi_wp2
    go_end0
    exact ⟨⟨_, rfl⟩, hJs⟩
theorem values_stops (F : Fence) (n : Nat) (h7 : F.fn 66) (hro : F.round = none) (hn : 1 ≤ n) (Bs n₀ : Nat) (sv : Value) (zs : List Int) (hreach : zs.length * 8 ≤ 140737488351232) (w : World) (hBs : Bs < w.heap.size) (hn₀ : n₀ ≤ w.heap.size)
    (hc : w.cell? ⟨Bs, 0, none⟩ = some sv) (hI : Ints n₀ w sv zs) :
    SeqStopsK F n Tryz.prog 66 #[.pointer (some ⟨Bs, 0, none⟩)] (fun x : Int => #[Value.int .i64 x]) (Below n₀) (fun ys => ys = zs) (fun pre => pre <+: zs) zs.length w := fun l J Jx W hW _ _ hY h0 => by
  have hc' := (hW.cell (p := ⟨Bs, 0, none⟩) hBs).trans hc
  rcases hI.below (hW.mono hn₀) with ⟨a, cap, rfl, rfl⟩ | ⟨b, off, cap, rfl, hb, hcs⟩
  · exact (values1_nil_in F n h7 hro l Bs a cap J W hc' h0).mono fun e W' ⟨he, hj⟩ => ⟨he, .inl ⟨_, rfl, hj⟩⟩
  · refine (values1_in F n h7 hro hn l Bs n₀ b off zs.length cap zs hreach hb J Jx hY W hc' hcs h0).mono ?_
    rintro e W' ⟨he, ⟨ys, rfl, hj⟩ | ⟨pre, ⟨k, hk, rfl⟩, hj⟩⟩
    · exact ⟨he, .inl ⟨_, upto_all zs, hj⟩⟩
    · exact ⟨he, .inr ⟨_, by rw [upto_take zs hk]; exact List.take_prefix _ _, hj⟩⟩
theorem infoI : (Tryz.prog.info? 3).map (fun i => (i.zero, i.size, i.bytes)) = some (some (.int .i64 0), 1, 8) := by kernel_rfl
set_option maxRecDepth 100000 in
set_option maxHeartbeats 2000000 in
/-- what comes is appended to a new row -/
theorem appendSeq_in (F : Fence) (n : Nat) (h3 : F.fn 77) (h5 : F.fn 66) (hro : F.round = none) (hn : 3 ≤ n) (Bc : Nat) (sv : Value) (zs : List Int) (hlen : zs.length ≤ maxLen) (hbytes : zs.length * 8 ≤ 140737488351232) (w : World) (hBc : w.cell? ⟨Bc, 0, none⟩ = some sv) (hBl : Bc < w.heap.size) (hI : Ints w.heap.size w sv zs) :
    CallsIn F n Tryz.prog 77 #[.slice none 0 0, .func (.func 66) #[] #[.pointer (some ⟨Bc, 0, none⟩)]] w fun e W' => ∃ v, e = .returned v ∧ W'.ownsRow w.heap.size 3 1 v zs.length (zs.map (Value.int .i64)) ∧ (v = .slice none 0 0 ↔ zs = []) ∧ Below w.heap.size w W' := by
  have h1 : 1 ≤ n := by omega
  obtain ⟨i0, hi, hz0, hz1, hz2⟩ := info_parts infoI
  refine callsIn_of_wp_marks Tryz.func77 rfl h3 ?_ hro
  simp only [Tryz.ntmps77, List.size_toArray, List.length_cons, List.length_nil, Nat.reduceAdd, Nat.reduceSub, Array.replicate_succ, Array.replicate_zero, List.push_toArray, List.append_toArray, List.nil_append, List.cons_append]
  gi_wp2
  have bO := Boxed.new w 22 (.slice none 0 0)
  have hB0 : Below w.heap.size w (w.alloc (.cells #[.slice none 0 0] 22)) := (Below.refl _ w).alloc (Nat.le_refl _) _
  refine wpIn_rangeFunc_ownG hro h1 (gf := 66) (lb := #[.pointer (some ⟨Bc, 0, none⟩)]) rfl h5 (enters_of Tryz.func66 (by kernel_rfl) rfl)
    (values_stops F (n - 1) h5 hro (by omega) Bc w.heap.size sv zs (by omega) _ (by simp; omega) (by simp) ((hB0.cell (p := ⟨Bc, 0, none⟩) hBl).trans hBc) (hI.below hB0)) belowK_t (belowK_b (by simp)) (Below.refl _ _) (fun _ => rfl)
    (fun pre W => (∃ v, Boxed W w.heap.size 22 v ∧ W.ownsRow w.heap.size 3 1 v pre.length (pre.map (Value.int .i64)) ∧ (v = .slice none 0 0 ↔ pre = [])) ∧ Below w.heap.size w W)
    (fun _ _ _ => False)
    (OwnFrom.and (Own.from (holdsRow_own w.heap.size w.heap.size 22 3 1 (fun pre : List Int => pre.length) (fun pre => pre.map (Value.int .i64)) (fun pre v => v = .slice none 0 0 ↔ pre = [])) _) (ownFrom_below (Nat.le_refl _) (by simp)))
    (fun _ _ _ _ _ hs _ _ => hs)
    ⟨⟨_, bO, World.ownsRow_nil _ _ _ _, by simp⟩, hB0⟩
    (fun x => { tmps := #[.slice none 0 0, .func (.func 66) #[] #[.pointer (some ⟨Bc, 0, none⟩)], .pointer (some ⟨w.heap.size, 0, none⟩), undef, .slice none 0 0, .int .i64 x, .func (.func 66) #[] #[.pointer (some ⟨Bc, 0, none⟩)], .int .i64 x, undef, undef, undef, undef, undef], defers := [] }) ?assign ?body ?done ?stop
  case assign =>
    intro l x W K hK
    gi_wp2
    exact hK
  case body =>
    rintro l pre x W ⟨⟨v, hv, hrow, hnil⟩, hB⟩ hlt
    have hc := hv.cell
    gi_wp2_with (gi_at_builtin; refine wpListIn_append_own _ rfl _ _ 22 rfl w.heap.size 3 i0 (.int .i64 0) 1 8 Tryz.underlying22 hi hz0 hz1 hz2 rfl (by decide) _ _ _ rfl (hrow.alloc _) ⟨W.heap.size, 0, none⟩ 1 1 [.int .i64 x] rfl rfl (cell_one_new _ _ _) (by simp [Value.oneCell']) (by omega) (by omega) (by have := hB.size; simp; omega) ?_; intro v' w1 hown' hgrow _; obtain ⟨g', cap', rfl⟩ := ownsRow_succ hown'; obtain ⟨hv1, hv2, hr2, hk2, hb2⟩ := hv.appended (by decide) hrow hB.size (Nat.le_refl _) hown' hgrow; have hc1 := hv1.cell; have hf1 := hv1.frozen)
    exact ⟨hk2.from _, hb2, ⟨_, hv2, by simpa using hr2, by simp⟩, hB.trans hb2⟩
  case done =>
    rintro D ys W hD rfl ⟨⟨v, hv, hrow, hnil⟩, hB⟩ hK
    have hc := hv.cell
    gi_wp2
    refine ⟨by simp, .inl ⟨_, _, rfl, run_takeDeferred hK, ?_⟩⟩
    exact ⟨_, results_tmp rfl _ _ _, v, rfl, ownsRow_putObj hrow _ hK rfl, hnil, hB.trans (belowK_b (w := w) (Nat.le_refl _) W D _ _ (by simp at hD; omega) hK rfl rfl)⟩
  case stop =>
    rintro D c pre W _ _ h _
    exact h.elim
/-- slices.Sort's two contracts, inside a fence -/
def SortsIn (F : Fence) (m : Nat) : Prop :=
  (∀ (blk off cap : Nat) (ss : List Int) (W : World), Holds (Value.int .i64) W blk off ss.toArray → blk < W.heap.size → ss.length < 4611686018427387904 →
    CallsIn F m Tryz.prog 65 #[.slice (some ⟨blk, off, none⟩) ss.length cap] W fun e w' => e = .returned (.tuple #[]) ∧ ∃ k os, w' = grow (putRow (Value.int .i64) (Sort.ahead W k) blk off (ss.mergeSort fun x y => decide (x ≤ y)).toArray) os) ∧
  (∀ (p : Option Addr) (cap : Nat) (W : World), CallsIn F m Tryz.prog 65 #[.slice p 0 cap] W fun e w' => e = .returned (.tuple #[]) ∧ w' = W)
theorem sorts_wide (m : Nat) : SortsIn Fence.wide m :=
  ⟨fun blk off cap ss W hH hblk hsz => callsIn_wide.2 (Go.Proofs.Tryz.slices_Sort_int blk off cap ss W hH hblk hsz), fun p cap W => callsIn_wide.2 (Go.Proofs.Tryz.slices_Sort_int_none p cap W)⟩
set_option maxRecDepth 100000 in
set_option maxHeartbeats 1000000 in
theorem collect_in (F : Fence) (n : Nat) (h8 : F.fn 64) (h3 : F.fn 77) (h5 : F.fn 66) (hro : F.round = none) (hn : 4 ≤ n) (Bc : Nat) (sv : Value) (zs : List Int) (hlen : zs.length ≤ maxLen) (hbytes : zs.length * 8 ≤ 140737488351232) (w : World) (hBc : w.cell? ⟨Bc, 0, none⟩ = some sv) (hBl : Bc < w.heap.size) (hI : Ints w.heap.size w sv zs) :
    CallsIn F n Tryz.prog 64 #[.func (.func 66) #[] #[.pointer (some ⟨Bc, 0, none⟩)]] w fun e W' => ∃ v, e = .returned v ∧ W'.ownsRow w.heap.size 3 1 v zs.length (zs.map (Value.int .i64)) ∧ (v = .slice none 0 0 ↔ zs = []) ∧ Below w.heap.size w W' := by
  have h1 : 1 ≤ n := by omega
  refine callsIn_of_wp Tryz.func64 rfl h8 ?_ hro
  simp only [Tryz.ntmps64, List.size_toArray, List.length_cons, List.length_nil, Nat.reduceAdd, Nat.reduceSub, Array.replicate_succ, Array.replicate_zero, List.push_toArray, List.append_toArray, List.nil_append, List.cons_append]
  gi_wp2_with (gi_at_call 77; refine (appendSeq_in F (n - 1) h3 h5 hro (by omega) Bc sv zs hlen hbytes _ hBc hBl hI).mono ?_; rintro e W ⟨v, rfl, hrow, hnil, hb⟩)
  go_ret
  exact ⟨v, rfl, hrow, hnil, hb⟩
set_option maxRecDepth 100000 in
set_option maxHeartbeats 2000000 in
theorem sorted_in (F : Fence) (n : Nat) (h6 : F.fn 46) (h8 : F.fn 64) (h9 : F.fn 65) (h3 : F.fn 77) (h5 : F.fn 66) (hro : F.round = none) (hn : 5 ≤ n) (hsort : SortsIn F (n - 1)) (Bc : Nat) (sv : Value) (zs : List Int) (hlen : zs.length ≤ maxLen) (hbytes : zs.length * 8 ≤ 140737488351232) (w : World) (hBc : w.cell? ⟨Bc, 0, none⟩ = some sv) (hBl : Bc < w.heap.size) (hI : Ints w.heap.size w sv zs) :
    CallsIn F n Tryz.prog 46 #[.func (.func 66) #[] #[.pointer (some ⟨Bc, 0, none⟩)]] w fun e w' => ∃ v, e = .returned v ∧ w'.ownsRow w.heap.size 3 1 v zs.length ((zs.mergeSort (fun x y => decide (x ≤ y))).map (Value.int .i64)) ∧ Below w.heap.size w w' := by
  have h1 : 1 ≤ n := by omega
  refine callsIn_of_wp Tryz.func46 rfl h6 ?_ hro
  simp only [Tryz.ntmps46, List.size_toArray, List.length_cons, List.length_nil, Nat.reduceAdd, Nat.reduceSub, Array.replicate_succ, Array.replicate_zero, List.push_toArray, List.append_toArray, List.nil_append, List.cons_append]
  gi_wp2_with (gi_at_call 64; refine (collect_in F (n - 1) h8 h3 h5 hro (by omega) Bc sv zs hlen hbytes _ hBc hBl hI).mono ?_; rintro e W ⟨v, rfl, hrow, hnil, hb⟩)
  rcases hrow.2 with ⟨rfl, hz⟩ | ⟨gb, cap, cur, rfl, hbase, hgb, r1, r2, r3, r4⟩
  · have hss : zs = [] := List.eq_nil_of_length_eq_zero hz
    subst hss
    gi_wp2_with (gi_at_call 65; refine (hsort.2 none 0 W).mono ?_; rintro e w' ⟨rfl, rfl⟩)
    go_ret
    exact ⟨.slice none 0 0, rfl, by simpa using hrow, hb⟩
  · have hH : Holds (Value.int .i64) W gb 0 zs.toArray := holds_of_blockI hgb (by simpa using r4)
    have hgl : gb < W.heap.size := (Array.getElem?_eq_some_iff.1 hgb).1
    have cS := hsort.1 gb 0 cap zs W hH hgl (by omega)
    gi_wp2_with (gi_at_call 65; refine cS.mono ?_; rintro e w' ⟨rfl, nn, os, rfl⟩)
    go_ret
    exact ⟨_, rfl, ownsRow_sortedI (by simp) hbase hgb r1 r2 r3, hb.grown (grownBy_sortedI _) hb.size (fun j hj => by cases hj; exact hbase)⟩
/-- slices.Sorted of what slices.Values hands back -/
theorem sorted (Bc : Nat) (sv : Value) (zs : List Int) (hlen : zs.length ≤ maxLen) (hbytes : zs.length * 8 ≤ 140737488351232) (w : World) (hBc : w.cell? ⟨Bc, 0, none⟩ = some sv) (hBl : Bc < w.heap.size) (hI : Ints w.heap.size w sv zs) :
    Calls Tryz.prog 46 #[.func (.func 66) #[] #[.pointer (some ⟨Bc, 0, none⟩)]] w fun e w' => ∃ v, e = .returned v ∧ w'.ownsRow w.heap.size 3 1 v zs.length ((zs.mergeSort (fun x y => decide (x ≤ y))).map (Value.int .i64)) ∧ Below w.heap.size w w' :=
  callsIn_wide.1 (sorted_in Fence.wide 5 trivial trivial trivial trivial trivial rfl (Nat.le_refl _) (sorts_wide _) Bc sv zs hlen hbytes w hBc hBl hI)
end Go.Proofs.YtacaemfkdieocaaGreatDoor.WSeq
end

section
set_option linter.unusedVariables false
set_option linter.unusedSimpArgs false
set_option maxRecDepth 100000
namespace Go.Proofs.YtacaemfkdieocaaGreatDoor
open Go.Vl

namespace WNorm

theorem c_Values (v : Value) (es : List AV) : FnC Tryz.prog 47 [.lit v] [.arr v 3 1 es] (fun r M => ∃ b, r = .lit (.func (.func 66) #[] #[.pointer (some ⟨b, 0, none⟩)]) ∧ M = [.box b 22 [.lit v], .arr v 3 1 es]) :=  by
  refine FnC.mk Tryz.func47 (by kernel_rfl) rfl Tryz.ntmps47 rfl (fun w0 F => ?_)
  refine W.arr_inv 0 rfl (fun a9 n9 c9 h9 => ?_)
  subst h9
  refine W.seq ?_
  refine W.region ?_
  refine W.box (.t rfl) rfl rfl ?_
  intro b1
  refine W.q (Ev.assign .k) rfl ?_
  refine W.nil ?_
  refine W.then ?_
  refine W.seq ?_
  refine W.region ?_
  refine W.q (Ev.mkfn (caps := [.tmp 1]) (vs := [_]) ⟨(.t rfl), trivial⟩) rfl ?_
  refine W.q (Ev.assign (.t rfl)) rfl ?_
  refine W.nil ?_
  refine W.then ?_
  refine W.ret ?_
  refine W.retn (M' := [_, _]) (D := []) (rs := [.tmp 2]) (avs := [_]) Tryz.results47 ⟨rfl, trivial⟩ rfl (.refl _) ?_
  exact ⟨b1, rfl, rfl⟩

theorem c_Sorted (b : Nat) (v : Value) (l : List Int) (hl : l.length ≤ 1048576) : FnC Tryz.prog 46 [.lit (.func (.func 66) #[] #[.pointer (some ⟨b, 0, none⟩)])] [.box b 22 [.lit v], .arr v 3 1 (l.map AV.int)] (fun r M => ∃ v', r = .lit v' ∧ M = .arr v' 3 1 ((srt l).map AV.int) :: [.box b 22 [.lit v], .arr v 3 1 (l.map AV.int)]) := by
  refine FnC.belowRow (l := srt l) (CallOk.of Tryz.func46 (by kernel_rfl) (by kernel_rfl)) fun w F vs hF hm ha => ?_
  simp only [RepT] at ha
  obtain ⟨v0, _, rfl, ⟨hs0, hr0⟩, rfl⟩ := ha
  have e0 : v0 = _ := Rep.lit_iff.1 (show Rep w _ (.lit (.func (.func 66) #[] #[.pointer (some ⟨b, 0, none⟩)])) v0 from ⟨hs0, hr0⟩)
  subst e0
  obtain ⟨cur, hc, hrl⟩ := hm.holds _ List.mem_cons_self
  have hcv : cur.toList = [v] := by
    simp only [RepL] at hrl
    obtain ⟨u, us, e, ⟨h1, h2, h3⟩, rfl⟩ := hrl
    have : u = v := lit_cell h1 h3
    rw [e, this]
  have hcell : w.cell? ⟨b, 0, none⟩ = some v := by
    rw [cell_of hc, ← Array.getElem?_toList, hcv]; rfl
  have hI : WSeq.Ints w.heap.size w v l := by
    obtain ⟨ad, cap, rfl, h1, h2, h3⟩ := hm.holds (.arr v 3 1 (l.map AV.int)) (List.mem_cons_of_mem _ List.mem_cons_self)
    rw [List.length_map] at *
    rcases h3 with ⟨rfl, h3⟩ | ⟨g, off, cu, lo, hi, rfl, hg, hsz, hfr, he⟩
    · have : l = [] := List.eq_nil_of_length_eq_zero (by omega)
      subst this
      exact .inl ⟨_, _, rfl, rfl⟩
    · refine .inr ⟨g, off, cap, rfl, heap_lt hg, fun j hj => ?_⟩
      have hti := RepE.toInts he
      have h5 : ((cu.toList.drop off).take l.length)[j]? = (l.map (Value.int .i64))[j]? := by rw [hti]
      rw [List.getElem?_take_of_lt hj, List.getElem?_drop, Array.getElem?_toList] at h5
      rw [cell_of hg, h5]; simp [hj]
  have h := WSeq.sorted b v l (by have : (1048576 : Nat) ≤ maxLen := by decide
                                  omega) (by omega) w hcell (heap_lt hc) hI
  rw [← srt_len l] at h
  exact h

theorem c_Compact (v : Value) (l : List Int) (hs : l.Pairwise (· ≤ ·)) (hl : l.length ≤ 1048576) : FnC Tryz.prog 45 [.lit v] [.arr v 3 1 (l.map AV.int)] (fun r M => ∃ v', r = .lit v' ∧ M = [.arr v' 3 1 ((Go.Lib.compact l).map AV.int)]) := by
  have hcl := compact_len l hs
  have h := FnC.row (P := Tryz.prog) (f := 45) (I := 3) (v := v) (l := l) (CallOk.of Tryz.func45 (by kernel_rfl) (by kernel_rfl)) (Go.Lib.compact l ++ List.replicate (l.length - (Go.Lib.compact l).length) 0) (by rw [List.length_append, List.length_replicate]; omega) (Go.Lib.compact l).length hcl (fun ad cap => .slice ad (Go.Lib.compact l).length cap)
    (fun h0 ad cap w => by subst h0; exact Go.Proofs.Tryz.slices_Compact_int_empty ad cap w)
    (fun _ g off cap w hH hg h1 h2 => (Go.Proofs.Tryz.slices_Compact_int g off cap l w hH (by omega) h1).mono fun e w' ⟨he, q, hw⟩ => ⟨he, q, #[], by rw [hw, Go.Sort.grow_empty]⟩)
  refine h.mono ?_
  rintro r M ⟨ad, cap, hv, rfl, rfl⟩
  refine ⟨_, rfl, ?_⟩
  rw [List.take_append_of_le_length (Nat.le_refl _), List.take_length]

theorem c_Itoa0 (n : Int) (h0 : 0 ≤ n) (h1 : n < 100) (M0 : List ME) : FnC Tryz.prog 68 [.int n] M0 (fun r M => r = .str (itoa n) ∧ M = M0) := by
  refine FnC.belowM (CallOk.of Tryz.func68 (by kernel_rfl) (by kernel_rfl)) fun w F vs hm ha => ?_
  simp only [RepT] at ha
  obtain ⟨v0, _, rfl, ⟨hs0, hr0⟩, rfl⟩ := ha
  have e0 : v0 = _ := Rep.lit_iff.1 (show Rep w _ (.int n) v0 from ⟨hs0, hr0⟩)
  subst e0
  obtain ⟨i, rfl⟩ : ∃ i : Nat, n = (i : Int) := ⟨n.toNat, by omega⟩
  refine (Go.Proofs.Tryz.strconv_Itoa_small i (by omega) w).mono ?_
  rintro e w' ⟨he, hw⟩
  subst hw
  refine ⟨_, he, ?_, Go.RowKit.Below.refl _ _⟩
  rw [← itoa_lib _ (by omega) h1, Go.Lib.itoa, if_neg (by omega), Int.toNat_natCast]
  exact Rep.lit _
theorem c_ItoaT (T0 : TypeId) (n : Int) (h0 : -1 ≤ n) (h1 : n < 100) : FnC Tryz.prog 68 [.int n] [.box 1 T0 (Go.Lib.pow10Tab.map fun z => AV.lit (.int .u64 z))] (fun r M => r = .str (itoa n) ∧ M = [.box 1 T0 (Go.Lib.pow10Tab.map fun z => AV.lit (.int .u64 z))]) := by
  refine FnC.belowM (CallOk.of Tryz.func68 (by kernel_rfl) (by kernel_rfl)) fun w F vs hm ha => ?_
  simp only [RepT] at ha
  obtain ⟨v0, _, rfl, ⟨hs0, hr0⟩, rfl⟩ := ha
  have e0 : v0 = _ := Rep.lit_iff.1 (show Rep w _ (.int n) v0 from ⟨hs0, hr0⟩)
  subst e0
  obtain ⟨cur, hc, hrl⟩ := hm.holds _ List.mem_cons_self
  have hrow : ∀ (zs : List Int) (row : List Value), RepL w (bl [.box 1 T0 (Go.Lib.pow10Tab.map fun z => AV.lit (.int .u64 z))] ++ F) (zs.map fun z => AV.lit (.int .u64 z)) row → row = zs.map fun z => Value.int .u64 z := by
    intro zs
    induction zs with
    | nil => intro row h; simpa [RepL] using h
    | cons z zs ih =>
      intro row h
      simp only [List.map_cons, RepL] at h
      obtain ⟨u, us, rfl, ⟨h1, h2, h3⟩, h4⟩ := h
      have hu : u = .int .u64 z := lit_cell h1 h3
      rw [hu, List.map_cons, ih us h4]
  have htab : Go.Lib.TabIs Tryz.prog w "internal/strconv.uint64pow10" .u64 Go.Lib.pow10Tab := by
    have hg : Tryz.prog.globalNamed "internal/strconv.uint64pow10" = some 1 := by kernel_rfl
    unfold Go.Lib.TabIs World.var?
    rw [hg, Option.bind_some, hc]
    show some cur = _
    congr 1
    exact Array.toList_inj.1 (by rw [hrow _ _ hrl])
  refine (Go.Proofs.Tryz.strconv_Itoa n (by omega) (by omega) w htab).mono ?_
  rintro e w' ⟨he, k, os, hw⟩
  subst hw
  refine ⟨_, he, ?_, ⟨rfl, rfl, rfl, by simp [Go.Sort.grow], fun j hj => (Go.Sort.heap_grow_old (w.drewN k) os hj).trans rfl⟩⟩
  rw [itoa_lib n h0 h1]
  exact Rep.lit _

end WNorm

end Go.Proofs.YtacaemfkdieocaaGreatDoor
end
