/-
  Merged: Vl Fn Ev Law Bulk Ints Srs Mem Draw Arr DrawE DrawM.
-/
import Derived.WalkKit
import Derived.Lib.Strings
import Derived.ProofKit
import Derived.OpenShut
import Derived.ShutString
import Derived.ChangeOld
import Derived.Below
import Derived.JoinedCond
import Derived.Test.YtgjndpgcpohnoaaGreatDoorRows
import Derived.ChangeSlices
import Derived.SliceStrings

section
set_option linter.unusedVariables false
set_option linter.unusedSimpArgs false
set_option linter.unusedSectionVars false
namespace Go.Vl

/-- What a value stands for. -/
inductive AV where
  | lit (v : Value)
  | agg (cs : List AV)
  | tup (vs : List AV)
  | sl (k : Nat) (es : List AV)
  | eptr (cs : List AV)
  | aptr (v : Value) (j : Nat)

/-- 0: one cell; 1: a struct or an array; 2: several results. -/
def shV : Value → Nat
  | .agg _ => 1
  | .tuple _ => 2
  | _ => 0

def AV.sh : AV → Nat
  | .lit u => shV u
  | .agg _ => 1
  | .tup _ => 2
  | _ => 0

def AV.cells : AV → List AV
  | .agg cs => cs
  | .lit (.agg us) => us.toList.map .lit
  | x => [x]

mutual
/-- 'row' are the cells of a value that stands for the first argument, in world w, by blocks that are none of N. -/
def RepC (w : World) (N : List Nat) : AV → List Value → Prop
  | .lit u, row => row = u.cells.toList
  | .agg cs, row => RepL w N cs row
  | .tup vs, row => ∃ us, row = [.tuple us] ∧ RepT w N vs us.toList
  | .sl k es, row => ∃ a cap, row = [.slice a es.length cap] ∧ es.length ≤ cap ∧ cap ≤ maxLen ∧
      (es = [] ∨ ∃ b off cur T fr, a = some ⟨b, off, none⟩ ∧ b ∉ N ∧ w.heap[b]? = some (.cells cur T fr) ∧ RepE w N k es (cur.toList.drop off))
  | .eptr cs, row => ∃ b off cur T fr, row = [.pointer (some ⟨b, off, none⟩)] ∧ b ∉ N ∧ w.heap[b]? = some (.cells cur T fr) ∧
      RepL w N cs ((cur.toList.drop off).take cs.length)
  | .aptr v j, row => ∃ g off n cap, v = .slice (some ⟨g, off, none⟩) n cap ∧ row = [.pointer (some ⟨g, off + j, none⟩)]
/-- One cell each. -/
def RepL (w : World) (N : List Nat) : List AV → List Value → Prop
  | [], row => row = []
  | c :: cs, row => ∃ v vs, row = v :: vs ∧ (c.sh = 0 ∧ shV v = 0 ∧ RepC w N c [v]) ∧ RepL w N cs vs
/-- One value each. -/
def RepT (w : World) (N : List Nat) : List AV → List Value → Prop
  | [], row => row = []
  | c :: cs, row => ∃ v vs, row = v :: vs ∧ (c.sh = shV v ∧ RepC w N c v.cells.toList) ∧ RepT w N cs vs
/-- k cells each, from the row's head on. -/
def RepE (w : World) (N : List Nat) (k : Nat) : List AV → List Value → Prop
  | [], _ => True
  | e :: es, row => k ≤ row.length ∧ RepC w N e (row.take k) ∧ RepE w N k es (row.drop k)
end

def Rep (w : World) (N : List Nat) (av : AV) (v : Value) : Prop := av.sh = shV v ∧ RepC w N av v.cells.toList

section keep
variable {w w' : World} {N N' : List Nat}
/-- What is not among the mutable blocks stays. -/
def Keep (w : World) (N : List Nat) (w' : World) (N' : List Nat) : Prop :=
  ∀ b c T fr, b ∉ N → w.heap[b]? = some (.cells c T fr) → b ∉ N' ∧ w'.heap[b]? = some (.cells c T fr)

mutual
theorem RepC.keep (h : Keep w N w' N') : ∀ (av : AV) (row : List Value), RepC w N av row → RepC w' N' av row
  | .lit u, row, hr => by simpa only [RepC] using hr
  | .agg cs, row, hr => by simp only [RepC] at hr ⊢; exact RepL.keep h cs row hr
  | .tup vs, row, hr => by
    simp only [RepC] at hr ⊢
    obtain ⟨us, e, ht⟩ := hr
    exact ⟨us, e, RepT.keep h vs _ ht⟩
  | .sl k es, row, hr => by
    simp only [RepC] at hr ⊢
    obtain ⟨a, cap, e, h1, h2, h3⟩ := hr
    refine ⟨a, cap, e, h1, h2, ?_⟩
    rcases h3 with h3 | ⟨b, off, cur, T, fr, ha, hb, hc, he⟩
    · exact .inl h3
    · obtain ⟨hb', hc'⟩ := h _ _ _ _ hb hc
      exact .inr ⟨b, off, cur, T, fr, ha, hb', hc', RepE.keep h k es _ he⟩
  | .eptr cs, row, hr => by
    simp only [RepC] at hr ⊢
    obtain ⟨b, off, cur, T, fr, e, hb, hc, hl⟩ := hr
    obtain ⟨hb', hc'⟩ := h _ _ _ _ hb hc
    exact ⟨b, off, cur, T, fr, e, hb', hc', RepL.keep h cs _ hl⟩
  | .aptr v j, row, hr => by simpa only [RepC] using hr
theorem RepL.keep (h : Keep w N w' N') : ∀ (cs : List AV) (row : List Value), RepL w N cs row → RepL w' N' cs row
  | [], row, hr => by simpa only [RepL] using hr
  | c :: cs, row, hr => by
    simp only [RepL] at hr ⊢
    obtain ⟨v, vs, e, ⟨h1, h2, h3⟩, h4⟩ := hr
    exact ⟨v, vs, e, ⟨h1, h2, RepC.keep h c _ h3⟩, RepL.keep h cs vs h4⟩
theorem RepT.keep (h : Keep w N w' N') : ∀ (cs : List AV) (row : List Value), RepT w N cs row → RepT w' N' cs row
  | [], row, hr => by simpa only [RepT] using hr
  | c :: cs, row, hr => by
    simp only [RepT] at hr ⊢
    obtain ⟨v, vs, e, ⟨h1, h3⟩, h4⟩ := hr
    exact ⟨v, vs, e, ⟨h1, RepC.keep h c _ h3⟩, RepT.keep h cs vs h4⟩
theorem RepE.keep (h : Keep w N w' N') (k : Nat) : ∀ (es : List AV) (row : List Value), RepE w N k es row → RepE w' N' k es row
  | [], row, hr => by simp only [RepE]
  | e :: es, row, hr => by
    simp only [RepE] at hr ⊢
    exact ⟨hr.1, RepC.keep h e _ hr.2.1, RepE.keep h k es _ hr.2.2⟩
end

theorem Rep.keep (h : Keep w N w' N') {av : AV} {v : Value} (hr : Rep w N av v) : Rep w' N' av v := ⟨hr.1, RepC.keep h _ _ hr.2⟩
theorem Keep.refl (w : World) (N : List Nat) : Keep w N w N := fun _ _ _ _ hb hc => ⟨hb, hc⟩
end keep

theorem Rep.lit_iff {w : World} {N : List Nat} {u v : Value} : Rep w N (.lit u) v ↔ v = u := by
  constructor
  · rintro ⟨h1, h2⟩
    simp only [AV.sh, RepC] at h1 h2
    cases u <;> cases v <;> simp_all [shV, Value.cells]
  · rintro rfl
    exact ⟨rfl, by simp only [RepC]⟩
theorem Rep.lit {w : World} {N : List Nat} (u : Value) : Rep w N (.lit u) u := Rep.lit_iff.2 rfl

/-- A mutable block. -/
inductive ME where
  | box (b : Nat) (T : TypeId) (cs : List AV)
  | arr (v : Value) (T : TypeId) (k : Nat) (es : List AV)
  | obj (b : Nat) (o : Obj)
  /-- a block that nobody turns: only what it holds is known -/
  | shr (b : Nat) (T : TypeId) (cs : List AV)

def ME.blks : ME → List Nat
  | .box b _ _ => [b]
  | .arr (.slice (some a) _ _) _ _ _ => [a.block]
  | .arr _ _ _ _ => []
  | .obj b _ => [b]
  | .shr _ _ _ => []

def bl (M : List ME) : List Nat := M.flatMap ME.blks

def ME.holds (w : World) (N : List Nat) : ME → Prop
  | .box b T cs => ∃ cur, w.heap[b]? = some (.cells cur T (0, 0)) ∧ RepL w N cs cur.toList
  | .arr v T k es => ∃ a cap, v = .slice a es.length cap ∧ es.length ≤ cap ∧ cap ≤ maxLen ∧
      ((a = none ∧ cap = 0) ∨ ∃ g off cur lo hi, a = some ⟨g, off, none⟩ ∧ w.heap[g]? = some (.cells cur T (lo, hi)) ∧ off + cap * k ≤ cur.size ∧
        (hi ≤ lo ∨ off + cap * k ≤ lo) ∧ RepE w N k es (cur.toList.drop off))
  | .obj b o => w.heap[b]? = some o ∧ (∀ c T fr, o ≠ .cells c T fr)
  | .shr b T cs => b ∉ N ∧ ∃ cur, w.heap[b]? = some (.cells cur T (0, 0)) ∧ RepL w N cs cur.toList

/-- F: blocks that are a caller's own: they are met by nothing here. -/
structure MOk (w : World) (M : List ME) (F : List Nat) : Prop where
  nodup : (bl M).Nodup
  apart : ∀ b ∈ bl M, b ∉ F
  holds : ∀ m ∈ M, m.holds w (bl M ++ F)

/-- From w0 (with mutable blocks N0) to w (with mutable blocks N): nothing else has turned. -/
structure Fr (w0 : World) (N0 : List Nat) (w : World) (N : List Nat) : Prop where
  os : w.os = w0.os
  tape : w.tape = w0.tape
  output : w.output = w0.output
  size : w0.heap.size ≤ w.heap.size
  block : ∀ k, k < w0.heap.size → k ∉ N0 → w.heap[k]? = w0.heap[k]? ∧ k ∉ N

theorem Fr.refl (w : World) (N : List Nat) : Fr w N w N := ⟨rfl, rfl, rfl, Nat.le_refl _, fun _ _ h => ⟨rfl, h⟩⟩

structure Cx where
  P : Program
  n : Nat
  w0 : World
  N0 : List Nat
  F : List Nat

def look : List (Tmp × Bool × AV) → Tmp → Option (Bool × AV)
  | [], _ => none
  | (u, p) :: r, t => bif Nat.beq u t then some p else look r t

structure St (x : Cx) (L : List (Tmp × Bool × AV)) (M : List ME) (a : Act) (w : World) : Prop where
  defers : a.defers = []
  size : a.tmps.size = x.n
  slots : ∀ t g av, look L t = some (g, av) → (g = true → Rep w (bl M ++ x.F) av (a.tmps.getD t undef)) ∧ (g = false → a.tmps.getD t undef = undef)
  mem : MOk w M x.F
  fr : Fr x.w0 x.N0 w (bl M)
  old : ∀ b ∈ x.F, b < x.w0.heap.size

/-- THE JUDGEMENT: whatever fits L and M fits R. -/
def W (x : Cx) (L : List (Tmp × Bool × AV)) (M : List ME) (R : Act → World → Prop) : Prop := ∀ a w, St x L M a w → R a w

theorem look_cons (u t : Tmp) (p : Bool × AV) (r : List (Tmp × Bool × AV)) : look ((u, p) :: r) t = if u = t then some p else look r t := by
  simp only [look]
  by_cases h : u = t
  · subst h; simp
  · have : Nat.beq u t = false := by
      cases hb : Nat.beq u t with
      | false => rfl
      | true => exact absurd (Nat.eq_of_beq_eq_true hb) h
    simp [this, h]

/-- An operand's value. -/
def Ov (g : Bool) (L : List (Tmp × Bool × AV)) : Operand → AV → Prop
  | .tmp t, av => ∃ g', look L t = some (g', av) ∧ (g = true → g' = true)
  | .const v, av => av = .lit v ∨ (∃ k, v = .slice none 0 0 ∧ av = .sl k [])
  | .func f, av => av = .lit (.func (.func f) #[] #[])
  | .global i, av => av = .lit (.pointer (some ⟨i, 0, none⟩))

section ov
variable {g : Bool} {L : List (Tmp × Bool × AV)}
theorem Ov.t {t : Tmp} {av : AV} (h : look L t = some (true, av)) : Ov g L (.tmp t) av := ⟨true, h, fun _ => rfl⟩
theorem Ov.c {t : Tmp} {av : AV} (h : look L t = some (g, av)) : Ov g L (.tmp t) av := ⟨g, h, fun h => h⟩
theorem Ov.i {t : Tmp} {av : AV} {g' : Bool} (h : look L t = some (g', av)) (hi : g = true → g' = true) : Ov g L (.tmp t) av := ⟨g', h, hi⟩
theorem Ov.k {v : Value} : Ov g L (.const v) (.lit v) := .inl rfl
theorem Ov.kn {k : Nat} : Ov g L (.const (.slice none 0 0)) (.sl k []) := .inr ⟨k, rfl, rfl⟩
theorem Ov.f {f : FuncId} : Ov g L (.func f) (.lit (.func (.func f) #[] #[])) := rfl
theorem Rep.nil (w : World) (N : List Nat) (k : Nat) : Rep w N (.sl k []) (.slice none 0 0) :=
  ⟨rfl, by simp only [RepC]; exact ⟨none, 0, rfl, Nat.le_refl _, by simp [maxLen], .inl trivial⟩⟩

theorem Ov.rep {x : Cx} {M : List ME} {o : Operand} {av : AV} (h : Ov g L o av) (hg : g = true) {a : Act} {w : World} (hs : St x L M a w) : Rep w (bl M ++ x.F) av (a.eval o) := by
  cases o with
  | tmp t =>
    obtain ⟨g', hl, hi⟩ := h
    exact (hs.slots t g' av hl).1 (hi hg)
  | const v =>
    rcases h with rfl | ⟨k, rfl, rfl⟩
    · exact Rep.lit v
    · exact Rep.nil _ _ _
  | func f => cases h; exact Rep.lit _
  | global i => cases h; exact Rep.lit _
theorem Ov.lit {x : Cx} {M : List ME} {o : Operand} {v : Value} (h : Ov g L o (.lit v)) (hg : g = true) {a : Act} {w : World} (hs : St x L M a w) : a.eval o = v :=
  Rep.lit_iff.1 (h.rep hg hs)
end ov

section put
variable {x : Cx} {L : List (Tmp × Bool × AV)} {M : List ME} {a : Act} {w : World}

theorem getD_put_same (a : Act) (d : Tmp) (v : Value) (h : d < a.tmps.size) : (a.put (some d) v).tmps.getD d undef = v := by
  simp [Act.put, Array.getD_eq_getD_getElem?, h]
theorem getD_put_other (a : Act) (d t : Tmp) (v : Value) (h : d ≠ t) : (a.put (some d) v).tmps.getD t undef = a.tmps.getD t undef := by
  simp [Act.put, Array.getD_eq_getD_getElem?, Array.getElem?_setIfInBounds, h]

/-- A slot is written; the world has not turned. -/
theorem St.put (hs : St x L M a w) {d : Tmp} (hd : Nat.blt d x.n = true) (g : Bool) (av : AV) (v : Value) (h1 : g = true → Rep w (bl M ++ x.F) av v) (h0 : g = false → v = undef) :
    St x ((d, g, av) :: L) M (a.put (some d) v) w := by
  have hd' : d < a.tmps.size := by rw [hs.size]; simpa [Nat.blt_eq] using hd
  refine ⟨hs.defers, by simp [Act.put, hs.size], ?_, hs.mem, hs.fr, hs.old⟩
  intro t g' av' hl
  rw [look_cons] at hl
  by_cases e : d = t
  · subst e
    rw [if_pos rfl] at hl
    cases hl
    rw [getD_put_same a d v hd']
    exact ⟨h1, h0⟩
  · rw [if_neg e] at hl
    rw [getD_put_other a d t v e]
    exact hs.slots t g' av' hl

/-- The world turns; what is known of the slots stays. -/
theorem St.world (hs : St x L M a w) {w' : World} {M' : List ME} (hk : Keep w (bl M ++ x.F) w' (bl M' ++ x.F)) (hm : MOk w' M' x.F) (hf : Fr x.w0 x.N0 w' (bl M')) : St x L M' a w' :=
  ⟨hs.defers, hs.size, fun t g av hl => ⟨fun hg => ((hs.slots t g av hl).1 hg).keep hk, (hs.slots t g av hl).2⟩, hm, hf, hs.old⟩
end put

/-! ### A region's operations -/
section regions
variable {x : Cx} {L : List (Tmp × Bool × AV)} {M : List ME} {ops : Array Oper} {Q : Exit → Act → World → Prop} {rest : List Oper}

/-- A quiet operation's value: it turns nothing. -/
def Ev (x : Cx) (g : Bool) (L : List (Tmp × Bool × AV)) (M : List ME) (op : Op) (ty : TypeId) (av : AV) : Prop :=
  ∀ a w, St x L M a w → g = true → ∃ v, (execOp a.eval ⟨none, op, ty, "", #[], none⟩).run x.P w = .ok (.value v) w ∧ Rep w (bl M ++ x.F) av v

theorem execOp_bare (ρ : Operand → Value) (d : Option Tmp) (op : Op) (ty : TypeId) (pos : String) (aft : Array Edge) (g : Option (Nat × Bool)) :
    execOp ρ ⟨d, op, ty, pos, aft, g⟩ = execOp ρ ⟨none, op, ty, "", #[], none⟩ := rfl

theorem wpList_cons_want {P : Program} {o : Oper} {a : Act} {w : World} (hw : Region.wanted o (yielded ops a.tmps) = true) (h : o.wp P a w (wpList P ops Q rest) Q) : wpList P ops Q (o :: rest) a w := by
  unfold wpList
  rw [if_pos hw]
  exact .inl h
theorem wpList_cons_skip {P : Program} {o : Oper} {a : Act} {w : World} (hw : Region.wanted o (yielded ops a.tmps) = false) (h : wpList P ops Q rest (a.put o.dst undef) w) : wpList P ops Q (o :: rest) a w := by
  unfold wpList
  rw [if_neg (by simp [hw])]
  exact h

theorem W.q {d : Tmp} {op : Op} {ty : TypeId} {pos : String} {aft : Array Edge} {av : AV} (he : Ev x true L M op ty av) (hd : Nat.blt d x.n = true)
    (next : W x ((d, true, av) :: L) M (wpList x.P ops Q rest)) : W x L M (wpList x.P ops Q (⟨some d, op, ty, pos, aft, none⟩ :: rest)) := by
  intro a w hs
  obtain ⟨v, hr, hv⟩ := he a w hs rfl
  refine wpList_cons_want (by simp [Region.wanted]) ?_
  unfold Oper.wp
  rw [execOp_bare, hr]
  exact next _ _ (hs.put hd true av v (fun _ => hv) (by simp))

theorem yielded_of {ops : Array Oper} {tmps : Array Value} {j : Nat} {t : Tmp} (hj : (ops[j]?).bind (·.dst) = some t) (b : Bool) (h : tmps.getD t undef = .bool b) : yielded ops tmps j = some b := by
  unfold yielded
  rw [hj]
  simp only [Option.bind_some]
  rw [Array.getD_eq_getD_getElem?] at h
  cases e : tmps[t]? with
  | none => rw [e] at h; simp [undef] at h
  | some v => rw [e] at h; simp at h; subst h; rfl
theorem yielded_undef {ops : Array Oper} {tmps : Array Value} {j : Nat} {t : Tmp} (hj : (ops[j]?).bind (·.dst) = some t) (h : tmps.getD t undef = undef) : yielded ops tmps j = none := by
  unfold yielded
  rw [hj]
  simp only [Option.bind_some]
  rw [Array.getD_eq_getD_getElem?] at h
  cases e : tmps[t]? with
  | none => rfl
  | some v => rw [e] at h; simp at h; subst h; rfl

/-- what a guard comes to -/
theorem guard_of {d : Option Tmp} {op : Op} {ty : TypeId} {pos : String} {aft : Array Edge} {j : Nat} {want : Bool} {t : Tmp} {gb b : Bool} (hj : (ops[j]?).bind (·.dst) = some t) (hl : look L t = some (gb, .lit (.bool b)))
    {a : Act} {w : World} (hs : St x L M a w) : Region.wanted ⟨d, op, ty, pos, aft, some (j, want)⟩ (yielded ops a.tmps) = (gb && (b == want)) := by
  have h := hs.slots t gb _ hl
  cases gb with
  | true =>
    show (yielded ops a.tmps j == some want) = _
    rw [yielded_of hj b (Rep.lit_iff.1 (h.1 rfl))]
    cases b <;> cases want <;> rfl
  | false =>
    show (yielded ops a.tmps j == some want) = _
    rw [yielded_undef hj (h.2 rfl)]
    rfl

/-- A guarded quiet operation: its value counts where the guard says so. -/
theorem W.qgg {d : Tmp} {op : Op} {ty : TypeId} {pos : String} {aft : Array Edge} {av : AV} {j : Nat} {want : Bool} {t : Tmp} {gb b G : Bool} (hj : (ops[j]?).bind (·.dst) = some t) (hl : look L t = some (gb, .lit (.bool b)))
    (hG : G = (gb && (b == want))) (he : Ev x G L M op ty av) (hd : Nat.blt d x.n = true)
    (next : W x ((d, G, av) :: L) M (wpList x.P ops Q rest)) : W x L M (wpList x.P ops Q (⟨some d, op, ty, pos, aft, some (j, want)⟩ :: rest)) := by
  intro a w hs
  have hw := guard_of (d := some d) (op := op) (ty := ty) (pos := pos) (aft := aft) (want := want) hj hl hs
  rw [← hG] at hw
  cases hGv : G with
  | true =>
    obtain ⟨v, hr, hv⟩ := he a w hs hGv
    refine wpList_cons_want (by rw [hw, hGv]) ?_
    unfold Oper.wp
    rw [execOp_bare, hr]
    have := next _ _ (hs.put hd G av v (fun _ => hv) (by simp [hGv]))
    exact this
  | false =>
    refine wpList_cons_skip (by rw [hw, hGv]) ?_
    exact next _ _ (hs.put hd G av undef (by simp [hGv]) (fun _ => rfl))
theorem W.qgT {d : Tmp} {op : Op} {ty : TypeId} {pos : String} {aft : Array Edge} {av : AV} {j : Nat} {t : Tmp} {b : Bool} (hj : (ops[j]?).bind (·.dst) = some t) (hl : look L t = some (true, .lit (.bool b)))
    (he : Ev x b L M op ty av) (hd : Nat.blt d x.n = true)
    (next : W x ((d, b, av) :: L) M (wpList x.P ops Q rest)) : W x L M (wpList x.P ops Q (⟨some d, op, ty, pos, aft, some (j, true)⟩ :: rest)) :=
  W.qgg hj hl (by simp) he hd next
theorem W.qgF {d : Tmp} {op : Op} {ty : TypeId} {pos : String} {aft : Array Edge} {av : AV} {j : Nat} {t : Tmp} {b : Bool} (hj : (ops[j]?).bind (·.dst) = some t) (hl : look L t = some (true, .lit (.bool b)))
    (he : Ev x (!b) L M op ty av) (hd : Nat.blt d x.n = true)
    (next : W x ((d, !b, av) :: L) M (wpList x.P ops Q rest)) : W x L M (wpList x.P ops Q (⟨some d, op, ty, pos, aft, some (j, false)⟩ :: rest)) :=
  W.qgg hj hl (by simp) he hd next
theorem W.qgT' {d : Tmp} {op : Op} {ty : TypeId} {pos : String} {aft : Array Edge} {av : AV} {j : Nat} {t : Tmp} {gb b : Bool} (hj : (ops[j]?).bind (·.dst) = some t) (hl : look L t = some (gb, .lit (.bool b)))
    (he : Ev x (gb && b) L M op ty av) (hd : Nat.blt d x.n = true)
    (next : W x ((d, gb && b, av) :: L) M (wpList x.P ops Q rest)) : W x L M (wpList x.P ops Q (⟨some d, op, ty, pos, aft, some (j, true)⟩ :: rest)) :=
  W.qgg hj hl (by simp) he hd next
theorem W.qgF' {d : Tmp} {op : Op} {ty : TypeId} {pos : String} {aft : Array Edge} {av : AV} {j : Nat} {t : Tmp} {gb b : Bool} (hj : (ops[j]?).bind (·.dst) = some t) (hl : look L t = some (gb, .lit (.bool b)))
    (he : Ev x (gb && !b) L M op ty av) (hd : Nat.blt d x.n = true)
    (next : W x ((d, gb && !b, av) :: L) M (wpList x.P ops Q rest)) : W x L M (wpList x.P ops Q (⟨some d, op, ty, pos, aft, some (j, false)⟩ :: rest)) :=
  W.qgg hj hl (by simp) he hd next

/-- A guard that is known: the operation stands as_ if it had none, or is passed over. -/
theorem W.gyes {d : Option Tmp} {op : Op} {ty : TypeId} {pos : String} {aft : Array Edge} {j : Nat} {want : Bool} {t : Tmp} (hj : (ops[j]?).bind (·.dst) = some t) (hl : look L t = some (true, .lit (.bool want)))
    (next : W x L M (wpList x.P ops Q (⟨d, op, ty, pos, aft, none⟩ :: rest))) : W x L M (wpList x.P ops Q (⟨d, op, ty, pos, aft, some (j, want)⟩ :: rest)) := by
  intro a w hs
  have hw := guard_of (d := d) (op := op) (ty := ty) (pos := pos) (aft := aft) (want := want) hj hl hs
  have h := next a w hs
  unfold wpList at h ⊢
  rw [if_pos (by rw [hw]; simp)]
  rw [if_pos (by simp [Region.wanted])] at h
  exact h
theorem W.region {id : Nat} {l : List Oper} (h : W x L M (wpList x.P l.toArray Q l)) : W x L M (Code.wp x.P (.region id l.toArray false) Q) :=
  fun a w hs => wp_region_lit (h a w hs)
theorem W.nil (h : W x L M (Q .normal)) : W x L M (wpList x.P ops Q []) := fun a w hs => h a w hs
end regions

/-! ### Code -/
section code
variable {x : Cx} {L : List (Tmp × Bool × AV)} {M : List ME} {Q : Exit → Act → World → Prop}
theorem W.seq {c d : Code} (h : W x L M (Code.wp x.P c (Exit.then (Code.wp x.P d Q) Q))) : W x L M (Code.wp x.P (.seq c d) Q) := fun a w hs => wp_seq (h a w hs)
theorem W.then {K : Act → World → Prop} (h : W x L M K) : W x L M (Exit.then K Q .normal) := h
theorem W.then_ret {K : Act → World → Prop} (h : W x L M (Q .ret)) : W x L M (Exit.then K Q .ret) := h
theorem W.then_exit {K : Act → World → Prop} {id : Nat} (h : W x L M (Q (.exit id))) : W x L M (Exit.then K Q (.exit id)) := h
theorem W.blk_normal {id : Nat} (h : W x L M (Q .normal)) : W x L M (Exit.inBlock id Q .normal) := h
theorem W.blk_ret {id : Nat} (h : W x L M (Q .ret)) : W x L M (Exit.inBlock id Q .ret) := h
theorem W.blk_hit {id : Nat} (h : W x L M (Q .normal)) : W x L M (Exit.inBlock id Q (.exit id)) := fun a w hs => by simpa [Exit.inBlock] using h a w hs
theorem W.blk_miss {id id' : Nat} (hne : Nat.beq id' id = false) (h : W x L M (Q (.exit id'))) : W x L M (Exit.inBlock id Q (.exit id')) := fun a w hs => by
  have : id' ≠ id := fun e => by subst e; simp at hne
  simpa [Exit.inBlock, this] using h a w hs
theorem W.skip (h : W x L M (Q .normal)) : W x L M (Code.wp x.P .skip Q) := fun a w hs => wp_skip (h a w hs)
theorem W.exit {id : Nat} (h : W x L M (Q (.exit id))) : W x L M (Code.wp x.P (.exit id) Q) := fun a w hs => wp_exit (h a w hs)
theorem W.ret (h : W x L M (Q .ret)) : W x L M (Code.wp x.P .ret Q) := fun a w hs => wp_ret (h a w hs)
theorem W.block {id : Nat} {c : Code} (h : W x L M (Code.wp x.P c (Exit.inBlock id Q))) : W x L M (Code.wp x.P (.block id c) Q) := fun a w hs => wp_block (h a w hs)
theorem W.cond {c : Operand} {y z : Code} {b : Bool} (hc : Ov true L c (.lit (.bool b))) (ht : b = true → W x L M (Code.wp x.P y Q)) (hf : b = false → W x L M (Code.wp x.P z Q)) :
    W x L M (Code.wp x.P (.cond c y z) Q) := fun a w hs => by
  have h := hc.lit rfl hs
  cases b with
  | true => exact wp_cond_true h (ht rfl a w hs)
  | false => exact wp_cond_false h (hf rfl a w hs)
theorem W.condT {c : Operand} {y z : Code} (hc : Ov true L c (.lit (.bool true))) (ht : W x L M (Code.wp x.P y Q)) : W x L M (Code.wp x.P (.cond c y z) Q) :=
  W.cond hc (fun _ => ht) (fun h => by cases h)
theorem W.condF {c : Operand} {y z : Code} (hc : Ov true L c (.lit (.bool false))) (hf : W x L M (Code.wp x.P z Q)) : W x L M (Code.wp x.P (.cond c y z) Q) :=
  W.cond hc (fun h => by cases h) (fun _ => hf)
end code

/-! ### Less is known; a point that several ways come to; loops -/
/-- What L' says, L says. -/
def Sub (L : List (Tmp × Bool × AV)) : List (Tmp × Bool × AV) → Prop
  | [] => True
  | (t, p) :: r => look L t = some p ∧ Sub L r

section weaken
variable {x : Cx} {L L' : List (Tmp × Bool × AV)} {M M' D : List ME} {R : Act → World → Prop}
theorem Sub.look : ∀ {L' : List (Tmp × Bool × AV)}, Sub L L' → ∀ t p, look L' t = some p → look L t = some p
  | [], _, t, p, h => by cases h
  | (u, q) :: r, hs, t, p, h => by
    rw [look_cons] at h
    by_cases e : u = t
    · subst e; rw [if_pos rfl] at h; cases h; exact hs.1
    · rw [if_neg e] at h; exact Sub.look hs.2 t p h

theorem bl_append (M M' : List ME) : bl (M ++ M') = bl M ++ bl M' := by simp [bl]
theorem bl_perm {M M' : List ME} (h : List.Perm M M') : List.Perm (bl M) (bl M') := List.Perm.flatMap_right _ h

theorem ME.holds_keep {w w' : World} {N N' : List Nat} (hk : Keep w N w' N') {m : ME} (hb : ∀ b ∈ m.blks, w'.heap[b]? = w.heap[b]?) (h : m.holds w N) : m.holds w' N' := by
  cases m with
  | box b T cs =>
    obtain ⟨cur, hc, hr⟩ := h
    exact ⟨cur, (hb b (by simp [ME.blks])).trans hc, RepL.keep hk _ _ hr⟩
  | arr v T k es =>
    obtain ⟨a, cap, e, h1, h2, h3⟩ := h
    refine ⟨a, cap, e, h1, h2, ?_⟩
    rcases h3 with h3 | ⟨g, off, cur, lo, hi, ha, hc, hsz, hfr, he⟩
    · exact .inl h3
    · subst ha
      exact .inr ⟨g, off, cur, lo, hi, rfl, (hb g (by subst e; simp [ME.blks])).trans hc, hsz, hfr, RepE.keep hk _ _ _ he⟩
  | obj b o => exact ⟨(hb b (by simp [ME.blks])).trans h.1, h.2⟩
  | shr b T cs =>
    obtain ⟨hn, cur, hc, hr⟩ := h
    obtain ⟨hn', hc'⟩ := hk _ _ _ _ hn hc
    exact ⟨hn', cur, hc', RepL.keep hk _ _ hr⟩

/-- Fewer mutable blocks are known: those that are dropped count as_ immutable from here on. -/
theorem MOk.sub {w : World} {F : List Nat} (h : MOk w M F) (hp : List.Perm M (M' ++ D)) : MOk w M' F ∧ Keep w (bl M ++ F) w (bl M' ++ F) ∧ (∀ b, b ∈ bl M' → b ∈ bl M) := by
  have hpb := bl_perm hp
  rw [bl_append] at hpb
  have hsub : ∀ b, b ∈ bl M' → b ∈ bl M := fun b hb => hpb.mem_iff.2 (List.mem_append_left _ hb)
  have hk : Keep w (bl M ++ F) w (bl M' ++ F) := fun b c T fr hb hc => ⟨fun h' => hb (by
    rcases List.mem_append.1 h' with h' | h'
    · exact List.mem_append_left _ (hsub b h')
    · exact List.mem_append_right _ h'), hc⟩
  refine ⟨⟨?_, fun b hb => h.apart b (hsub b hb), ?_⟩, hk, hsub⟩
  · exact (List.nodup_append.1 (hpb.nodup_iff.1 h.nodup)).1
  · intro m hm
    exact ME.holds_keep hk (fun _ _ => rfl) (h.holds m (hp.mem_iff.2 (List.mem_append_left _ hm)))

theorem Fr.sub {w0 w : World} {N0 N N' : List Nat} (h : Fr w0 N0 w N) (hs : ∀ b, b ∈ N' → b ∈ N) : Fr w0 N0 w N' :=
  ⟨h.os, h.tape, h.output, h.size, fun k hk hn => ⟨(h.block k hk hn).1, fun h' => (h.block k hk hn).2 (hs k h')⟩⟩

theorem St.weaken {a : Act} {w : World} (hs : St x L M a w) (hL : Sub L L') (hM : List.Perm M (M' ++ D)) : St x L' M' a w := by
  obtain ⟨hm, hk, hsub⟩ := hs.mem.sub hM
  exact ⟨hs.defers, hs.size, fun t g av hl => ⟨fun hg => ((hs.slots t g av (hL.look t _ hl)).1 hg).keep hk, (hs.slots t g av (hL.look t _ hl)).2⟩, hm, hs.fr.sub hsub, hs.old⟩

/-- the same, said otherwise -/
theorem W.is {t : Tmp} {g : Bool} {av av' : AV} (h : look L t = some (g, av)) (e : av = av') (next : W x ((t, g, av') :: L) M R) : W x L M R := by
  subst e
  intro a w hs
  refine next a w ⟨hs.defers, hs.size, ?_, hs.mem, hs.fr, hs.old⟩
  intro u g' av' hl
  rw [look_cons] at hl
  by_cases e : t = u
  · subst e; rw [if_pos rfl] at hl; cases hl; exact hs.slots t g av h
  · rw [if_neg e] at hl; exact hs.slots u g' av' hl

theorem W.weaken (hL : Sub L L') (hM : List.Perm M (M' ++ D)) (h : W x L' M' R) : W x L M R := fun a w hs => h a w (hs.weaken hL hM)

/-- Some member of a family of states. -/
def Reach {ι : Type} (x : Cx) (Lf : ι → List (Tmp × Bool × AV)) (Mf : ι → List ME) (Pf : ι → Prop) (a : Act) (w : World) : Prop := ∃ z, Pf z ∧ St x (Lf z) (Mf z) a w

theorem W.reach {ι : Type} {Lf : ι → List (Tmp × Bool × AV)} {Mf : ι → List ME} {Pf : ι → Prop} (z : ι) (hL : Sub L (Lf z)) (hM : List.Perm M (Mf z ++ D)) (hP : Pf z) : W x L M (Reach x Lf Mf Pf) :=
  fun a w hs => ⟨z, hP, hs.weaken hL hM⟩

theorem W.loop {ι : Type} {c : Code} {Q : Exit → Act → World → Prop} (Lf : ι → List (Tmp × Bool × AV)) (Mf : ι → List ME) (Pf : ι → Prop) (μ : ι → Nat) (z₀ : ι)
    (hL : Sub L (Lf z₀)) (hM : List.Perm M (Mf z₀ ++ D)) (hP : Pf z₀)
    (round : ∀ z, Pf z → W x (Lf z) (Mf z) (Code.wp x.P c (Exit.then (Reach x Lf Mf (fun y => Pf y ∧ μ y < μ z)) Q))) : W x L M (Code.wp x.P (.loop c) Q) := by
  intro a w hs b k cs
  have key : ∀ n z, μ z = n → Pf z → ∀ a w, St x (Lf z) (Mf z) a w →
      ∃ e a' w', Q e a' w' ∧ Arrives x.P (lone (b.at a (.code c :: .inLoop c :: k)) cs w) b k cs e a' w' := by
    intro n
    induction n using Nat.strongRecOn with
    | _ n ih =>
      intro z hz hPz a w hs
      obtain ⟨e, a₁, w₁, hq, harr⟩ := round z hPz a w hs b (.inLoop c :: k) cs
      cases e with
      | normal =>
        obtain ⟨y, ⟨hPy, hlt⟩, hsy⟩ := hq
        obtain ⟨e₂, a₂, w₂, hq₂, harr₂⟩ := ih (μ y) (hz ▸ hlt) y rfl hPy a₁ w₁ hsy
        exact ⟨e₂, a₂, w₂, hq₂, .of_steps (Steps.trans harr (.one step_inLoop)) harr₂⟩
      | exit id => exact ⟨_, a₁, w₁, hq, .pass (x := .inLoop c) rfl (fun _ _ => .inl (by simp)) harr⟩
      | goto l => exact ⟨_, a₁, w₁, hq, .pass (x := .inLoop c) rfl (fun _ _ => .inl (by simp)) harr⟩
      | ret => exact ⟨_, a₁, w₁, hq, .pass (x := .inLoop c) rfl (fun _ _ => .inl (by simp)) harr⟩
      | panic ch => exact ⟨_, a₁, w₁, hq, .pass (x := .inLoop c) rfl (fun _ _ => .inl (by simp)) harr⟩
      | outgrown => exact ⟨_, a₁, w₁, hq, .pass (x := .inLoop c) rfl (fun _ _ => .inl (by simp)) harr⟩
  obtain ⟨e, a', w', hq, harr⟩ := key _ z₀ rfl hP a w (hs.weaken hL hM)
  exact ⟨e, a', w', hq, .of_steps (.one step_loop) harr⟩
end weaken
end Go.Vl
end

section
set_option linter.unusedVariables false
set_option linter.unusedSimpArgs false
set_option linter.unusedSectionVars false
namespace Go.Vl

/-- What a call comes to. -/
def RetR (w0 : World) (N0 F : List Nat) (post : AV → List ME → Prop) (e : Ending) (w' : World) : Prop :=
  ∃ v r M', e = .returned v ∧ post r M' ∧ MOk w' M' F ∧ Rep w' (bl M' ++ F) r v ∧ Fr w0 N0 w' (bl M')

/-- A function that the program has, with a body. -/
def CallOk (P : Program) (f : FuncId) : Prop := ∃ fn, P.funcs[f]? = some fn ∧ (fn.name == "runtime.NumGoroutine") = false ∧ fn.body.isNone = false

/-- A CONTRACT. -/
def FnC (P : Program) (f : FuncId) (args : List AV) (M0 : List ME) (post : AV → List ME → Prop) : Prop :=
  CallOk P f ∧ ∀ (w : World) (F : List Nat) (vs : List Value), (∀ b ∈ F, b < w.heap.size) → MOk w M0 F → RepT w (bl M0 ++ F) args vs → Calls P f vs.toArray w (RetR w (bl M0) F post)

/-- A contract without mutable blocks, of one result. -/
abbrev FnP (P : Program) (f : FuncId) (args : List AV) (r : AV) : Prop := FnC P f args [] (fun r' M' => r' = r ∧ M' = [])

theorem FnC.mono {P : Program} {f : FuncId} {args : List AV} {M0 : List ME} {post post' : AV → List ME → Prop} (h : FnC P f args M0 post) (hp : ∀ r M', post r M' → post' r M') : FnC P f args M0 post' :=
  ⟨h.1, fun w F vs hF hm ha => (h.2 w F vs hF hm ha).mono fun e w' ⟨v, r, M', h1, h2, h3⟩ => ⟨v, r, M', h1, hp _ _ h2, h3⟩⟩

def argL : Nat → List AV → List (Tmp × Bool × AV)
  | _, [] => []
  | i, a :: r => (i, true, a) :: argL (i + 1) r

theorem look_argL : ∀ (args : List AV) (i t : Nat) (p : Bool × AV), look (argL i args) t = some p → ∃ j, t = i + j ∧ args[j]? = some p.2 ∧ p.1 = true
  | [], i, t, p, h => by cases h
  | a :: r, i, t, p, h => by
    rw [argL, look_cons] at h
    by_cases e : i = t
    · rw [if_pos e] at h; cases h; exact ⟨0, by omega, rfl, rfl⟩
    · rw [if_neg e] at h
      obtain ⟨j, h1, h2, h3⟩ := look_argL r (i + 1) t p h
      exact ⟨j + 1, by omega, by simpa using h2, h3⟩

theorem RepT.get {w : World} {N : List Nat} : ∀ {args : List AV} {vs : List Value} {j : Nat} {av : AV}, RepT w N args vs → args[j]? = some av → ∃ v, vs[j]? = some v ∧ Rep w N av v
  | [], vs, j, av, h, hj => by simp at hj
  | a :: r, vs, j, av, h, hj => by
    simp only [RepT] at h
    obtain ⟨v, vs', rfl, ⟨h1, h2⟩, h3⟩ := h
    cases j with
    | zero => simp at hj; subst hj; exact ⟨v, rfl, h1, h2⟩
    | succ j => simpa using RepT.get h3 (by simpa using hj)
theorem RepT.length {w : World} {N : List Nat} : ∀ {args : List AV} {vs : List Value}, RepT w N args vs → vs.length = args.length
  | [], vs, h => by simp only [RepT] at h; subst h; rfl
  | a :: r, vs, h => by
    simp only [RepT] at h
    obtain ⟨v, vs', rfl, _, h3⟩ := h
    simp [RepT.length h3]

/-- A CONTRACT IS ENTERED. -/
theorem FnC.mk {P : Program} {f : FuncId} {fn : Func} {c : Code} {args : List AV} {M0 : List ME} {post : AV → List ME → Prop} {n : Nat} (hf : P.funcs[f]? = some fn) (hnm : (fn.name == "runtime.NumGoroutine") = false) (hb : fn.body = some c) (hn : fn.ntmps = n)
    (hlen : Nat.ble args.length n = true)
    (h : ∀ w0 F, W ⟨P, n, w0, bl M0, F⟩ (argL 0 args) M0 (Code.wp P c (bodyPost P fn (RetR w0 (bl M0) F post)))) : FnC P f args M0 post := by
  refine ⟨⟨fn, hf, hnm, by rw [hb]; rfl⟩, fun w F vs hF hm ha => ?_⟩
  refine calls_of_wp hf hb (h w F _ w ?_)
  have hl := ha.length
  have hle : args.length ≤ n := Nat.le_of_ble_eq_true hlen
  refine ⟨rfl, ?_, ?_, hm, Fr.refl _ _, hF⟩
  · simp [hn, hl]; omega
  · intro t g av hlk
    obtain ⟨j, rfl, h2, h3⟩ := look_argL args 0 t _ hlk
    obtain ⟨v, hv, hr⟩ := ha.get h2
    have hj : j < vs.length := by
      rcases Nat.lt_or_ge j vs.length with h | h
      · exact h
      · rw [List.getElem?_eq_none h] at hv; cases hv
    have e : ((vs.toArray ++ Array.replicate (fn.ntmps - vs.toArray.size) undef).getD (0 + j) undef) = v := by
      rw [Nat.zero_add, Array.getD_eq_getD_getElem?, Array.getElem?_append_left (by simpa using hj)]
      simp [hv]
    simp only at h3
    subst h3
    exact ⟨fun _ => by rw [e]; exact hr, fun h => by cases h⟩

section calls
variable {x : Cx} {L : List (Tmp × Bool × AV)} {M : List ME} {ops : Array Oper} {Q : Exit → Act → World → Prop} {rest : List Oper}

def ArgsOv (L : List (Tmp × Bool × AV)) : List Operand → List AV → Prop
  | [], [] => True
  | o :: os, a :: as_ => Ov true L o a ∧ ArgsOv L os as_
  | _, _ => False

theorem ArgsOv.rep {a : Act} {w : World} (hs : St x L M a w) : ∀ {os : List Operand} {avs : List AV}, ArgsOv L os avs → RepT w (bl M ++ x.F) avs (os.map a.eval)
  | [], [], _ => by simp [RepT]
  | o :: os, av :: as_, h => by
    simp only [RepT, List.map_cons]
    exact ⟨_, _, rfl, h.1.rep rfl hs, ArgsOv.rep hs h.2⟩
  | [], _ :: _, h => h.elim
  | _ :: _, [], h => h.elim

theorem RepT.append {w : World} {N : List Nat} : ∀ {as_ bs : List AV} {us vs : List Value}, RepT w N as_ us → RepT w N bs vs → RepT w N (as_ ++ bs) (us ++ vs)
  | [], bs, us, vs, h, h' => by simp only [RepT] at h; subst h; simpa using h'
  | a :: as_, bs, us, vs, h, h' => by
    simp only [RepT] at h
    obtain ⟨v, us', rfl, h1, h2⟩ := h
    simp only [List.cons_append, RepT]
    exact ⟨_, _, rfl, h1, RepT.append h2 h'⟩
theorem RepT.lits {w : World} {N : List Nat} : ∀ (vs : List Value), RepT w N (vs.map .lit) vs
  | [] => by simp [RepT]
  | v :: vs => by
    simp only [List.map_cons, RepT]
    exact ⟨_, _, rfl, Rep.lit v, RepT.lits vs⟩

theorem bl_sub_of_perm {M Min Mr : List ME} (hM : List.Perm M (Min ++ Mr)) : ∀ b, b ∈ bl M ↔ b ∈ bl Min ∨ b ∈ bl Mr := fun b => by
  rw [(bl_perm hM).mem_iff, bl_append, List.mem_append]

theorem heap_lt {w : World} {b : Nat} {o : Obj} (h : w.heap[b]? = some o) : b < w.heap.size := by
  rcases Nat.lt_or_ge b w.heap.size with h' | h'
  · exact h'
  · rw [Array.getElem?_eq_none h'] at h; cases h

theorem ME.blk_some {w : World} {N : List Nat} {m : ME} (h : m.holds w N) : ∀ b ∈ m.blks, b < w.heap.size := by
  intro b hb
  cases m with
  | box b' T cs =>
    obtain ⟨cur, hc, _⟩ := h
    simp [ME.blks] at hb; subst hb; exact heap_lt hc
  | arr v T k es =>
    obtain ⟨a, cap, e, h1, h2, h3⟩ := h
    rcases h3 with ⟨rfl, _⟩ | ⟨g, off, cur, lo, hi, rfl, hc, _⟩
    · subst e; simp [ME.blks] at hb
    · subst e; simp [ME.blks] at hb; subst hb; exact heap_lt hc
  | obj b' o =>
    simp [ME.blks] at hb; subst hb; exact heap_lt h.1
  | shr b' T cs => simp [ME.blks] at hb

theorem bl_lt {w : World} {M : List ME} {F : List Nat} (h : MOk w M F) : ∀ b ∈ bl M, b < w.heap.size := by
  intro b hb
  simp only [bl, List.mem_flatMap] at hb
  obtain ⟨m, hm, hb⟩ := hb
  exact ME.blk_some (h.holds m hm) b hb

theorem mem4 {b : Nat} {M' Mr : List ME} {F : List Nat} : b ∈ bl (M' ++ Mr) ++ F ↔ b ∈ bl M' ++ (bl Mr ++ F) := by
  rw [bl_append, List.append_assoc]

/-- ahead of a call: what is handed over -/
theorem St.ahead {a : Act} {w : World} {Min Mr : List ME} (hs : St x L M a w) (hM : List.Perm M (Min ++ Mr)) :
    (∀ b ∈ bl Mr ++ x.F, b < w.heap.size) ∧ MOk w Min (bl Mr ++ x.F) ∧ Keep w (bl M ++ x.F) w (bl Min ++ (bl Mr ++ x.F)) := by
  have hmem := bl_sub_of_perm hM
  have hnd : (bl Min ++ bl Mr).Nodup := by rw [← bl_append]; exact (bl_perm hM).nodup_iff.1 hs.mem.nodup
  obtain ⟨hn1, hn2, hn3⟩ := List.nodup_append.1 hnd
  have hk : Keep w (bl M ++ x.F) w (bl Min ++ (bl Mr ++ x.F)) := fun b c T fr hb hc => ⟨fun h => hb (by
    simp only [List.mem_append] at h ⊢
    rw [hmem b]
    rcases h with h | h | h <;> simp [h]), hc⟩
  refine ⟨?_, ⟨hn1, ?_, ?_⟩, hk⟩
  · intro b hb
    rcases List.mem_append.1 hb with hb | hb
    · exact bl_lt hs.mem b ((hmem b).2 (.inr hb))
    · exact Nat.lt_of_lt_of_le (hs.old b hb) hs.fr.size
  · intro b hb h
    rcases List.mem_append.1 h with h | h
    · exact hn3 b hb b h rfl
    · exact hs.mem.apart b ((hmem b).2 (.inl hb)) h
  · intro m hm
    exact ME.holds_keep hk (fun _ _ => rfl) (hs.mem.holds m (hM.mem_iff.2 (List.mem_append_left _ hm)))

/-- behind a call: what was not handed over is as_ it was -/
theorem St.back {a : Act} {w w' : World} {Min Mr M' : List ME} (hs : St x L M a w) (hM : List.Perm M (Min ++ Mr)) (hm' : MOk w' M' (bl Mr ++ x.F)) (hf : Fr w (bl Min) w' (bl M')) :
    St x L (M' ++ Mr) a w' := by
  have hmem := bl_sub_of_perm hM
  have hnd : (bl Min ++ bl Mr).Nodup := by rw [← bl_append]; exact (bl_perm hM).nodup_iff.1 hs.mem.nodup
  obtain ⟨hn1, hn2, hn3⟩ := List.nodup_append.1 hnd
  have hk : Keep w (bl M ++ x.F) w' (bl (M' ++ Mr) ++ x.F) := by
    intro b c T fr hb hc
    have h1 := hf.block b (heap_lt hc) (fun h => hb (List.mem_append_left _ ((hmem b).2 (.inl h))))
    refine ⟨?_, by rw [h1.1]; exact hc⟩
    rw [mem4]
    intro h
    simp only [List.mem_append] at h hb
    rw [hmem b] at hb
    rcases h with h | h | h
    · exact h1.2 h
    · exact hb (.inl (.inr h))
    · exact hb (.inr h)
  have hdisj : ∀ b, b ∈ bl Mr → b ∉ bl Min ∧ b ∉ bl M' ∧ w'.heap[b]? = w.heap[b]? := by
    intro b hb
    have hni : b ∉ bl Min := fun h => hn3 b h b hb rfl
    have h1 := hf.block b (bl_lt hs.mem b ((hmem b).2 (.inr hb))) hni
    exact ⟨hni, h1.2, h1.1⟩
  refine hs.world hk ⟨?_, ?_, ?_⟩ ⟨hf.os.trans hs.fr.os, hf.tape.trans hs.fr.tape, hf.output.trans hs.fr.output, Nat.le_trans hs.fr.size hf.size, ?_⟩
  · rw [bl_append, List.nodup_append]
    exact ⟨hm'.nodup, hn2, fun b hb c hc e => (hdisj c hc).2.1 (e ▸ hb)⟩
  · intro b hb h
    rw [bl_append] at hb
    rcases List.mem_append.1 hb with hb | hb
    · exact hm'.apart b hb (List.mem_append_right _ h)
    · exact hs.mem.apart b ((hmem b).2 (.inr hb)) h
  · intro m hm
    rcases List.mem_append.1 hm with hm | hm
    · exact ME.holds_keep (fun b c T fr hb hc => ⟨fun h => hb (mem4.1 h), hc⟩) (fun _ _ => rfl) (hm'.holds m hm)
    · refine ME.holds_keep hk ?_ (hs.mem.holds m (hM.mem_iff.2 (List.mem_append_right _ hm)))
      intro b hb
      exact (hdisj b (by simp only [bl, List.mem_flatMap]; exact ⟨m, hm, hb⟩)).2.2
  · intro k hk hn
    have h1 := hs.fr.block k hk hn
    have h2 := hf.block k (Nat.lt_of_lt_of_le hk hs.fr.size) (fun h => h1.2 ((hmem k).2 (.inl h)))
    refine ⟨h2.1.trans h1.1, ?_⟩
    rw [bl_append, List.mem_append]
    rintro (h | h)
    · exact h2.2 h
    · exact h1.2 ((hmem k).2 (.inr h))

/-- A CALL IS MET BY ITS CONTRACT. x's value of a function, what was captured with it behind the arguments. -/
theorem W.callv {f : FuncId} {d : Tmp} {fo : Operand} {caps : List Value} {os : List Operand} {ats : Array TypeId} {ty : TypeId} {pos : String} {aft : Array Edge} {avs avs' : List AV} {Min Mr : List ME} {post : AV → List ME → Prop}
    (hc : FnC x.P f avs' Min post) (hfo : Ov true L fo (.lit (.func (.func f) #[] caps.toArray))) (ha : ArgsOv L os avs) (he : avs' = avs ++ caps.map .lit) (hM : List.Perm M (Min ++ Mr)) (hd : Nat.blt d x.n = true)
    (next : ∀ r M', post r M' → W x ((d, true, r) :: L) (M' ++ Mr) (wpList x.P ops Q rest)) :
    W x L M (wpList x.P ops Q (⟨some d, .call ⟨.value fo, os.toArray, ats⟩, ty, pos, aft, none⟩ :: rest)) := by
  subst he
  intro a w hs
  refine wpList_cons_want (by simp [Region.wanted]) ?_
  obtain ⟨⟨fn, hfn, hnm, hbd⟩, hcall⟩ := hc
  have hv := hfo.lit rfl hs
  have hr : (execOp a.eval ⟨some d, .call ⟨.value fo, os.toArray, ats⟩, ty, pos, aft, none⟩).run x.P w = .ok (.enter f (os.map a.eval ++ caps).toArray) w := by
    simp only [execOp, resolve, hv, Deferred.ofValue, Sem.run_bind, Sem.run_pure, Result.andThen_ok, invoke, callFunc, run_program, hfn, hnm, hbd]
    simp
  unfold Oper.wp
  rw [hr]
  obtain ⟨hF, hm0, hk0⟩ := hs.ahead hM
  have hargs := (ArgsOv.rep hs ha).append (RepT.lits (w := w) (N := bl M ++ x.F) caps)
  refine (hcall w (bl Mr ++ x.F) _ hF hm0 (RepT.keep hk0 _ _ hargs)).mono ?_
  rintro e w' ⟨v, r, M', rfl, hp, hm', hrep, hf⟩
  have hs' := hs.back hM hm' hf
  refine next r M' hp _ _ (hs'.put hd true r v (fun _ => hrep.keep ?_) (by simp))
  exact fun b c T fr hb hc => ⟨fun h => hb (mem4.1 h), hc⟩

theorem W.call {f : FuncId} {d : Tmp} {os : List Operand} {ats : Array TypeId} {ty : TypeId} {pos : String} {aft : Array Edge} {avs : List AV} {Min Mr : List ME} {post : AV → List ME → Prop}
    (hc : FnC x.P f avs Min post) (ha : ArgsOv L os avs) (hM : List.Perm M (Min ++ Mr)) (hd : Nat.blt d x.n = true)
    (next : ∀ r M', post r M' → W x ((d, true, r) :: L) (M' ++ Mr) (wpList x.P ops Q rest)) :
    W x L M (wpList x.P ops Q (⟨some d, .call ⟨.value (.func f), os.toArray, ats⟩, ty, pos, aft, none⟩ :: rest)) :=
  W.callv (caps := []) hc Ov.f ha (by simp) hM hd next

/-- A call that turns no mutable block. -/
theorem W.callp {f : FuncId} {d : Tmp} {os : List Operand} {ats : Array TypeId} {ty : TypeId} {pos : String} {aft : Array Edge} {avs : List AV} {r : AV}
    (hc : FnP x.P f avs r) (ha : ArgsOv L os avs) (hd : Nat.blt d x.n = true)
    (next : W x ((d, true, r) :: L) M (wpList x.P ops Q rest)) :
    W x L M (wpList x.P ops Q (⟨some d, .call ⟨.value (.func f), os.toArray, ats⟩, ty, pos, aft, none⟩ :: rest)) :=
  W.call (Min := []) (Mr := M) hc ha (List.Perm.refl _) hd (by rintro _ _ ⟨rfl, rfl⟩; exact next)
end calls

/-! ### The end of a body -/
section ends
variable {x : Cx} {L : List (Tmp × Bool × AV)} {M M' D : List ME} {fn : Func} {post : AV → List ME → Prop}

/-- What a result variable holds. -/
def ResOv (P : Program) (L : List (Tmp × Bool × AV)) (M : List ME) : ResultVar → AV → Prop
  | .tmp t, av => look L t = some (true, av)
  | .cell t T, av => ∃ b U cs, look L t = some (true, .lit (.pointer (some ⟨b, 0, none⟩))) ∧ ME.box b U cs ∈ M ∧ av = .agg cs ∧ (isAgg T).run P = (fun w => .ok true w) ∧ (sizeOf T).run P = (fun w => .ok cs.length w)

def ResL (P : Program) (L : List (Tmp × Bool × AV)) (M : List ME) : List ResultVar → List AV → Prop
  | [], [] => True
  | r :: rs, a :: as_ => ResOv P L M r a ∧ ResL P L M rs as_
  | _, _ => False

theorem RepL.length {w : World} {N : List Nat} : ∀ {cs : List AV} {row : List Value}, RepL w N cs row → row.length = cs.length
  | [], row, h => by simp only [RepL] at h; subst h; rfl
  | c :: cs, row, h => by
    simp only [RepL] at h
    obtain ⟨v, vs, rfl, _, h⟩ := h
    simp [RepL.length h]

theorem cell_of {w : World} {b o : Nat} {cur : Array Value} {T : TypeId} {fr : Nat × Nat} (h : w.heap[b]? = some (.cells cur T fr)) : w.cell? ⟨b, o, none⟩ = cur[o]? := by
  simp [World.cell?, h]

theorem run_loadCellsFrom {P : Program} {w : World} {b off : Nat} {cur : Array Value} {T : TypeId} {fr : Nat × Nat} (h : w.heap[b]? = some (.cells cur T fr)) :
    ∀ (n i : Nat) (acc : Array Value), off + i + n ≤ cur.size → (loadCellsFrom ⟨b, off, none⟩ i n acc).run P w = .ok (acc ++ ((cur.toList.drop (off + i)).take n).toArray) w
  | 0, i, acc, _ => by simp [loadCellsFrom]
  | n + 1, i, acc, hl => by
    have hc : w.cell? ⟨b, off + i, none⟩ = some (cur[off + i]'(by omega)) := by rw [cell_of h]; simp
    have e : (cur.toList.drop (off + i)).take (n + 1) = cur[off + i]'(by omega) :: (cur.toList.drop (off + (i + 1))).take n := by
      have hlt : off + i < cur.toList.length := by simp; omega
      rw [List.drop_eq_getElem_cons hlt, List.take_succ_cons]
      simp [Nat.add_assoc]
    simp only [loadCellsFrom, Sem.run_bind, run_load, Addr.add_lit, hc, Result.andThen_ok]
    rw [run_loadCellsFrom h n (i + 1) _ (by omega), e]
    simp
theorem run_loadCells {P : Program} {w : World} {b off : Nat} {cur : Array Value} {T : TypeId} {fr : Nat × Nat} (h : w.heap[b]? = some (.cells cur T fr)) (n : Nat) (hl : off + n ≤ cur.size) :
    (loadCells ⟨b, off, none⟩ n).run P w = .ok ((cur.toList.drop off).take n).toArray w := by
  unfold loadCells
  rw [run_loadCellsFrom h n 0 #[] (by omega)]
  simp

/-- what 'results' asks of one result variable -/
def resOf (tmps : Array Value) : ResultVar → Sem Value
  | .tmp t => pure (tmps.getD t undef)
  | .cell a t => do loadVar t (← asAddr (tmps.getD a undef))

/-- one result is itself; several are a tuple -/
def resV : List AV → AV
  | [a] => a
  | as_ => .tup as_

theorem results_eq (fn : Func) (tmps : Array Value) : results fn tmps = (do let vs ← fn.results.mapM (resOf tmps); pure (if h : vs.size = 1 then vs[0] else .tuple vs)) := rfl

theorem ResOv.run {a : Act} {w : World} {av : AV} {rv : ResultVar} (hs : St x L M a w) (h : ResOv x.P L M rv av) :
    ∃ v, (resOf a.tmps rv).run x.P w = .ok v w ∧ Rep w (bl M ++ x.F) av v := by
  cases rv with
  | tmp t => exact ⟨_, rfl, (hs.slots t true av h).1 rfl⟩
  | cell t T =>
    obtain ⟨b, U, cs, h1, h2, rfl, h3, h4⟩ := h
    have hp := Rep.lit_iff.1 ((hs.slots t true _ h1).1 rfl)
    obtain ⟨cur, hc, hr⟩ := hs.mem.holds _ h2
    have hlen := hr.length
    refine ⟨.agg cur, ?_, rfl, ?_⟩
    · have hld := run_loadCells (P := x.P) (off := 0) hc cs.length (by simp at hlen; omega)
      have e3 := congrFun h3 w
      have e4 := congrFun h4 w
      simp only [resOf]
      rw [hp]
      simp only [asAddr, Sem.run_bind, Sem.run_pure, Result.andThen_ok, loadVar, e3, e4, if_true, hld]
      congr 2
      simp at hlen
      rw [← hlen, List.drop_zero, List.take_of_length_le (by simp)]
    · simpa only [RepC, Value.cells] using hr

theorem results_run {a : Act} {w : World} (hs : St x L M a w) : ∀ {rs : List ResultVar} {avs : List AV}, ResL x.P L M rs avs →
    ∃ vs, (rs.mapM (resOf a.tmps)).run x.P w = .ok vs w ∧ RepT w (bl M ++ x.F) avs vs
  | [], [], _ => ⟨[], by simp, by simp [RepT]⟩
  | r :: rs, av :: avs, h => by
    obtain ⟨v, hv, hR⟩ := ResOv.run hs h.1
    obtain ⟨vs, hvs, hRs⟩ := results_run hs h.2
    exact ⟨v :: vs, by simp [List.mapM_cons, hv, hvs], by simp only [RepT]; exact ⟨v, vs, rfl, hR, hRs⟩⟩
  | [], _ :: _, h => h.elim
  | _ :: _, [], h => h.elim

theorem RepT.res {w : World} {N : List Nat} : ∀ {avs : List AV} {vs : List Value}, RepT w N avs vs → Rep w N (resV avs) (if h : vs.length = 1 then vs[0] else .tuple vs.toArray)
  | [], vs, h => by
    have h' := h
    simp only [RepT] at h
    subst h
    exact ⟨rfl, by simp only [resV, RepC]; exact ⟨#[], by simp [Value.cells], h'⟩⟩
  | [a], vs, h => by
    simp only [RepT] at h
    obtain ⟨v, vs', rfl, h1, rfl⟩ := h
    exact h1
  | a :: b :: as_, vs, h => by
    have h' := h
    have hlen := h.length
    have e : (if h : vs.length = 1 then vs[0] else Value.tuple vs.toArray) = .tuple vs.toArray := by
      rw [dif_neg (by rw [hlen]; simp)]
    rw [e]
    exact ⟨rfl, by simp only [resV, RepC]; exact ⟨vs.toArray, rfl, by simpa using h'⟩⟩

theorem W.rets (e : Exit) (he : e = .ret ∨ e = .normal) {rs : List ResultVar} {avs : List AV} {r : AV} (hres : fn.results = rs.toArray) (hr : ResL x.P L M rs avs) (hr1 : r = resV avs)
    (hM : List.Perm M (M' ++ D)) (hp : post r M') : W x L M (bodyPost x.P fn (RetR x.w0 x.N0 x.F post) e) := by
  intro a w hs
  obtain ⟨vs, hvs, hRs⟩ := results_run hs hr
  have hrun : (results fn a.tmps).run x.P w = .ok (if h : vs.length = 1 then vs[0] else .tuple vs.toArray) w := by
    rw [results_eq, hres, List.mapM_toArray]
    simp [hvs]
  obtain ⟨hm, hk, hsub⟩ := hs.mem.sub hM
  have hpost : RetR x.w0 x.N0 x.F post (.returned (if h : vs.length = 1 then vs[0] else .tuple vs.toArray)) w := by
    refine ⟨_, r, M', rfl, hp, hm, Rep.keep hk ?_, hs.fr.sub hsub⟩
    subst hr1
    exact RepT.res hRs
  rcases he with rfl | rfl
  · exact ⟨hs.defers, _, hrun, hpost⟩
  · exact ⟨hs.defers, _, hrun, hpost⟩

theorem W.retn {rs : List ResultVar} {avs : List AV} {r : AV} (hres : fn.results = rs.toArray) (hr : ResL x.P L M rs avs) (hr1 : r = resV avs)
    (hM : List.Perm M (M' ++ D)) (hp : post r M') : W x L M (bodyPost x.P fn (RetR x.w0 x.N0 x.F post) .ret) := W.rets .ret (.inl rfl) hres hr hr1 hM hp
theorem W.endn {rs : List ResultVar} {avs : List AV} {r : AV} (hres : fn.results = rs.toArray) (hr : ResL x.P L M rs avs) (hr1 : r = resV avs)
    (hM : List.Perm M (M' ++ D)) (hp : post r M') : W x L M (bodyPost x.P fn (RetR x.w0 x.N0 x.F post) .normal) := W.rets .normal (.inr rfl) hres hr hr1 hM hp
end ends
end Go.Vl
end

section
set_option linter.unusedVariables false
set_option linter.unusedSimpArgs false
set_option linter.unusedSectionVars false
namespace Go.Vl

/-- a string, by its bytes; an int -/
abbrev AV.str (l : List UInt8) : AV := .lit (.string ⟨l.toArray⟩)
abbrev AV.int (n : Int) : AV := .lit (.int .i64 n)
abbrev AV.bool (b : Bool) : AV := .lit (.bool b)
abbrev AV.u8 (b : UInt8) : AV := .lit (.int .u8 (b.toNat : Int))

/-- a type's size in cells and in bytes, its zero value -/
def Ty (P : Program) (T : TypeId) (k bytes : Nat) (z : Value) : Prop := ∃ i, P.info? T = some i ∧ i.size = k ∧ i.bytes = bytes ∧ i.zero = some z
theorem Ty.of {P : Program} {T : TypeId} {k bytes : Nat} {z : Value} (h : (P.info? T).map (fun i => (i.size, i.bytes, i.zero)) = some (k, bytes, some z)) : Ty P T k bytes z := by
  cases e : P.info? T with
  | none => rw [e] at h; cases h
  | some i =>
    rw [e] at h
    simp only [Option.map_some, Option.some.injEq, Prod.mk.injEq] at h
    exact ⟨i, e, h.1, h.2.1, h.2.2⟩
theorem Ty.size {P : Program} {T : TypeId} {k bytes : Nat} {z : Value} (h : Ty P T k bytes z) (w : World) : (sizeOf T).run P w = .ok k w := by
  obtain ⟨i, h1, h2, _, _⟩ := h
  simp [sizeOf, typeInfo, h1, h2]
theorem Ty.zero {P : Program} {T : TypeId} {k bytes : Nat} {z : Value} (h : Ty P T k bytes z) (w : World) : (zeroValue T).run P w = .ok z w := by
  obtain ⟨i, h1, _, _, h2⟩ := h
  simp [zeroValue, typeInfo, h1, h2]

/-- a struct's or an array's type; another one -/
def IsAgg (P : Program) (T : TypeId) (b : Bool) : Prop := ∃ d, P.underlying T = some d ∧ b = (match d with | .struct _ => true | .array _ _ => true | _ => false)
theorem IsAgg.run {P : Program} {T : TypeId} {b : Bool} (h : IsAgg P T b) (w : World) : (isAgg T).run P w = .ok b w := by
  obtain ⟨d, h1, rfl⟩ := h
  unfold isAgg
  simp only [Sem.run_bind, run_underlying h1, Result.andThen_ok]
  cases d <;> rfl

/-- a field's place -/
def FieldAt (P : Program) (S : TypeId) (f off size : Nat) (agg : Bool) : Prop :=
  ∃ fields fld, P.underlying S = some (.struct fields) ∧ fields[f]? = some fld ∧ fld.offset = off ∧ (∀ w, (sizeOf fld.type).run P w = .ok size w) ∧ IsAgg P fld.type agg ∧ size ≠ 0

section ev
variable {x : Cx} {g : Bool} {L : List (Tmp × Bool × AV)} {M : List ME} {ty : TypeId}

theorem Ev.move {o : Operand} {av : AV} (h : Ov g L o av) : Ev x g L M (.move o) ty av := fun a w hs hg => ⟨_, rfl, h.rep hg hs⟩
theorem Ev.assign {o : Operand} {av : AV} (h : Ov g L o av) : Ev x g L M (.assign o) ty av := fun a w hs hg => ⟨_, rfl, h.rep hg hs⟩

/-- the general form for an operation on known values -/
theorem Ev.pure {op : Op} {v : Value} (h : ∀ a w, St x L M a w → g = true → (execOp a.eval ⟨none, op, ty, "", #[], none⟩).run x.P w = .ok (.value v) w) : Ev x g L M op ty (.lit v) :=
  fun a w hs hg => ⟨v, h a w hs hg, Rep.lit v⟩

theorem Ev.and {c t : Operand} {p q : Bool} (h1 : Ov g L c (.lit (.bool p))) (h2 : ∃ u b, t = .tmp u ∧ look L u = some (b, .lit (.bool q)) ∧ (g = true → p = true → b = true)) :
    Ev x g L M (.pick c t (.const (.bool false))) ty (.lit (.bool (p && q))) := Ev.pure fun a w hs hg => by
  have e1 := h1.lit hg hs
  obtain ⟨u, b, rfl, hl, hb⟩ := h2
  cases p with
  | false =>
    simp only [execOp, e1, asBool, Sem.run_bind, Sem.run_pure, Result.andThen_ok]
    rfl
  | true =>
    have e2 : a.eval (.tmp u) = .bool q := Rep.lit_iff.1 ((hs.slots u b _ hl).1 (hb hg rfl))
    simp [execOp, e1, asBool, e2]
theorem Ev.or {c t : Operand} {p q : Bool} (h1 : Ov g L c (.lit (.bool p))) (h2 : ∃ u b, t = .tmp u ∧ look L u = some (b, .lit (.bool q)) ∧ (g = true → p = false → b = true)) :
    Ev x g L M (.pick c (.const (.bool true)) t) ty (.lit (.bool (p || q))) := Ev.pure fun a w hs hg => by
  have e1 := h1.lit hg hs
  obtain ⟨u, b, rfl, hl, hb⟩ := h2
  cases p with
  | true =>
    simp only [execOp, e1, asBool, Sem.run_bind, Sem.run_pure, Result.andThen_ok]
    rfl
  | false =>
    have e2 : a.eval (.tmp u) = .bool q := Rep.lit_iff.1 ((hs.slots u b _ hl).1 (hb hg rfl))
    simp [execOp, e1, asBool, e2]

theorem W.mv {ops : Array Oper} {Q : Exit → Act → World → Prop} {rest : List Oper} {d t : Tmp} {pos : String} {aft : Array Edge} {av : AV} (h : look L t = some (true, av)) (hd : Nat.blt d x.n = true) (next : W x ((d, true, av) :: L) M (wpList x.P ops Q rest)) : W x L M (wpList x.P ops Q (⟨some d, .move (.tmp t), ty, pos, aft, none⟩ :: rest)) := W.q (Ev.move (.t h)) hd next
theorem W.asg {ops : Array Oper} {Q : Exit → Act → World → Prop} {rest : List Oper} {d t : Tmp} {pos : String} {aft : Array Edge} {av : AV} (h : look L t = some (true, av)) (hd : Nat.blt d x.n = true) (next : W x ((d, true, av) :: L) M (wpList x.P ops Q rest)) : W x L M (wpList x.P ops Q (⟨some d, .assign (.tmp t), ty, pos, aft, none⟩ :: rest)) := W.q (Ev.assign (.t h)) hd next
theorem W.isb {R : Act → World → Prop} (t : Tmp) (b' : Bool) {g b : Bool} (h : look L t = some (g, .lit (.bool b))) (e : b = b') (next : W x ((t, g, .lit (.bool b')) :: L) M R) : W x L M R := W.is h (by rw [e]) next
/-! integers -/
section ints
variable {T T' : TypeId} {o1 o2 : Operand} {k : IntKind} {m n : Int}
theorem run_bin {op : BinOp} {r : Value} {a : Act} {w : World} (e1 : a.eval o1 = .int k m) (e2 : a.eval o2 = .int k n) (hr : (binOp op T (.int k m) (.int k n)).run x.P w = .ok r w) :
    (execOp a.eval ⟨none, .binOp op T o1 o2 T', ty, "", #[], none⟩).run x.P w = .ok (.value r) w := by
  simp only [execOp, e1, e2, eqGuard_at_int, Sem.run_bind, Sem.run_pure, Result.andThen_ok, hr]
theorem Ev.arith {op : BinOp} {r : Value} (h1 : Ov g L o1 (.lit (.int k m))) (h2 : Ov g L o2 (.lit (.int k n))) (hr : ∀ w, (binOp op T (.int k m) (.int k n)).run x.P w = .ok r w) :
    Ev x g L M (.binOp op T o1 o2 T') ty (.lit r) := Ev.pure fun a w hs hg => run_bin (h1.lit hg hs) (h2.lit hg hs) (hr w)
theorem Ev.add (h1 : Ov g L o1 (.lit (.int .i64 m))) (h2 : Ov g L o2 (.lit (.int .i64 n))) (hb : g = true → -9223372036854775808 ≤ m + n ∧ m + n ≤ 9223372036854775807) :
    Ev x g L M (.binOp .add T o1 o2 T') ty (.lit (.int .i64 (m + n))) := Ev.pure fun a w hs hg => run_bin (h1.lit hg hs) (h2.lit hg hs) (by
      simp only [binOp_add, Op.intArith, Sem.run_pure, IntWalk.i64_in _ (hb hg)])
theorem Ev.sub (h1 : Ov g L o1 (.lit (.int .i64 m))) (h2 : Ov g L o2 (.lit (.int .i64 n))) (hb : g = true → -9223372036854775808 ≤ m - n ∧ m - n ≤ 9223372036854775807) :
    Ev x g L M (.binOp .sub T o1 o2 T') ty (.lit (.int .i64 (m - n))) := Ev.pure fun a w hs hg => run_bin (h1.lit hg hs) (h2.lit hg hs) (by
      simp only [binOp_sub, Op.intArith, Sem.run_pure, IntWalk.i64_in _ (hb hg)])
theorem Ev.mul (h1 : Ov g L o1 (.lit (.int .i64 m))) (h2 : Ov g L o2 (.lit (.int .i64 n))) (hb : g = true → -9223372036854775808 ≤ m * n ∧ m * n ≤ 9223372036854775807) :
    Ev x g L M (.binOp .mul T o1 o2 T') ty (.lit (.int .i64 (m * n))) := Ev.pure fun a w hs hg => run_bin (h1.lit hg hs) (h2.lit hg hs) (by
      simp only [binOp_mul, Op.intArith, Sem.run_pure, IntWalk.i64_in _ (hb hg)])
theorem Ev.addw (h1 : Ov g L o1 (.lit (.int k m))) (h2 : Ov g L o2 (.lit (.int k n))) : Ev x g L M (.binOp .add T o1 o2 T') ty (.lit (.int k (k.wrap (m + n)))) :=
  Ev.arith h1 h2 fun w => by simp only [binOp_add, Op.intArith, Sem.run_pure]
theorem Ev.subw (h1 : Ov g L o1 (.lit (.int k m))) (h2 : Ov g L o2 (.lit (.int k n))) : Ev x g L M (.binOp .sub T o1 o2 T') ty (.lit (.int k (k.wrap (m - n)))) :=
  Ev.arith h1 h2 fun w => by simp only [binOp_sub, Op.intArith, Sem.run_pure]
theorem Ev.mulw (h1 : Ov g L o1 (.lit (.int k m))) (h2 : Ov g L o2 (.lit (.int k n))) : Ev x g L M (.binOp .mul T o1 o2 T') ty (.lit (.int k (k.wrap (m * n)))) :=
  Ev.arith h1 h2 fun w => by simp only [binOp_mul, Op.intArith, Sem.run_pure]
theorem Ev.rem (h1 : Ov g L o1 (.lit (.int k m))) (h2 : Ov g L o2 (.lit (.int k n))) (hn : g = true → n ≠ 0) : Ev x g L M (.binOp .rem T o1 o2 T') ty (.lit (.int k (m.tmod n))) :=
  Ev.pure fun a w hs hg => run_bin (h1.lit hg hs) (h2.lit hg hs) (by simp only [binOp_rem, Op.intDiv, if_neg (hn hg), Sem.run_pure])
theorem Ev.quo (h1 : Ov g L o1 (.lit (.int k m))) (h2 : Ov g L o2 (.lit (.int k n))) (hn : g = true → n ≠ 0) : Ev x g L M (.binOp .quo T o1 o2 T') ty (.lit (.int k (k.wrap (m.tdiv n)))) :=
  Ev.pure fun a w hs hg => run_bin (h1.lit hg hs) (h2.lit hg hs) (by simp only [binOp_quo, Op.intDiv, if_neg (hn hg), Sem.run_pure])
theorem Ev.shr {c : Nat} {yk : IntKind} {y : Int} (h1 : Ov g L o1 (.lit (.int k m))) (h2 : Ov g L o2 (.lit (.int yk y))) (hc : y = c) (hb : Nat.ble c k.bits = true) : Ev x g L M (.binOp .shr T o1 o2 T') ty (.lit (.int k (m / 2 ^ c))) :=
  Ev.pure fun a w hs hg => by
    have hb' := Nat.le_of_ble_eq_true hb
    subst hc
    simp only [execOp, h1.lit hg hs, h2.lit hg hs, eqGuard_at_int, Sem.run_bind, Sem.run_pure, Result.andThen_ok, binOp_shr, shift_shr k yk m (c : Int) (by omega) (by omega), Int.toNat_natCast]
theorem Ev.eqi (h1 : Ov g L o1 (.lit (.int k m))) (h2 : Ov g L o2 (.lit (.int k n))) : Ev x g L M (.binOp .eql T o1 o2 T') ty (.lit (.bool (m == n))) :=
  Ev.arith h1 h2 fun w => by simp only [binOp_eql, Sem.run_pure]
theorem Ev.nei (h1 : Ov g L o1 (.lit (.int k m))) (h2 : Ov g L o2 (.lit (.int k n))) : Ev x g L M (.binOp .neq T o1 o2 T') ty (.lit (.bool (m != n))) :=
  Ev.arith h1 h2 fun w => by simp only [binOp_neq, Sem.run_pure]
theorem Ev.lti (h1 : Ov g L o1 (.lit (.int k m))) (h2 : Ov g L o2 (.lit (.int k n))) : Ev x g L M (.binOp .lss T o1 o2 T') ty (.lit (.bool (decide (m < n)))) :=
  Ev.arith h1 h2 fun w => by simp only [binOp_lss, Sem.run_pure]
theorem Ev.lei (h1 : Ov g L o1 (.lit (.int k m))) (h2 : Ov g L o2 (.lit (.int k n))) : Ev x g L M (.binOp .leq T o1 o2 T') ty (.lit (.bool (decide (m ≤ n)))) :=
  Ev.arith h1 h2 fun w => by simp only [binOp_leq, Sem.run_pure]
theorem Ev.gti (h1 : Ov g L o1 (.lit (.int k m))) (h2 : Ov g L o2 (.lit (.int k n))) : Ev x g L M (.binOp .gtr T o1 o2 T') ty (.lit (.bool (decide (n < m)))) :=
  Ev.arith h1 h2 fun w => by simp only [binOp_gtr, Sem.run_pure]
theorem Ev.gei (h1 : Ov g L o1 (.lit (.int k m))) (h2 : Ov g L o2 (.lit (.int k n))) : Ev x g L M (.binOp .geq T o1 o2 T') ty (.lit (.bool (decide (n ≤ m)))) :=
  Ev.arith h1 h2 fun w => by simp only [binOp_geq, Sem.run_pure]
theorem Ev.conv (h1 : Ov g L o1 (.lit (.int k n))) (hs : ∃ d, x.P.underlying T = some d) {k' : IntKind} (hd : x.P.underlying T' = some (.int k')) : Ev x g L M (.convert T T' o1) ty (.lit (.int k' (k'.wrap n))) :=
  Ev.pure fun a w hst hg => by
    obtain ⟨d, hs⟩ := hs
    simp [execOp, h1.lit hg hst, convert, run_underlying hs, run_underlying hd, Conv.intToInt]
theorem Ev.not {p : Bool} (h1 : Ov g L o1 (.lit (.bool p))) : Ev x g L M (.unOp .not T o1) ty (.lit (.bool (!p))) :=
  Ev.pure fun a w hst hg => by simp [execOp, h1.lit hg hst, Op.unary]
end ints

/-! strings -/
section strs
variable {T T' : TypeId} {o1 o2 : Operand} {l m : List UInt8}
theorem size_mk (l : List UInt8) : (ByteArray.mk l.toArray).size = l.length := by simp [ByteArray.size]
theorem Ev.lens (h1 : Ov g L o1 (.lit (.string ⟨l.toArray⟩))) (hT : x.P.underlying T = some .string) : Ev x g L M (.call ⟨.builtin .len, #[o1], #[T]⟩) ty (.lit (.int .i64 (l.length : Int))) :=
  Ev.pure fun a w hst hg => by
    simp [execOp, resolve, invoke, builtin, h1.lit hg hst, Builtin.len_, run_underlying hT, goInt, size_mk]
theorem run_str {op : BinOp} {r : Value} {a : Act} {w : World} {s t : ByteArray} (e1 : a.eval o1 = .string s) (e2 : a.eval o2 = .string t) (hr : (Op.stringOp op s t).run x.P w = .ok r w) (ho : ∀ s t, binOp op T (.string s) (.string t) = Op.stringOp op s t) :
    (execOp a.eval ⟨none, .binOp op T o1 o2 T', ty, "", #[], none⟩).run x.P w = .ok (.value r) w := by
  simp only [execOp, e1, e2, eqGuard_at_string, Sem.run_bind, Sem.run_pure, Result.andThen_ok, ho, hr]
theorem Ev.eqs (h1 : Ov g L o1 (.lit (.string ⟨l.toArray⟩))) (h2 : Ov g L o2 (.lit (.string ⟨m.toArray⟩))) : Ev x g L M (.binOp .eql T o1 o2 T') ty (.lit (.bool (l == m))) :=
  Ev.pure fun a w hst hg => run_str (h1.lit hg hst) (h2.lit hg hst) (by simp [Op.stringOp, ByteArray.toList_mk]) (fun _ _ => rfl)
theorem Ev.nes (h1 : Ov g L o1 (.lit (.string ⟨l.toArray⟩))) (h2 : Ov g L o2 (.lit (.string ⟨m.toArray⟩))) : Ev x g L M (.binOp .neq T o1 o2 T') ty (.lit (.bool (!(l == m)))) :=
  Ev.pure fun a w hst hg => run_str (h1.lit hg hst) (h2.lit hg hst) (by simp [Op.stringOp, ByteArray.toList_mk]) (fun _ _ => rfl)
theorem Ev.cat (h1 : Ov g L o1 (.lit (.string ⟨l.toArray⟩))) (h2 : Ov g L o2 (.lit (.string ⟨m.toArray⟩))) (hb : g = true → l.length + m.length ≤ 9223372036854775807) : Ev x g L M (.binOp .add T o1 o2 T') ty (.lit (.string ⟨(l ++ m).toArray⟩)) :=
  Ev.pure fun a w hst hg => run_str (h1.lit hg hst) (h2.lit hg hst) (by
    have h := hb hg
    have hn : ¬ ((((ByteArray.mk l.toArray).size + (ByteArray.mk m.toArray).size : Nat) : Int) > IntKind.i64.max) := by rw [size_mk, size_mk, IntKind.max_i64]; omega
    have e : (ByteArray.mk l.toArray) ++ (ByteArray.mk m.toArray) = ByteArray.mk (l ++ m).toArray := by
      apply ByteArray.ext
      simp
    simp only [Op.stringOp, if_neg hn, Sem.run_pure, e]) (fun _ _ => rfl)
theorem get_mk (l : List UInt8) (i : Nat) : (ByteArray.mk l.toArray)[i]? = l[i]? := by
  rcases Nat.lt_or_ge i l.length with h | h
  · rw [List.getElem?_eq_getElem h, getElem?_pos _ _ (by rw [size_mk]; exact h)]; rfl
  · rw [List.getElem?_eq_none h, getElem?_neg _ _ (by rw [size_mk]; omega)]
theorem Ev.ats {i : Int} {b : UInt8} {k : IntKind} (h1 : Ov g L o1 (.lit (.string ⟨l.toArray⟩))) (h2 : Ov g L o2 (.lit (.int k i))) (hT : x.P.underlying T = some .string) (hb : g = true → 0 ≤ i ∧ l[i.toNat]? = some b) :
    Ev x g L M (.index T o1 o2) ty (.lit (.int .u8 (b.toNat : Int))) :=
  Ev.pure fun a w hst hg => by
    obtain ⟨h0, hi⟩ := hb hg
    simp [execOp, h1.lit hg hst, h2.lit hg hst, Instr.index, asIntOf, run_underlying hT, h0, get_mk, hi]
/-- the form for an index that a guard or the context bounds -/
theorem Ev.ats' {i : Int} {k : IntKind} (h1 : Ov g L o1 (.lit (.string ⟨l.toArray⟩))) (h2 : Ov g L o2 (.lit (.int k i))) (hT : x.P.underlying T = some .string) (hb : g = true → 0 ≤ i ∧ i < l.length) :
    Ev x g L M (.index T o1 o2) ty (.lit (.int .u8 ((l.getD i.toNat 0).toNat : Int))) := by
  cases hg : g with
  | false => exact fun a w hst h => by cases h
  | true =>
    subst hg
    obtain ⟨h0, hi⟩ := hb rfl
    refine Ev.ats h1 h2 hT (fun _ => ⟨h0, ?_⟩)
    rw [List.getD_eq_getElem?_getD, List.getElem?_eq_getElem (by omega)]
    rfl
theorem extract_mk (l : List UInt8) (a b : Nat) : (ByteArray.mk l.toArray).extract a b = ⟨((l.take b).drop a).toArray⟩ := by
  apply ByteArray.ext
  apply Array.toList_inj.1
  rw [Lib.extract_data, List.drop_take]

/-- a bound of a slice expression -/
def BndOv (g : Bool) (L : List (Tmp × Bool × AV)) (dflt : Int) : Option Operand → Int → Prop
  | none, n => n = dflt
  | some o, n => Ov g L o (.lit (.int .i64 n))

theorem run_bounds {isS : Bool} {len cap : Nat} {lo hi : Option Operand} {l h : Int} {a : Act} {w : World} (hst : St x L M a w) (hg : g = true) (hlo : BndOv g L 0 lo l) (hhi : BndOv g L len hi h) (h0 : 0 ≤ l) (h1 : l ≤ h) (h2 : h ≤ len) (h3 : len ≤ cap) :
    (Instr.sliceBounds isS len cap (lo.map a.eval) (hi.map a.eval) none).run x.P w = .ok (l.toNat, h.toNat, cap) w := by
  have hb : ∀ (n : Int) (y : Nat) c, 0 ≤ n → n ≤ y → (Instr.sliceBound (.int .i64 n) y c).run x.P w = .ok n.toNat w := fun n y c hn hy => by
    simp [Instr.sliceBound, asIntOf, hn, hy]
  unfold Instr.sliceBounds
  cases lo with
  | none =>
    simp only [BndOv] at hlo
    subst hlo
    cases hi with
    | none =>
      simp only [BndOv] at hhi
      subst hhi
      simp
    | some o =>
      have e := hhi.lit hg hst
      simp only [Option.map_none, Option.map_some, e, Sem.run_bind, Sem.run_pure, Result.andThen_ok]
      rw [hb _ _ _ (by omega) (by omega)]
      simp
  | some o' =>
    have e' := hlo.lit hg hst
    cases hi with
    | none =>
      simp only [BndOv] at hhi
      subst hhi
      simp only [Option.map_none, Option.map_some, e', Sem.run_bind, Sem.run_pure, Result.andThen_ok]
      rw [hb _ _ _ (by omega) (by omega)]
      simp
    | some o =>
      have e := hhi.lit hg hst
      simp only [Option.map_some, e, e', Sem.run_bind, Sem.run_pure, Result.andThen_ok]
      rw [hb _ _ _ (by omega) (by omega)]
      simp only [Result.andThen_ok]
      rw [hb _ _ _ (by omega) (by omega)]
      simp

theorem Ev.subs {lo hi : Option Operand} {i j : Int} (h1 : Ov g L o1 (.lit (.string ⟨l.toArray⟩))) (hT : x.P.underlying T = some .string) (hlo : BndOv g L 0 lo i) (hhi : BndOv g L (l.length : Int) hi j) (hb : g = true → 0 ≤ i ∧ i ≤ j ∧ j ≤ l.length) :
    Ev x g L M (.slice T o1 lo hi none) ty (.lit (.string ⟨((l.take j.toNat).drop i.toNat).toArray⟩)) :=
  Ev.pure fun a w hst hg => by
    obtain ⟨b1, b2, b3⟩ := hb hg
    have hr := run_bounds (isS := false) (cap := l.length) hst hg hlo hhi b1 b2 b3 (Nat.le_refl _)
    have e : (Instr.sliceAt T (.string ⟨l.toArray⟩) (lo.map a.eval) (hi.map a.eval) none) = Instr.sliceAt T (.string ⟨l.toArray⟩) (lo.map a.eval) (hi.map a.eval) none := rfl
    simp only [execOp, h1.lit hg hst, Option.map_none, Instr.sliceAt, Instr.slice, Sem.run_bind, run_underlying hT, Result.andThen_ok, size_mk, hr, Option.isSome_none, Bool.false_eq_true, if_false, Sem.run_pure, extract_mk]
end strs

/-! tuples, structs, slices -/
section aggs
variable {T T' : TypeId} {o1 o2 : Operand}

theorem RepC.cell_of_sh {w : World} {N : List Nat} {c : AV} {v : Value} (hc : c.sh = 0) (hv : shV v = 0) (h : RepC w N c [v]) : Rep w N c v := by
  refine ⟨by rw [hc, hv], ?_⟩
  have : v.cells.toList = [v] := by cases v <;> first | rfl | simp [shV] at hv
  rw [this]; exact h
theorem cells_of_sh {v : Value} (hv : shV v = 0) : v.cells.toList = [v] := by cases v <;> first | rfl | simp [shV] at hv

theorem RepT.get' {w : World} {N : List Nat} {avs : List AV} {vs : Array Value} {i : Nat} {av : AV} (h : RepT w N avs vs.toList) (hi : avs[i]? = some av) : ∃ v, vs[i]? = some v ∧ Rep w N av v := by
  obtain ⟨v, h1, h2⟩ := RepT.get h hi
  exact ⟨v, by simpa using h1, h2⟩
theorem Rep.tup_inv {w : World} {N : List Nat} {avs : List AV} {v : Value} (h : Rep w N (.tup avs) v) : ∃ us, v = .tuple us ∧ RepT w N avs us.toList := by
  obtain ⟨h1, h2⟩ := h
  simp only [AV.sh, RepC] at h1 h2
  obtain ⟨us, e, ht⟩ := h2
  cases v <;> simp [shV] at h1
  simp [Value.cells] at e
  subst e
  exact ⟨_, rfl, ht⟩
theorem Rep.sl_inv {w : World} {N : List Nat} {k : Nat} {es : List AV} {v : Value} (h : Rep w N (.sl k es) v) : ∃ a cap, v = .slice a es.length cap ∧ es.length ≤ cap ∧ cap ≤ maxLen ∧
      (es = [] ∨ ∃ b off cur T fr, a = some ⟨b, off, none⟩ ∧ b ∉ N ∧ w.heap[b]? = some (.cells cur T fr) ∧ RepE w N k es (cur.toList.drop off)) := by
  obtain ⟨h1, h2⟩ := h
  simp only [AV.sh, RepC] at h1 h2
  obtain ⟨a, cap, e, h3⟩ := h2
  rw [cells_of_sh h1.symm] at e
  cases e
  exact ⟨a, cap, rfl, h3⟩
theorem Rep.eptr_inv {w : World} {N : List Nat} {cs : List AV} {v : Value} (h : Rep w N (.eptr cs) v) : ∃ b off cur T fr, v = .pointer (some ⟨b, off, none⟩) ∧ b ∉ N ∧ w.heap[b]? = some (.cells cur T fr) ∧
      RepL w N cs ((cur.toList.drop off).take cs.length) := by
  obtain ⟨h1, h2⟩ := h
  simp only [AV.sh, RepC] at h1 h2
  obtain ⟨b, off, cur, T, fr, e, h3⟩ := h2
  rw [cells_of_sh h1.symm] at e
  cases e
  exact ⟨b, off, cur, T, fr, rfl, h3⟩
theorem Rep.aptr_inv {w : World} {N : List Nat} {u : Value} {j : Nat} {v : Value} (h : Rep w N (.aptr u j) v) : ∃ g off n cap, u = .slice (some ⟨g, off, none⟩) n cap ∧ v = .pointer (some ⟨g, off + j, none⟩) := by
  obtain ⟨h1, h2⟩ := h
  simp only [AV.sh, RepC] at h1 h2
  obtain ⟨g, off, n, cap, rfl, e⟩ := h2
  rw [cells_of_sh h1.symm] at e
  cases e
  exact ⟨g, off, n, cap, rfl, rfl⟩
theorem Rep.slI {w : World} {N : List Nat} {k : Nat} {es : List AV} {a : Option Addr} {cap : Nat} (h1 : es.length ≤ cap) (h2 : cap ≤ maxLen)
    (h : es = [] ∨ ∃ b off cur T fr, a = some ⟨b, off, none⟩ ∧ b ∉ N ∧ w.heap[b]? = some (.cells cur T fr) ∧ RepE w N k es (cur.toList.drop off)) : Rep w N (.sl k es) (.slice a es.length cap) :=
  ⟨rfl, by simp only [RepC]; exact ⟨a, cap, rfl, h1, h2, h⟩⟩
theorem Rep.eptrI {w : World} {N : List Nat} {cs : List AV} {b off : Nat} {cur : Array Value} {T : TypeId} {fr : Nat × Nat} (hb : b ∉ N) (hc : w.heap[b]? = some (.cells cur T fr)) (hl : RepL w N cs ((cur.toList.drop off).take cs.length)) :
    Rep w N (.eptr cs) (.pointer (some ⟨b, off, none⟩)) := ⟨rfl, by simp only [RepC]; exact ⟨b, off, cur, T, fr, rfl, hb, hc, hl⟩⟩

theorem Ev.extract {i : Nat} {avs : List AV} {av : AV} (h1 : Ov g L o1 (.tup avs)) (hi : avs[i]? = some av) : Ev x g L M (.extract o1 i) ty av := fun a w hs hg => by
  obtain ⟨us, e, ht⟩ := (h1.rep hg hs).tup_inv
  obtain ⟨v, hv, hr⟩ := RepT.get' ht hi
  exact ⟨v, by simp [execOp, e, Instr.extract, hv], hr⟩

/-- several operands that are literal values -/
def LitsOv (g : Bool) (L : List (Tmp × Bool × AV)) : List Operand → List Value → Prop
  | [], [] => True
  | o :: os, v :: vs => Ov g L o (.lit v) ∧ LitsOv g L os vs
  | _, _ => False
theorem LitsOv.eval {a : Act} {w : World} (hs : St x L M a w) (hg : g = true) : ∀ {os : List Operand} {vs : List Value}, LitsOv g L os vs → os.map a.eval = vs
  | [], [], _ => rfl
  | o :: os, v :: vs, h => by simp [h.1.lit hg hs, LitsOv.eval hs hg h.2]
  | [], _ :: _, h => h.elim
  | _ :: _, [], h => h.elim
theorem Ev.mkfn {fn : Fn} {caps : List Operand} {vs : List Value} (h : LitsOv g L caps vs) : Ev x g L M (.makeFunc fn #[] caps.toArray) ty (.lit (.func fn #[] vs.toArray)) := Ev.pure fun a w hs hg => by
  have := h.eval hs hg
  simp [execOp, Instr.makeFunc, ← this]

theorem Ev.lensl {k E : Nat} {es : List AV} (h1 : Ov g L o1 (.sl k es)) (hT : x.P.underlying T = some (.slice E)) : Ev x g L M (.call ⟨.builtin .len, #[o1], #[T]⟩) ty (.lit (.int .i64 (es.length : Int))) := fun a w hs hg => by
  obtain ⟨ad, cap, e, _⟩ := (h1.rep hg hs).sl_inv
  exact ⟨_, by simp [execOp, resolve, invoke, builtin, e, Builtin.len_, run_underlying hT, goInt], Rep.lit _⟩
theorem Ev.lenar {i : Nat} {v : Value} {U k E : Nat} {es : List AV} (h1 : Ov g L o1 (.lit v)) (hM : M[i]? = some (.arr v U k es)) (hT : x.P.underlying T = some (.slice E)) : Ev x g L M (.call ⟨.builtin .len, #[o1], #[T]⟩) ty (.lit (.int .i64 (es.length : Int))) := fun a w hs hg => by
  obtain ⟨ad, cap, e, _⟩ := hs.mem.holds _ (List.mem_of_getElem? hM)
  have e1 := h1.lit hg hs
  rw [e] at e1
  exact ⟨_, by simp [execOp, resolve, invoke, builtin, e1, Builtin.len_, run_underlying hT, goInt], Rep.lit _⟩

theorem RepE.drop {w : World} {N : List Nat} {k : Nat} : ∀ {es : List AV} {row : List Value} (n : Nat), RepE w N k es row → n ≤ es.length → RepE w N k (es.drop n) (row.drop (n * k))
  | es, row, 0, h, _ => by simpa using h
  | [], row, n + 1, h, hn => by simp at hn
  | e :: es, row, n + 1, h, hn => by
    simp only [RepE] at h
    have := RepE.drop n h.2.2 (by simpa using hn)
    rw [List.drop_drop] at this
    simpa [Nat.add_mul, Nat.add_comm] using this
theorem RepE.take {w : World} {N : List Nat} {k : Nat} : ∀ {es : List AV} {row : List Value} (n : Nat), RepE w N k es row → RepE w N k (es.take n) row
  | es, row, 0, h => by simp [RepE]
  | [], row, n + 1, h => by simp [RepE]
  | e :: es, row, n + 1, h => by
    simp only [RepE, List.take_succ_cons] at h ⊢
    exact ⟨h.1, h.2.1, RepE.take n h.2.2⟩
theorem RepE.len {w : World} {N : List Nat} {k : Nat} : ∀ {es : List AV} {row : List Value}, RepE w N k es row → es.length * k ≤ row.length
  | [], row, h => by simp
  | e :: es, row, h => by
    simp only [RepE] at h
    have := RepE.len h.2.2
    simp at this
    simp [Nat.add_mul]; omega
/-- the i-th element's cells -/
theorem RepE.get {w : World} {N : List Nat} {k : Nat} {es : List AV} {row : List Value} {i : Nat} {e : AV} (h : RepE w N k es row) (hi : es[i]? = some e) : k ≤ (row.drop (i * k)).length ∧ RepC w N e ((row.drop (i * k)).take k) := by
  have hlt : i < es.length := by
    rcases Nat.lt_or_ge i es.length with h' | h'
    · exact h'
    · rw [List.getElem?_eq_none h'] at hi; cases hi
  have hd := RepE.drop i h (by omega)
  rw [List.drop_eq_getElem_cons hlt] at hd
  simp only [RepE] at hd
  rw [List.getElem?_eq_getElem hlt] at hi
  cases hi
  exact ⟨hd.1, hd.2.1⟩

/-- an element whose cells may be met one by one -/
def AV.okc : AV → Bool
  | .lit u => shV u == 0
  | .tup _ => false
  | _ => true
theorem RepC.cells {w : World} {N : List Nat} {e : AV} {row : List Value} (ho : e.okc = true) (h : RepC w N e row) : RepL w N e.cells row := by
  have hone : ∀ {e : AV}, e.sh = 0 → e.cells = [e] → (∃ v, row = [v] ∧ shV v = 0) → RepC w N e row → RepL w N e.cells row := by
    intro e h1 h2 h3 h4
    obtain ⟨v, rfl, hv⟩ := h3
    rw [h2]
    simp only [RepL]
    exact ⟨v, [], rfl, ⟨h1, hv, h4⟩, rfl⟩
  cases e with
  | lit u =>
    simp only [AV.okc, beq_iff_eq] at ho
    refine hone (by simpa [AV.sh] using ho) ?_ ?_ h
    · cases u <;> first | rfl | simp [shV] at ho
    · simp only [RepC] at h; rw [h, cells_of_sh ho]; exact ⟨u, rfl, ho⟩
  | agg cs => simpa only [RepC, AV.cells] using h
  | tup vs => simp [AV.okc] at ho
  | sl k es => exact hone rfl rfl (by simp only [RepC] at h; obtain ⟨a, cap, e, _⟩ := h; exact ⟨_, e, rfl⟩) h
  | eptr cs => exact hone rfl rfl (by simp only [RepC] at h; obtain ⟨b, off, cur, T, fr, e, _⟩ := h; exact ⟨_, e, rfl⟩) h
  | aptr v j => exact hone rfl rfl (by simp only [RepC] at h; obtain ⟨g, off, n, cap, _, e⟩ := h; exact ⟨_, e, rfl⟩) h
theorem Rep.toL {w : World} {N : List Nat} {e : AV} {v : Value} (ho : e.okc = true) (h : Rep w N e v) : RepL w N e.cells v.cells.toList := RepC.cells ho h.2

theorem Ev.at {k E : Nat} {es : List AV} {i : Int} {e : AV} {ki : IntKind} {bytes : Nat} {z : Value} (h1 : Ov g L o1 (.sl k es)) (h2 : Ov g L o2 (.lit (.int ki i))) (hT : x.P.underlying T = some (.slice E)) (hE : Ty x.P E k bytes z)
    (hi : g = true → 0 ≤ i ∧ es[i.toNat]? = some e) (ho : e.okc = true) (hk : e.cells.length = k) : Ev x g L M (.indexAddr T o1 o2) ty (.eptr e.cells) := fun a w hs hg => by
  obtain ⟨ad, cap, ev, h3, h4, h5⟩ := (h1.rep hg hs).sl_inv
  obtain ⟨hi0, hi1⟩ := hi hg
  have hlt : i.toNat < es.length := by
    rcases Nat.lt_or_ge i.toNat es.length with h' | h'
    · exact h'
    · rw [List.getElem?_eq_none h'] at hi1; cases hi1
  rcases h5 with rfl | ⟨b, off, cur, U, fr, rfl, hb, hc, hr⟩
  · simp at hlt
  · obtain ⟨hg1, hg2⟩ := hr.get hi1
    have hlt' : i < es.length := by omega
    refine ⟨.pointer (some ⟨b, off + i.toNat * k, none⟩), ?_, Rep.eptrI hb hc ?_⟩
    · simp [execOp, ev, h2.lit hg hs, Instr.indexAt, asIntOf, run_underlying hT, hi0, hlt', hE.size, Addr.add_lit]
    · rw [hk, ← List.drop_drop]; exact RepC.cells ho hg2

theorem RepL.drop {w : World} {N : List Nat} : ∀ {cs : List AV} {row : List Value} (n : Nat), RepL w N cs row → RepL w N (cs.drop n) (row.drop n)
  | cs, row, 0, h => by simpa using h
  | [], row, n + 1, h => by simp only [RepL] at h; subst h; simp [RepL]
  | c :: cs, row, n + 1, h => by
    simp only [RepL] at h
    obtain ⟨v, vs, rfl, _, h⟩ := h
    simpa using RepL.drop n h
theorem RepL.take {w : World} {N : List Nat} : ∀ {cs : List AV} {row : List Value} (n : Nat), RepL w N cs row → RepL w N (cs.take n) (row.take n)
  | cs, row, 0, h => by simp [RepL]
  | [], row, n + 1, h => by simp only [RepL] at h; subst h; simp [RepL]
  | c :: cs, row, n + 1, h => by
    simp only [RepL] at h
    obtain ⟨v, vs, rfl, h1, h⟩ := h
    simp only [List.take_succ_cons, RepL]
    exact ⟨v, _, rfl, h1, RepL.take n h⟩
theorem RepL.get {w : World} {N : List Nat} {cs : List AV} {row : List Value} {i : Nat} {c : AV} (h : RepL w N cs row) (hi : cs[i]? = some c) : ∃ v, row[i]? = some v ∧ Rep w N c v := by
  have hlt : i < cs.length := by
    rcases Nat.lt_or_ge i cs.length with h' | h'
    · exact h'
    · rw [List.getElem?_eq_none h'] at hi; cases hi
  have hd := RepL.drop i h
  rw [List.drop_eq_getElem_cons hlt] at hd
  simp only [RepL] at hd
  obtain ⟨v, vs, e, ⟨h1, h2, h3⟩, _⟩ := hd
  rw [List.getElem?_eq_getElem hlt] at hi
  cases hi
  refine ⟨v, ?_, RepC.cell_of_sh h1 h2 h3⟩
  have := congrArg (·[0]?) e
  simpa using this

theorem Ev.fae {f off size : Nat} {ag : Bool} {cs : List AV} (h1 : Ov g L o1 (.eptr cs)) (hf : FieldAt x.P T f off size ag) (hl : Nat.ble off cs.length = true) : Ev x g L M (.fieldAddr T o1 f) ty (.eptr (cs.drop off)) := fun a w hs hg => by
  obtain ⟨b, o, cur, U, fr, e, hb, hc, hr⟩ := (h1.rep hg hs).eptr_inv
  obtain ⟨fields, fld, hT, hfl, rfl, hsz, _, hne⟩ := hf
  refine ⟨.pointer (some ⟨b, o + fld.offset, none⟩), ?_, Rep.eptrI hb hc ?_⟩
  · simp [execOp, e, Instr.fieldAt, run_underlying hT, hfl, Instr.sureAddr, fieldPlace, hsz, hne, Addr.add_lit]
  · have := RepL.drop fld.offset hr
    rw [List.drop_take, List.drop_drop] at this
    rw [List.length_drop]
    exact this
theorem Ev.fab {f off size b o : Nat} {ag : Bool} (h1 : Ov g L o1 (.lit (.pointer (some ⟨b, o, none⟩)))) (hf : FieldAt x.P T f off size ag) : Ev x g L M (.fieldAddr T o1 f) ty (.lit (.pointer (some ⟨b, o + off, none⟩))) := Ev.pure fun a w hs hg => by
  obtain ⟨fields, fld, hT, hfl, rfl, hsz, _, hne⟩ := hf
  simp [execOp, h1.lit hg hs, Instr.fieldAt, run_underlying hT, hfl, Instr.sureAddr, fieldPlace, hsz, hne, Addr.add_lit]
theorem Ev.faa {f off size j : Nat} {u : Value} {ag : Bool} (h1 : Ov g L o1 (.aptr u j)) (hf : FieldAt x.P T f off size ag) : Ev x g L M (.fieldAddr T o1 f) ty (.aptr u (j + off)) := fun a w hs hg => by
  obtain ⟨b, o, n, cap, rfl, e⟩ := (h1.rep hg hs).aptr_inv
  obtain ⟨fields, fld, hT, hfl, rfl, hsz, _, hne⟩ := hf
  refine ⟨.pointer (some ⟨b, o + j + fld.offset, none⟩), ?_, rfl, ?_⟩
  · simp [execOp, e, Instr.fieldAt, run_underlying hT, hfl, Instr.sureAddr, fieldPlace, hsz, hne, Addr.add_lit]
  · simp only [RepC]; exact ⟨b, o, n, cap, rfl, by simp [Value.cells, Nat.add_assoc]⟩

/-- a load of one cell, of k cells, of known memory -/
theorem run_load1 {w : World} {b o : Nat} {cur : Array Value} {U : TypeId} {fr : Nat × Nat} {v : Value} (hT : IsAgg x.P T false) (hc : w.heap[b]? = some (.cells cur U fr)) (hv : cur[o]? = some v) {a : Act} (e : a.eval o1 = .pointer (some ⟨b, o, none⟩)) :
    (execOp a.eval ⟨none, .load T o1, ty, "", #[], none⟩).run x.P w = .ok (.value v) w := by
  have hcell : w.cell? ⟨b, o, none⟩ = some v := by rw [cell_of hc]; exact hv
  simp [execOp, e, Instr.loadAt, Instr.sureAddr, loadVar, hT.run, hcell]
theorem run_loadn {w : World} {b o k bytes : Nat} {z : Value} {cur : Array Value} {U : TypeId} {fr : Nat × Nat} (hT : IsAgg x.P T true) (hk : Ty x.P T k bytes z) (hc : w.heap[b]? = some (.cells cur U fr)) (hle : o + k ≤ cur.size) {a : Act} (e : a.eval o1 = .pointer (some ⟨b, o, none⟩)) :
    (execOp a.eval ⟨none, .load T o1, ty, "", #[], none⟩).run x.P w = .ok (.value (.agg ((cur.toList.drop o).take k).toArray)) w := by
  have := run_loadCells (P := x.P) (off := o) hc k hle
  simp [execOp, e, Instr.loadAt, Instr.sureAddr, loadVar, hT.run, hk.size, this]

theorem Ev.lde1 {c : AV} {cs : List AV} (h1 : Ov g L o1 (.eptr (c :: cs))) (hT : IsAgg x.P T false) : Ev x g L M (.load T o1) ty c := fun a w hs hg => by
  obtain ⟨b, o, cur, U, fr, e, hb, hc, hr⟩ := (h1.rep hg hs).eptr_inv
  obtain ⟨v, hv, hrep⟩ := RepL.get (i := 0) (c := c) hr rfl
  refine ⟨v, run_load1 hT hc ?_ e, hrep⟩
  simpa using hv
theorem Ev.lden {k bytes : Nat} {z : Value} {cs : List AV} (h1 : Ov g L o1 (.eptr cs)) (hT : IsAgg x.P T true) (hk : Ty x.P T k bytes z) (hl : Nat.ble k cs.length = true) (hk0 : Nat.ble 1 k = true) : Ev x g L M (.load T o1) ty (.agg (cs.take k)) := fun a w hs hg => by
  obtain ⟨b, o, cur, U, fr, e, hb, hc, hr⟩ := (h1.rep hg hs).eptr_inv
  have hl' : k ≤ cs.length := Nat.le_of_ble_eq_true hl
  have hk0' := Nat.le_of_ble_eq_true hk0
  have hlen := hr.length
  simp at hlen
  have ht := RepL.take k hr
  rw [List.take_take, Nat.min_eq_left hl'] at ht
  refine ⟨_, run_loadn hT hk hc (by omega) e, rfl, ?_⟩
  simpa only [RepC, Value.cells] using ht

theorem box_at {w : World} {N : List Nat} {F : List Nat} (hm : MOk w M F) {i b U : Nat} {cs : List AV} (hM : M[i]? = some (.box b U cs)) : ∃ cur, w.heap[b]? = some (.cells cur U (0, 0)) ∧ RepL w (bl M ++ F) cs cur.toList :=
  hm.holds _ (List.mem_of_getElem? hM)
theorem Ev.ldb1 (i : Nat) {b o U : Nat} {cs : List AV} {c : AV} (h1 : Ov g L o1 (.lit (.pointer (some ⟨b, o, none⟩)))) (hM : M[i]? = some (.box b U cs)) (hT : IsAgg x.P T false) (hc : cs[o]? = some c) : Ev x g L M (.load T o1) ty c := fun a w hs hg => by
  obtain ⟨cur, hcur, hr⟩ := box_at (N := []) hs.mem hM
  obtain ⟨v, hv, hrep⟩ := RepL.get hr hc
  exact ⟨v, run_load1 hT hcur (by simpa using hv) (h1.lit hg hs), hrep⟩
theorem Ev.ldbn (i : Nat) {b o U k bytes : Nat} {z : Value} {cs : List AV} (h1 : Ov g L o1 (.lit (.pointer (some ⟨b, o, none⟩)))) (hM : M[i]? = some (.box b U cs)) (hT : IsAgg x.P T true) (hk : Ty x.P T k bytes z) (hl : Nat.ble (o + k) cs.length = true) :
    Ev x g L M (.load T o1) ty (.agg ((cs.drop o).take k)) := fun a w hs hg => by
  obtain ⟨cur, hcur, hr⟩ := box_at (N := []) hs.mem hM
  have hlen := hr.length
  have hl' := Nat.le_of_ble_eq_true hl
  simp at hlen
  refine ⟨_, run_loadn hT hk hcur (by omega) (h1.lit hg hs), rfl, ?_⟩
  have := RepL.take k (RepL.drop o hr)
  simpa only [RepC, Value.cells] using this

/-- a slice of a slice -/
theorem Ev.subsl {k E bytes : Nat} {z : Value} {es : List AV} {lo hi : Option Operand} {i j : Int} (h1 : Ov g L o1 (.sl k es)) (hT : x.P.underlying T = some (.slice E)) (hE : Ty x.P E k bytes z) (hlo : BndOv g L 0 lo i) (hhi : BndOv g L (es.length : Int) hi j)
    (hb : g = true → 0 ≤ i ∧ i ≤ j ∧ j ≤ es.length) : Ev x g L M (.slice T o1 lo hi none) ty (.sl k ((es.take j.toNat).drop i.toNat)) := fun a w hs hg => by
  obtain ⟨ad, cap, ev, h3, h4, h5⟩ := (h1.rep hg hs).sl_inv
  obtain ⟨b1, b2, b3⟩ := hb hg
  have hr := run_bounds (isS := true) (len := es.length) (cap := cap) hs hg hlo hhi b1 b2 b3 h3
  have hlen : ((es.take j.toNat).drop i.toNat).length = j.toNat - i.toNat := by simp; omega
  refine ⟨.slice (if cap = i.toNat then ad else ad.map (·.add (i.toNat * k))) (j.toNat - i.toNat) (cap - i.toNat), ?_, ?_⟩
  · simp only [execOp, ev, Option.map_none, Instr.sliceAt, Instr.slice, Sem.run_bind, run_underlying hT, Result.andThen_ok, hr, hE.size, Sem.run_pure]
  · rw [← hlen]
    refine Rep.slI (by rw [hlen]; omega) (by omega) ?_
    rcases h5 with rfl | ⟨b, off, cur, U, fr, rfl, hbN, hc, hrE⟩
    · left; simp
    · by_cases hz : cap = i.toNat
      · left
        apply List.eq_nil_of_length_eq_zero
        rw [hlen]; omega
      · right
        rw [if_neg hz]
        refine ⟨b, off + i.toNat * k, cur, U, fr, ?_, hbN, hc, ?_⟩
        · simp [Addr.add_lit]
        · have := (hrE.take j.toNat).drop i.toNat (by simp; omega)
          rw [List.drop_drop] at this
          exact this
end aggs
end ev
end Go.Vl
end

section
set_option linter.unusedVariables false
set_option linter.unusedSimpArgs false
namespace Go.Vl
open Go.RowKit (Below)

theorem MOk.nil (w : World) (F : List Nat) : MOk w [] F := ⟨by simp [bl], by simp [bl], by simp⟩

theorem law_calls {P : Program} {f : FuncId} {avs : List AV} {W : World} {vs : List Value} (h : FnP P f avs (.lit (.bool true))) (ha : RepT W [] avs vs) :
    Calls P f vs.toArray W fun e W' => e = .returned (.bool true) ∧ Below W.heap.size W W' := by
  refine (h.2 W [] vs (by simp) (MOk.nil W []) (by simpa [bl] using ha)).mono ?_
  rintro e W' ⟨v, r, M', rfl, ⟨rfl, rfl⟩, _, hr, hf⟩
  have hv := Rep.lit_iff.1 hr
  subst hv
  exact ⟨rfl, hf.os, hf.tape, hf.output, hf.size, fun k hk => (hf.block k hk (by simp [bl])).1⟩

theorem RepT.one {W : World} {N : List Nat} {a : AV} {as_ : List AV} {v : Value} {vs : List Value} (h : Rep W N a v) (h' : RepT W N as_ vs) : RepT W N (a :: as_) (v :: vs) := by
  simp only [RepT]
  exact ⟨v, vs, rfl, h, h'⟩
theorem RepT.zero {W : World} {N : List Nat} : RepT W N [] [] := by simp [RepT]
theorem Rep.str {W : World} {N : List Nat} (s : ByteArray) : Rep W N (.str s.data.toList) (.string s) := Rep.lit (.string s)

/-- a row of single cells that are known, from what the reading of a slice gives -/
theorem Rep.slice1 {W : World} {N : List Nat} {a : Option Addr} {len cap : Nat} {es : List AV} (hlen : es.length = len) (hlc : len ≤ cap) (hcm : cap ≤ maxLen)
    (h : len = 0 ∨ ∃ x : Addr, a = some x ∧ x.block ∉ N ∧ ∀ i, i < len → ∃ v, W.cell? (x.add i) = some v ∧ shV v = 0 ∧ ∃ e, es[i]? = some e ∧ e.sh = 0 ∧ RepC W N e [v]) : Rep W N (.sl 1 es) (.slice a len cap) := by
  subst hlen
  refine Rep.slI hlc hcm ?_
  rcases h with h | ⟨⟨b, off, spot⟩, rfl, hb, hc⟩
  · exact .inl (List.eq_nil_of_length_eq_zero h)
  · by_cases h0 : es.length = 0
    · exact .inl (List.eq_nil_of_length_eq_zero h0)
    · right
      obtain ⟨v0, hv0, _⟩ := hc 0 (by omega)
      have hsp : spot = none := by
        simp only [Addr.add, if_true] at hv0
        unfold World.cell? at hv0
        split at hv0
        · split at hv0
          · cases hv0
          · rename_i hs; simpa using hs
        · cases hv0
      subst hsp
      have hblk : ∃ cur T fr, W.heap[b]? = some (.cells cur T fr) := by
        simp only [Addr.add, if_true] at hv0
        unfold World.cell? at hv0
        split at hv0
        · rename_i c T fr hh; exact ⟨c, T, fr, hh⟩
        · cases hv0
      obtain ⟨cur, T, fr, hcur⟩ := hblk
      refine ⟨b, off, cur, T, fr, rfl, hb, hcur, ?_⟩
      have key : ∀ (n : Nat) (es' : List AV), es'.length = n → (∃ k, es' = es.drop k ∧ k + n = es.length) → ∀ k, k + n = es.length → es' = es.drop k → RepE W N 1 es' (cur.toList.drop (off + k)) := by
        intro n
        induction n with
        | zero => intro es' hl _ k _ _; have := List.eq_nil_of_length_eq_zero hl; subst this; simp [RepE]
        | succ n ih =>
          intro es' hl _ k hk he
          obtain ⟨v, hv, hsv, e, hee, hse, hr⟩ := hc k (by omega)
          rw [Addr.add_lit, cell_of hcur] at hv
          have hlt : off + k < cur.toList.length := by
            rcases Nat.lt_or_ge (off + k) cur.size with h' | h'
            · simpa using h'
            · rw [Array.getElem?_eq_none h'] at hv; cases hv
          have hke : k < es.length := by omega
          have hd : es.drop k = e :: es.drop (k + 1) := by
            rw [List.drop_eq_getElem_cons hke]
            rw [List.getElem?_eq_getElem hke] at hee
            cases hee; rfl
          have hrow : cur.toList.drop (off + k) = v :: cur.toList.drop (off + (k + 1)) := by
            rw [List.drop_eq_getElem_cons hlt, ← Nat.add_assoc]
            congr 1
            have : cur.toList[off + k]? = some v := by simpa using hv
            rw [List.getElem?_eq_getElem hlt] at this
            exact Option.some.inj this
          rw [he, hd, hrow]
          simp only [RepE]
          refine ⟨by simp, by simpa using hr, ?_⟩
          exact ih _ (by rw [List.length_drop]; omega) ⟨k + 1, rfl, by omega⟩ (k + 1) (by omega) rfl
      have := key es.length es rfl ⟨0, by simp, by omega⟩ 0 (by omega) (by simp)
      simpa using this
end Go.Vl
end

section
set_option linter.unusedVariables false
namespace Go.Proofs.YtgjndpgcpohnoaaGreatDoor.Bulk
variable {H : Type}

theorem pos (d : DataW H) : 0 < Rows.uptoBulk d := by
  rcases d with l | _ | d | ⟨elems, spare⟩ | parts | ⟨t, d⟩ | entries | h
  · cases l <;> simp [Rows.uptoBulk]
  all_goals simp [Rows.uptoBulk]

theorem count (l : List (DataW H)) : l.length ≤ Rows.uptoBulkAll l := by
  induction l with
  | nil => exact Nat.zero_le _
  | cons d r ih =>
    have := pos d
    rw [Rows.uptoBulkAll, List.length_cons]
    omega

theorem le (l : List (DataW H)) (h : Rows.uptoSmall H l = true) : Rows.uptoBulkAll l ≤ 1048576 := by
  unfold Rows.uptoSmall at h
  exact of_decide_eq_true h

theorem str (s : List UInt8) : Rows.uptoBulk (DataW.lit (H := H) (.string s)) = s.length + 1 := by rw [Rows.uptoBulk]
theorem slice (elems spare : List (DataW H)) : Rows.uptoBulk (.slice elems spare) = Rows.uptoBulkAll elems + Rows.uptoBulkAll spare + 1 := by rw [Rows.uptoBulk]
end Go.Proofs.YtgjndpgcpohnoaaGreatDoor.Bulk
end

section
set_option linter.unusedVariables false
set_option linter.unusedSimpArgs false
namespace Go.Proofs.YtgjndpgcpohnoaaGreatDoor.Ints
open Go.Vl
theorem ints_rep {H : Type} {P : Program} {enc : TypeId × Value → H} {w : World} {base : Nat} {spare : Nat → Bool} {held : Bool} {T E fuel : Nat} {a : Option Addr} {len cap : Nat} {d : DataW H} {p : List MemPlace}
    (hT : P.underlying T = some (.slice E)) (hE : P.underlying E = some (.int .i64)) (hc : P.cellsOf E = 1) (h : DataW.trod enc P w base spare held fuel T [.slice a len cap] = some (d, p)) :
    ∃ l : List Int, l.length < Rows.uptoBulk d ∧ Rep w [] (.sl 1 (l.map AV.int)) (.slice a len cap) ∧ ∀ z ∈ l, -9223372036854775808 ≤ z ∧ z ≤ 9223372036854775807 := by
  rcases ChangeShapes.open_ints hT hE hc h with ⟨hcs, hx⟩ | ⟨a', len', cap', zs, hcs, hb, hl, hm, hlen, hx, hcell, hwf⟩
  · cases hcs
    exact ⟨[], Bulk.pos _, Rep.slice1 rfl (Nat.zero_le _) (Nat.zero_le _) (.inl rfl), by simp⟩
  · cases hcs
    cases hx
    have hz : len ≤ zs.length := by rw [hlen]; split <;> omega
    have hll : (zs.take len).length = len := by rw [List.length_take]; omega
    refine ⟨zs.take len, ?_, Rep.slice1 (by rw [List.length_map, hll]) hl hm (.inr ⟨a', rfl, by simp, fun i hi => ?_⟩), fun z hz => ?_⟩
    · have h1 := Bulk.count (ChangeShapes.lits (H := H) .i64 (zs.take len))
      rw [ChangeShapes.lits, List.length_map] at h1
      rw [Bulk.slice]
      unfold ChangeShapes.lits at *
      omega
    · refine ⟨_, hcell i (by omega), rfl, AV.int (zs.getD i 0), ?_, rfl, by simp only [RepC]; rfl⟩
      rw [List.getElem?_map, List.getElem?_take, if_pos hi, List.getD_eq_getElem?_getD, List.getElem?_eq_getElem (by omega)]; rfl
    · have := hwf z (List.mem_of_mem_take hz)
      simpa [Lit.wf, IntKind.min, IntKind.max, IntKind.signed, IntKind.bits] using this
end Go.Proofs.YtgjndpgcpohnoaaGreatDoor.Ints
end

section
set_option linter.unusedVariables false
set_option linter.unusedSimpArgs false
namespace Go.Proofs.YtgjndpgcpohnoaaGreatDoor.Srs
open Go.Vl
theorem sum_le {H : Type} : ∀ ss : List ByteArray, ss.length ≤ Rows.uptoBulkAll (ChangeShapes.strs (H := H) ss) ∧ ∀ s ∈ ss, s.data.toList.length ≤ Rows.uptoBulkAll (ChangeShapes.strs (H := H) ss)
  | [] => ⟨Nat.zero_le _, by simp⟩
  | s :: ss => by
    obtain ⟨h1, h2⟩ := sum_le (H := H) ss
    have e : Rows.uptoBulkAll (ChangeShapes.strs (H := H) (s :: ss)) = (s.data.toList.length + 1) + Rows.uptoBulkAll (ChangeShapes.strs (H := H) ss) := by
      unfold ChangeShapes.strs
      rw [List.map_cons, Rows.uptoBulkAll, Bulk.str]
    rw [e]
    refine ⟨by rw [List.length_cons]; omega, fun t ht => ?_⟩
    rcases List.mem_cons.1 ht with rfl | ht
    · omega
    · have := h2 t ht; omega
theorem strs_rep {H : Type} {P : Program} {enc : TypeId × Value → H} {w : World} {base : Nat} {spare : Nat → Bool} {held : Bool} {T E fuel : Nat} {a : Option Addr} {len cap : Nat} {d : DataW H} {p : List MemPlace}
    (hT : P.underlying T = some (.slice E)) (hE : P.underlying E = some .string) (hc : P.cellsOf E = 1) (h : DataW.trod enc P w base spare held fuel T [.slice a len cap] = some (d, p)) :
    ∃ l : List (List UInt8), l.length < Rows.uptoBulk d ∧ (∀ s ∈ l, s.length < Rows.uptoBulk d) ∧ Rep w [] (.sl 1 (l.map AV.str)) (.slice a len cap) := by
  rcases ChangeShapes.open_strings hT hE hc h with ⟨hcs, hx⟩ | ⟨a', len', cap', ss, hcs, hb, hl, hm, hlen, hx, hcell, hwf⟩
  · cases hcs
    exact ⟨[], Bulk.pos _, by simp, Rep.slice1 rfl (Nat.zero_le _) (Nat.zero_le _) (.inl rfl)⟩
  · cases hcs
    cases hx
    have hz : len ≤ ss.length := by rw [hlen]; split <;> omega
    have hll : (ss.take len).length = len := by rw [List.length_take]; omega
    obtain ⟨h1, h2⟩ := sum_le (H := H) (ss.take len)
    rw [Bulk.slice]
    refine ⟨(ss.take len).map fun s => s.data.toList, by rw [List.length_map]; omega, fun s hs => ?_, Rep.slice1 (by rw [List.length_map, List.length_map, hll]) hl hm (.inr ⟨a', rfl, by simp, fun i hi => ?_⟩)⟩
    · obtain ⟨t, ht, rfl⟩ := List.mem_map.1 hs
      have := h2 t ht; omega
    · refine ⟨_, hcell i (by omega), rfl, AV.str (ss.getD i ByteArray.empty).data.toList, ?_, rfl, by simp [AV.str, RepC, Value.cells]⟩
      rw [List.getElem?_map, List.getElem?_map, List.getElem?_take, if_pos hi, List.getD_eq_getElem?_getD, List.getElem?_eq_getElem (by omega)]; rfl
end Go.Proofs.YtgjndpgcpohnoaaGreatDoor.Srs
end

section
set_option linter.unusedVariables false
set_option linter.unusedSimpArgs false
set_option linter.unusedSectionVars false
namespace Go.Vl

section mem
variable {x : Cx} {L : List (Tmp × Bool × AV)} {M : List ME} {ops : Array Oper} {Q : Exit → Act → World → Prop} {rest : List Oper} {ty : TypeId} {pos : String} {aft : Array Edge}

/-- an operation with a value, in whatever new state -/
theorem W.opv {ι : Type} {d : Tmp} {op : Op} (Mf : ι → List ME) (af : ι → AV) (hd : Nat.blt d x.n = true)
    (step : ∀ a w, St x L M a w → ∃ v w' z, (execOp a.eval ⟨none, op, ty, "", #[], none⟩).run x.P w = .ok (.value v) w' ∧ St x L (Mf z) a w' ∧ Rep w' (bl (Mf z) ++ x.F) (af z) v)
    (next : ∀ z, W x ((d, true, af z) :: L) (Mf z) (wpList x.P ops Q rest)) : W x L M (wpList x.P ops Q (⟨some d, op, ty, pos, aft, none⟩ :: rest)) := by
  intro a w hs
  obtain ⟨v, w', z, hr, hs', hv⟩ := step a w hs
  refine wpList_cons_want (by simp [Region.wanted]) ?_
  unfold Oper.wp
  rw [execOp_bare, hr]
  exact next z _ _ (hs'.put hd true _ v (fun _ => hv) (by simp))
/-- an operation without a value -/
theorem W.opu {ι : Type} {op : Op} (Mf : ι → List ME)
    (step : ∀ a w, St x L M a w → ∃ w' z, (execOp a.eval ⟨none, op, ty, "", #[], none⟩).run x.P w = .ok .skip w' ∧ St x L (Mf z) a w')
    (next : ∀ z, W x L (Mf z) (wpList x.P ops Q rest)) : W x L M (wpList x.P ops Q (⟨none, op, ty, pos, aft, none⟩ :: rest)) := by
  intro a w hs
  obtain ⟨w', z, hr, hs'⟩ := step a w hs
  refine wpList_cons_want (by simp [Region.wanted]) ?_
  unfold Oper.wp
  rw [execOp_bare, hr]
  exact next z _ _ hs'

theorem alloc_new (w : World) (o : Obj) : (w.alloc o).heap[w.heap.size]? = some o := by
  show (w.heap.push o)[w.heap.size]? = _
  simp
theorem alloc_old (w : World) (o : Obj) {k : Nat} (h : k < w.heap.size) : (w.alloc o).heap[k]? = w.heap[k]? := by
  show (w.heap.push o)[k]? = _
  rw [Array.getElem?_push, if_neg (by omega)]

theorem nl_lt {a : Act} {w : World} (hs : St x L M a w) : ∀ b ∈ bl M ++ x.F, b < w.heap.size := by
  intro b hb
  rcases List.mem_append.1 hb with hb | hb
  · exact bl_lt hs.mem b hb
  · exact Nat.lt_of_lt_of_le (hs.old b hb) hs.fr.size

/-- a new block that is one of the call's own -/
theorem St.alloc {a : Act} {w : World} (hs : St x L M a w) (o : Obj) (m : ME) (hb : m.blks = [w.heap.size]) (hm : ∀ N, (∀ b, b ∈ N ↔ b = w.heap.size ∨ b ∈ bl M ++ x.F) → m.holds (w.alloc o) N) :
    St x L (m :: M) a (w.alloc o) := by
  have hbl : bl (m :: M) = w.heap.size :: bl M := by simp [bl, hb]
  have hlt := nl_lt hs
  have hk : Keep w (bl M ++ x.F) (w.alloc o) (bl (m :: M) ++ x.F) := by
    intro b c T fr hn hc
    have hb' := heap_lt hc
    refine ⟨?_, by rw [alloc_old w o hb']; exact hc⟩
    rw [hbl, List.cons_append, List.mem_cons]
    rintro (h | h)
    · omega
    · exact hn h
  refine hs.world hk ⟨?_, ?_, ?_⟩ ⟨hs.fr.os, hs.fr.tape, hs.fr.output, ?_, ?_⟩
  · rw [hbl, List.nodup_cons]
    exact ⟨fun h => by have := bl_lt hs.mem _ h; omega, hs.mem.nodup⟩
  · intro b hb' hF
    rw [hbl, List.mem_cons] at hb'
    rcases hb' with rfl | hb'
    · have := hs.old _ hF; have := hs.fr.size; omega
    · exact hs.mem.apart b hb' hF
  · intro m' hm'
    rcases List.mem_cons.1 hm' with rfl | hm'
    · exact hm _ (fun b => by rw [hbl, List.cons_append, List.mem_cons])
    · refine ME.holds_keep hk ?_ (hs.mem.holds m' hm')
      intro b hb'
      exact alloc_old w o (ME.blk_some (hs.mem.holds m' hm') b hb')
  · rw [World.size_alloc]; have := hs.fr.size; omega
  · intro k hk' hn
    have h1 := hs.fr.block k hk' hn
    have hkw : k < w.heap.size := Nat.lt_of_lt_of_le hk' hs.fr.size
    refine ⟨by rw [alloc_old w o hkw]; exact h1.1, ?_⟩
    rw [hbl, List.mem_cons]
    rintro (h | h)
    · omega
    · exact h1.2 h

/-- a new block that nothing will write -/
theorem St.allocI {a : Act} {w : World} (hs : St x L M a w) (o : Obj) : St x L M a (w.alloc o) ∧ Keep w (bl M ++ x.F) (w.alloc o) (bl M ++ x.F) ∧ w.heap.size ∉ bl M ++ x.F := by
  have hlt := nl_lt hs
  have hk : Keep w (bl M ++ x.F) (w.alloc o) (bl M ++ x.F) := fun b c T fr hn hc => ⟨hn, by rw [alloc_old w o (heap_lt hc)]; exact hc⟩
  refine ⟨hs.world hk ⟨hs.mem.nodup, hs.mem.apart, ?_⟩ ⟨hs.fr.os, hs.fr.tape, hs.fr.output, ?_, ?_⟩, hk, fun h => by have := hlt _ h; omega⟩
  · intro m hm
    refine ME.holds_keep hk ?_ (hs.mem.holds m hm)
    intro b hb
    exact alloc_old w o (ME.blk_some (hs.mem.holds m hm) b hb)
  · rw [World.size_alloc]; have := hs.fr.size; omega
  · intro k hk' hn
    have h1 := hs.fr.block k hk' hn
    exact ⟨by rw [alloc_old w o (Nat.lt_of_lt_of_le hk' hs.fr.size)]; exact h1.1, h1.2⟩

/-- a draw, or anything else that turns no block -/
theorem St.same {a : Act} {w w' : World} (hs : St x L M a w) (hh : w'.heap = w.heap) (h1 : w'.os = w.os) (h2 : w'.tape = w.tape) (h3 : w'.output = w.output) : St x L M a w' := by
  have hk : Keep w (bl M ++ x.F) w' (bl M ++ x.F) := fun b c T fr hn hc => ⟨hn, by rw [hh]; exact hc⟩
  refine hs.world hk ⟨hs.mem.nodup, hs.mem.apart, ?_⟩ ⟨h1.trans hs.fr.os, h2.trans hs.fr.tape, h3.trans hs.fr.output, by rw [hh]; exact hs.fr.size, by rw [hh]; exact hs.fr.block⟩
  intro m hm
  exact ME.holds_keep hk (fun b _ => by rw [hh]) (hs.mem.holds m hm)

/-! ### variables with an address -/
theorem W.alloc {d : Tmp} {T : TypeId} {k bytes : Nat} {z : Value} (hT : Ty x.P T k bytes z) (hz : z.cells.toList.all (fun v => shV v == 0) = true) (hd : Nat.blt d x.n = true)
    (next : ∀ b, W x ((d, true, .lit (.pointer (some ⟨b, 0, none⟩))) :: L) (.box b T (z.cells.toList.map .lit) :: M) (wpList x.P ops Q rest)) :
    W x L M (wpList x.P ops Q (⟨some d, .alloc T, ty, pos, aft, none⟩ :: rest)) := by
  refine W.opv (ι := Nat) (fun b => .box b T (z.cells.toList.map .lit) :: M) (fun b => .lit (.pointer (some ⟨b, 0, none⟩))) hd ?_ next
  intro a w hs
  refine ⟨.pointer (some ⟨w.heap.size, 0, none⟩), w.alloc (.cells z.cells T), w.heap.size, ?_, ?_, Rep.lit _⟩
  · have := hT.zero w
    simp [execOp, Instr.alloc, this, newVar, newRow]
  · refine hs.alloc _ _ rfl ?_
    intro N hN
    refine ⟨z.cells, alloc_new _ _, ?_⟩
    generalize z.cells.toList = l at hz
    induction l with
    | nil => simp [RepL]
    | cons v l ih =>
      simp only [List.all_cons, Bool.and_eq_true, beq_iff_eq] at hz
      simp only [List.map_cons, RepL]
      exact ⟨v, l, rfl, ⟨hz.1, hz.1, by simp only [RepC, cells_of_sh hz.1]⟩, ih hz.2⟩

theorem W.box {d : Tmp} {T : TypeId} {o : Operand} {av : AV} (h1 : Ov true L o av) (ho : av.okc = true) (hd : Nat.blt d x.n = true)
    (next : ∀ b, W x ((d, true, .lit (.pointer (some ⟨b, 0, none⟩))) :: L) (.box b T av.cells :: M) (wpList x.P ops Q rest)) :
    W x L M (wpList x.P ops Q (⟨some d, .box T o, ty, pos, aft, none⟩ :: rest)) := by
  refine W.opv (ι := Nat) (fun b => .box b T av.cells :: M) (fun b => .lit (.pointer (some ⟨b, 0, none⟩))) hd ?_ next
  intro a w hs
  have hr := h1.rep rfl hs
  refine ⟨.pointer (some ⟨w.heap.size, 0, none⟩), w.alloc (.cells (a.eval o).cells T), w.heap.size, ?_, ?_, Rep.lit _⟩
  · simp [execOp, Instr.box, newVar, newRow]
  · refine hs.alloc _ _ rfl ?_
    intro N hN
    refine ⟨_, alloc_new _ _, RepL.keep ?_ _ _ (hr.toL ho)⟩
    intro b c T fr hn hc
    refine ⟨fun h => ?_, by rw [alloc_old _ _ (heap_lt hc)]; exact hc⟩
    rcases (hN b).1 h with h | h
    · have := heap_lt hc; omega
    · exact hn h

/-- cells put over others -/
def wr (cur : Array Value) (off : Nat) (news : List Value) : Array Value := (cur.toList.take off ++ news ++ cur.toList.drop (off + news.length)).toArray
theorem wr_nil (cur : Array Value) (off : Nat) : wr cur off [] = cur := by simp [wr]
theorem wr_size (cur : Array Value) (off : Nat) (news : List Value) (h : off + news.length ≤ cur.size) : (wr cur off news).size = cur.size := by
  simp [wr]; omega
theorem wr_cons (cur : Array Value) (off : Nat) (v : Value) (news : List Value) (h : off + (news.length + 1) ≤ cur.size) : wr (cur.setIfInBounds off v) (off + 1) news = wr cur off (v :: news) := by
  have hlt : off < cur.toList.length := by simp; omega
  unfold wr
  congr 1
  rw [Array.toList_setIfInBounds, List.set_eq_take_append_cons_drop, if_pos hlt]
  have hl : (cur.toList.take off).length = off := by simp; omega
  have e1 : (cur.toList.take off ++ v :: cur.toList.drop (off + 1)).take (off + 1) = cur.toList.take off ++ [v] := by
    rw [List.take_append, hl, List.take_of_length_le (by omega)]
    simp
  have e2 : (cur.toList.take off ++ v :: cur.toList.drop (off + 1)).drop (off + 1 + news.length) = cur.toList.drop (off + (news.length + 1)) := by
    rw [List.drop_append, hl, List.drop_of_length_le (by omega), List.nil_append, show off + 1 + news.length - off = news.length + 1 from by omega, List.drop_succ_cons, List.drop_drop]
    congr 1; omega
  rw [e1, e2]
  simp [List.append_assoc]

theorem run_store1 {P : Program} {w : World} {g o : Nat} {cur : Array Value} {T : TypeId} {lo hi : Nat} {v : Value} (h : w.heap[g]? = some (.cells cur T (lo, hi))) (ho : o < cur.size) (hf : hi ≤ lo ∨ o < lo) (hv : shV v = 0) :
    (store ⟨g, o, none⟩ v).run P w = .ok () { w with heap := w.heap.setIfInBounds g (.cells (cur.setIfInBounds o v) T (lo, hi)) } := by
  have hc : w.cell? ⟨g, o, none⟩ = some (cur[o]'ho) := by rw [cell_of h]; simp [ho]
  have hfr : w.frozen? ⟨g, o, none⟩ = false := by
    simp only [World.frozen?, h]
    rcases hf with hf | hf
    · simp; omega
    · simp; omega
  have h1 : v.oneCell' = true := by cases v <;> first | rfl | simp [shV] at hv
  rw [run_store P w _ v _ h1]
  simp only [stored, hc, hfr]
  simp only [Bool.false_eq_true, if_false, World.setCell]
  congr 2
  apply Array.ext_getElem?
  intro i
  rw [Array.getElem?_modify, Array.getElem?_setIfInBounds]
  by_cases e : g = i
  · subst e
    have hlt := heap_lt h
    rw [if_pos rfl, h, if_pos rfl, if_pos hlt]
    rfl
  · rw [if_neg e, if_neg e]

theorem run_storeCells {P : Program} {g off : Nat} {T : TypeId} {lo hi : Nat} : ∀ (news : List Value) (i : Nat) (cur : Array Value) (w : World), w.heap[g]? = some (.cells cur T (lo, hi)) → off + i + news.length ≤ cur.size →
    (hi ≤ lo ∨ off + i + news.length ≤ lo) → (∀ v ∈ news, shV v = 0) → (storeCells ⟨g, off, none⟩ news i).run P w = .ok () { w with heap := w.heap.setIfInBounds g (.cells (wr cur (off + i) news) T (lo, hi)) }
  | [], i, cur, w, h, _, _, _ => by
    have e : w.heap.setIfInBounds g (.cells cur T (lo, hi)) = w.heap := by
      apply Array.ext_getElem?
      intro j
      rw [Array.getElem?_setIfInBounds]
      by_cases e : g = j
      · subst e; rw [if_pos rfl, if_pos (heap_lt h), h]
      · rw [if_neg e]
    simp [storeCells, wr_nil, e]
  | v :: news, i, cur, w, h, hl, hf, hv => by
    simp only [List.length_cons] at hl hf
    have h1 := run_store1 (P := P) (w := w) (v := v) h (o := off + i) (by omega) (by omega) (hv v (by simp))
    have hlt := heap_lt h
    have h2 := run_storeCells (P := P) (g := g) (T := T) (lo := lo) (hi := hi) (off := off) news (i + 1) (cur.setIfInBounds (off + i) v) { w with heap := w.heap.setIfInBounds g (.cells (cur.setIfInBounds (off + i) v) T (lo, hi)) }
      (by simp [hlt]) (by simp; omega) (by omega) (fun u hu => hv u (by simp [hu]))
    simp only [storeCells, Sem.run_bind, Addr.add_lit, h1, Result.andThen_ok, h2]
    rw [show off + (i + 1) = off + i + 1 from by omega, wr_cons cur (off + i) v news (by omega)]
    congr 2
    apply Array.ext_getElem?
    intro j
    simp only [Array.getElem?_setIfInBounds, Array.size_setIfInBounds]
    by_cases e : g = j
    · subst e; simp [hlt]
    · simp [e]

/-- one of the call's own blocks is written -/
theorem St.write {a : Act} {w : World} (hs : St x L M a w) {i : Nat} {m m' : ME} {g : Nat} {o : Obj} (hM : M[i]? = some m) (hg : m.blks = [g]) (hg' : m'.blks = [g])
    (hm' : ∀ w', (∀ b, b ≠ g → w'.heap[b]? = w.heap[b]?) → w'.heap[g]? = some o → Keep w (bl M ++ x.F) w' (bl M ++ x.F) → m'.holds w' (bl M ++ x.F)) :
    St x L (M.set i m') a { w with heap := w.heap.setIfInBounds g o } := by
  have hlt : i < M.length := by
    rcases Nat.lt_or_ge i M.length with h | h
    · exact h
    · rw [List.getElem?_eq_none h] at hM; cases hM
  have hmem : m ∈ M := List.mem_of_getElem? hM
  have hgM : g ∈ bl M := by simp only [bl, List.mem_flatMap]; exact ⟨m, hmem, by simp [hg]⟩
  have hgw : g < w.heap.size := bl_lt hs.mem g hgM
  have hsplit : M = M.take i ++ m :: M.drop (i + 1) := by
    have := List.getElem?_eq_some_iff.1 hM
    obtain ⟨h1, h2⟩ := this
    rw [← h2]; simp
  have hset : M.set i m' = M.take i ++ m' :: M.drop (i + 1) := by rw [List.set_eq_take_append_cons_drop, if_pos hlt]
  have hbl : bl (M.set i m') = bl M := by
    rw [hset]
    conv => rhs; rw [hsplit]
    simp [bl, hg, hg']
  have hother : ∀ b, b ≠ g → ({ w with heap := w.heap.setIfInBounds g o } : World).heap[b]? = w.heap[b]? := fun b hb => by
    show (w.heap.setIfInBounds g o)[b]? = _
    rw [Array.getElem?_setIfInBounds, if_neg (fun e => hb e.symm)]
  have hnew : ({ w with heap := w.heap.setIfInBounds g o } : World).heap[g]? = some o := by
    show (w.heap.setIfInBounds g o)[g]? = _
    rw [Array.getElem?_setIfInBounds, if_pos rfl, if_pos hgw]
  have hk0 : Keep w (bl M ++ x.F) { w with heap := w.heap.setIfInBounds g o } (bl M ++ x.F) := by
    intro b c T fr hn hc
    refine ⟨hn, ?_⟩
    rw [hother b (fun e => hn (by subst e; exact List.mem_append_left _ hgM))]
    exact hc
  have hk : Keep w (bl M ++ x.F) { w with heap := w.heap.setIfInBounds g o } (bl (M.set i m') ++ x.F) := by rw [hbl]; exact hk0
  refine hs.world hk ⟨by rw [hbl]; exact hs.mem.nodup, by rw [hbl]; exact hs.mem.apart, ?_⟩ ⟨hs.fr.os, hs.fr.tape, hs.fr.output, ?_, ?_⟩
  · rw [hbl]
    intro m₁ hm₁
    rcases List.mem_or_eq_of_mem_set hm₁ with h | h
    · -- it may be the old one at another place: its blocks are others
      rw [hset] at hm₁
      rcases List.mem_append.1 hm₁ with h1 | h1
      · refine ME.holds_keep hk0 ?_ (hs.mem.holds m₁ h)
        intro b hb
        refine hother b ?_
        rintro rfl
        have hnd := hs.mem.nodup
        rw [hsplit] at hnd
        simp only [bl, List.flatMap_append, List.flatMap_cons, hg] at hnd
        exact (List.nodup_append.1 hnd).2.2 b (by simp only [List.mem_flatMap]; exact ⟨m₁, h1, hb⟩) b (by simp) rfl
      · rcases List.mem_cons.1 h1 with rfl | h1
        · exact hm' _ hother hnew hk0
        · refine ME.holds_keep hk0 ?_ (hs.mem.holds m₁ h)
          intro b hb
          refine hother b ?_
          rintro rfl
          have hnd := hs.mem.nodup
          rw [hsplit] at hnd
          simp only [bl, List.flatMap_append, List.flatMap_cons, hg] at hnd
          have h2 := (List.nodup_append.1 hnd).2.1
          simp only [List.cons_append, List.nil_append, List.nodup_cons] at h2
          exact h2.1 (by simp only [List.mem_flatMap]; exact ⟨m₁, h1, hb⟩)
    · rw [h]; exact hm' _ hother hnew hk0
  · simpa using hs.fr.size
  · intro k hk' hn
    have h1 := hs.fr.block k hk' hn
    rw [hbl]
    refine ⟨?_, h1.2⟩
    rw [hother k (fun e => h1.2 (e ▸ hgM))]
    exact h1.1

theorem RepL.append {w : World} {N : List Nat} : ∀ {cs ds : List AV} {r s : List Value}, RepL w N cs r → RepL w N ds s → RepL w N (cs ++ ds) (r ++ s)
  | [], ds, r, s, h, h' => by simp only [RepL] at h; subst h; simpa using h'
  | c :: cs, ds, r, s, h, h' => by
    simp only [RepL] at h
    obtain ⟨v, vs, rfl, h1, h2⟩ := h
    simp only [List.cons_append, RepL]
    exact ⟨v, _, rfl, h1, RepL.append h2 h'⟩
theorem RepL.sh {w : World} {N : List Nat} : ∀ {cs : List AV} {r : List Value}, RepL w N cs r → ∀ v ∈ r, shV v = 0
  | [], r, h => by simp only [RepL] at h; subst h; simp
  | c :: cs, r, h => by
    simp only [RepL] at h
    obtain ⟨v, vs, rfl, h1, h2⟩ := h
    intro u hu
    rcases List.mem_cons.1 hu with rfl | hu
    · exact h1.2.1
    · exact RepL.sh h2 u hu

/-- cells put over others -/
def splice (cs : List AV) (o : Nat) (new : List AV) : List AV := cs.take o ++ new ++ cs.drop (o + new.length)
theorem RepL.splice {w : World} {N : List Nat} {cs new : List AV} {cur : Array Value} {news : List Value} {o : Nat} (h : RepL w N cs cur.toList) (hn : RepL w N new news) : RepL w N (splice cs o new) (wr cur o news).toList := by
  unfold Vl.splice wr
  rw [List.toList_toArray, hn.length]
  exact ((h.take o).append hn).append (h.drop _)

theorem W.stb (i : Nat) {b o U T k bytes : Nat} {z : Value} {o1 o2 : Operand} {cs : List AV} {av : AV} (h1 : Ov true L o1 (.lit (.pointer (some ⟨b, o, none⟩)))) (h2 : Ov true L o2 av) (hM : M[i]? = some (.box b U cs)) (hT : Ty x.P T k bytes z)
    (ho : av.okc = true) (hk : av.cells.length = k) (hl : Nat.ble (o + k) cs.length = true)
    (next : W x L (M.set i (.box b U (splice cs o av.cells))) (wpList x.P ops Q rest)) :
    W x L M (wpList x.P ops Q (⟨none, .store T o1 o2, ty, pos, aft, none⟩ :: rest)) := by
  refine W.opu (ι := Unit) (fun _ => M.set i (.box b U (splice cs o av.cells))) ?_ (fun _ => next)
  intro a w hs
  have hr := h2.rep rfl hs
  have hrl := hr.toL ho
  have hlen := hrl.length
  obtain ⟨cur, hc, hcs⟩ := box_at (N := []) hs.mem hM
  have hcl := hcs.length
  have hl' := Nat.le_of_ble_eq_true hl
  simp at hlen hcl
  have hst := run_storeCells (P := x.P) (g := b) (off := o) (T := U) (lo := 0) (hi := 0) (a.eval o2).cells.toList 0 cur w hc (by simp; omega) (.inl (Nat.le_refl _)) hrl.sh
  refine ⟨{ w with heap := w.heap.setIfInBounds b (.cells (wr cur o (a.eval o2).cells.toList) U (0, 0)) }, (), ?_, ?_⟩
  · have hne : ¬ ((a.eval o2).cells.size ≠ k) := by omega
    simp only [execOp, h1.lit rfl hs, Instr.storeAt, Instr.sureAddr, storeVar, Sem.run_bind, Sem.run_pure, Result.andThen_ok, hT.size, if_neg hne, hst, Nat.add_zero]
  · refine hs.write hM rfl rfl ?_
    intro w' hother hnew hk'
    exact ⟨_, hnew, (RepL.keep hk' _ _ hcs).splice (RepL.keep hk' _ _ hrl)⟩

/-! ### rows that are built -/
/-- parts in their order, each of k cells -/
def PartsOv (L : List (Tmp × Bool × AV)) (k : Nat) : Nat → List (Nat × Operand) → List AV → Prop
  | _, [], [] => True
  | i, (j, o) :: ps, a :: as_ => j = i ∧ Ov true L o a ∧ a.okc = true ∧ a.cells.length = k ∧ PartsOv L k (i + 1) ps as_
  | _, _, _ => False

theorem foldl_set (new : List Value) : ∀ (off j : Nat) (cells : Array Value), off + j + new.length ≤ cells.size →
    (new.zipIdx j).foldl (fun cs (c, j) => cs.setIfInBounds (off + j) c) cells = wr cells (off + j) new := by
  induction new with
  | nil => intro off j cells h; simp [wr_nil]
  | cons v new ih =>
    intro off j cells h
    simp only [List.length_cons] at h
    rw [List.zipIdx_cons, List.foldl_cons]
    rw [ih off (j + 1) (cells.setIfInBounds (off + j) v) (by simp; omega)]
    exact wr_cons cells (off + j) v new (by omega)

theorem RepE.of_parts {w : World} {a : Act} (hs : St x L M a w) {k : Nat} : ∀ {i : Nat} {ps : List (Nat × Operand)} {es : List AV} {cells : Array Value}, PartsOv L k i ps es → (i + es.length) * k ≤ cells.size →
    ∃ cells', Instr.fill (fun i => some (i * k, k)) cells (ps.map fun (i, o) => (i, a.eval o)) = some cells' ∧ cells'.size = cells.size ∧ cells'.toList.take (i * k) = cells.toList.take (i * k) ∧
      RepE w (bl M ++ x.F) k es (cells'.toList.drop (i * k))
  | i, [], [], cells, _, _ => ⟨cells, rfl, rfl, rfl, by simp [RepE]⟩
  | i, (j, o) :: ps, e :: es, cells, h, hsz => by
    obtain ⟨rfl, h1, ho, hk, h2⟩ := h
    have hr := h1.rep rfl hs
    have hrl := hr.toL ho
    have hlen : (a.eval o).cells.size = k := by have := hrl.length; simp at this; omega
    simp only [List.length_cons] at hsz
    have hmul : (j + (es.length + 1)) * k = j * k + (es.length * k + k) := by rw [Nat.add_mul, Nat.add_mul, Nat.one_mul]
    have hmul2 : (j + 1 + es.length) * k = j * k + (es.length * k + k) := by rw [Nat.add_mul, Nat.add_mul, Nat.one_mul]; omega
    have hfold := foldl_set (a.eval o).cells.toList (j * k) 0 cells (by simp [hlen]; omega)
    rw [Nat.add_zero] at hfold
    have hw1 : (wr cells (j * k) (a.eval o).cells.toList).size = cells.size := wr_size _ _ _ (by simp [hlen]; omega)
    obtain ⟨cells', hf, hsz', htk, hE⟩ := RepE.of_parts hs (cells := wr cells (j * k) (a.eval o).cells.toList) h2 (by rw [hw1, hmul2]; omega)
    have hjk : (j + 1) * k = j * k + k := by rw [Nat.add_mul, Nat.one_mul]
    have htk1 : cells'.toList.take (j * k + k) = cells.toList.take (j * k) ++ (a.eval o).cells.toList := by
      rw [← hjk, htk, hjk]
      simp only [wr, List.toList_toArray]
      rw [List.take_append_of_le_length (by simp [hlen]; omega), List.take_of_length_le (by simp [hlen]; omega)]
    refine ⟨cells', ?_, hsz'.trans hw1, ?_, ?_⟩
    · have hne : ¬ ((a.eval o).cells.size ≠ k ∨ j * k + (a.eval o).cells.size > cells.size) := by rw [hlen]; omega
      simp only [List.map_cons, Instr.fill]
      have e1 : ((a.eval o).cells.size != k || decide (j * k + (a.eval o).cells.size > cells.size)) = false := by
        rw [hlen]; simp; omega
      rw [if_neg (by simpa using hne)]
      rw [← hf]
      congr 1
      rw [← hfold]
      rw [← Array.foldl_toList, Array.toList_zipIdx]
    · have := congrArg (List.take (j * k)) htk1
      rw [List.take_take, Nat.min_eq_left (by omega), List.take_append_of_le_length (by simp; omega), List.take_take, Nat.min_self] at this
      exact this
    · simp only [RepE]
      have hd : cells'.toList.drop (j * k) = (a.eval o).cells.toList ++ cells'.toList.drop ((j + 1) * k) := by
        have e1 := List.take_append_drop (j * k + k) cells'.toList
        rw [htk1, List.append_assoc] at e1
        have e2 := congrArg (List.drop (j * k)) e1
        rw [List.drop_append_of_le_length (by simp; omega), List.drop_of_length_le (by simp; omega), List.nil_append] at e2
        rw [← e2, hjk]
      rw [hd]
      refine ⟨by simp [hlen], ?_, ?_⟩
      · rw [List.take_append_of_le_length (by simp [hlen]), List.take_of_length_le (by simp [hlen])]
        exact hr.2
      · rw [List.drop_append_of_le_length (by simp [hlen]), List.drop_of_length_le (by simp [hlen]), List.nil_append]
        exact hE
  | _, [], _ :: _, _, h, _ => h.elim
  | _, _ :: _, [], _, h, _ => h.elim

theorem PartsOv.length {k : Nat} : ∀ {i : Nat} {ps : List (Nat × Operand)} {es : List AV}, PartsOv L k i ps es → ps.length = es.length
  | _, [], [], _ => rfl
  | _, (_, _) :: ps, _ :: es, h => by simp [PartsOv.length h.2.2.2.2]
  | _, [], _ :: _, h => h.elim
  | _, _ :: _, [], h => h.elim

theorem run_buildSlice {a : Act} {w : World} (hs : St x L M a w) {T E k bytes n : Nat} {z : Value} {ps : List (Nat × Operand)} {es : List AV} (hT : x.P.underlying T = some (.slice E)) (hE : Ty x.P E k bytes z) (hp : PartsOv L k 0 ps es) (hn : n = es.length) (hb : n * k ≤ 16777216) :
    ∃ cells, (execOp a.eval ⟨none, .buildSlice T n ps.toArray, ty, "", #[], none⟩).run x.P w = .ok (.value (.slice (some ⟨w.heap.size, 0, none⟩) n n)) (w.alloc (.cells cells E)) ∧ cells.size = n * k ∧ RepE w (bl M ++ x.F) k es cells.toList := by
  have key : ∀ zc : Array Value, ∃ cells', Instr.fill (fun i => some (i * k, k)) ((Array.range (n * k)).map (zc[· % zc.size]!)) (ps.toArray.map fun p => (p.1, a.eval p.2)).toList = some cells' ∧ cells'.size = n * k ∧ RepE w (bl M ++ x.F) k es cells'.toList := by
    intro zc
    obtain ⟨cells', hf, hsz, _, hrE⟩ := RepE.of_parts hs (cells := (Array.range (n * k)).map (zc[· % zc.size]!)) hp (by simp [hn])
    exact ⟨cells', by rw [← hf]; congr 1; simp, by simpa using hsz, by simpa using hrE⟩
  by_cases h0 : n * k = 0
  · obtain ⟨cells', hf, hsz, hrE⟩ := key #[]
    refine ⟨cells', ?_, hsz, hrE⟩
    simp only [execOp, Instr.buildSlice, Sem.run_bind, run_underlying hT, Result.andThen_ok, hE.size, if_neg (show ¬ n * k > 2 ^ 24 by omega), Sem.run_pure, if_pos h0]
    rw [hf]
    simp [newRow]
  · obtain ⟨cells', hf, hsz, hrE⟩ := key z.cells
    refine ⟨cells', ?_, hsz, hrE⟩
    simp only [execOp, Instr.buildSlice, Sem.run_bind, run_underlying hT, Result.andThen_ok, hE.size, hE.zero, if_neg (show ¬ n * k > 2 ^ 24 by omega), Sem.run_pure, if_neg h0]
    rw [hf]
    simp [newRow]

/-- A row that nothing will write. -/
theorem W.bs {d : Tmp} {T E k bytes n : Nat} {z : Value} {ps : List (Nat × Operand)} {es : List AV} (hT : x.P.underlying T = some (.slice E)) (hE : Ty x.P E k bytes z) (hp : PartsOv L k 0 ps es) (hn : n = es.length) (hb : n * k ≤ 16777216) (hk1 : Nat.ble 1 k = true) (hd : Nat.blt d x.n = true)
    (next : W x ((d, true, .sl k es) :: L) M (wpList x.P ops Q rest)) : W x L M (wpList x.P ops Q (⟨some d, .buildSlice T n ps.toArray, ty, pos, aft, none⟩ :: rest)) := by
  refine W.opv (ι := Unit) (fun _ => M) (fun _ => .sl k es) hd ?_ (fun _ => next)
  intro a w hs
  obtain ⟨cells, hr, hsz, hrE⟩ := run_buildSlice (ty := ty) hs hT hE hp hn hb
  obtain ⟨hs', hk, hnew⟩ := hs.allocI (.cells cells E)
  refine ⟨_, _, (), hr, hs', ?_⟩
  rw [hn]
  refine Rep.slI (Nat.le_refl _) ?_ (.inr ⟨w.heap.size, 0, cells, E, (0, 0), rfl, hnew, alloc_new _ _, RepE.keep hk _ _ _ (by simpa using hrE)⟩)
  have : es.length ≤ n * k := by rw [hn]; exact Nat.le_mul_of_pos_right _ (Nat.le_of_ble_eq_true hk1)
  simp only [maxLen]; omega
/-- A row of the call's own. -/
theorem W.bso {d : Tmp} {T E k bytes n : Nat} {z : Value} {ps : List (Nat × Operand)} {es : List AV} (hT : x.P.underlying T = some (.slice E)) (hE : Ty x.P E k bytes z) (hp : PartsOv L k 0 ps es) (hn : n = es.length) (hb : n * k ≤ 16777216) (hk1 : Nat.ble 1 k = true) (hd : Nat.blt d x.n = true)
    (next : ∀ v, W x ((d, true, .lit v) :: L) (.arr v E k es :: M) (wpList x.P ops Q rest)) : W x L M (wpList x.P ops Q (⟨some d, .buildSlice T n ps.toArray, ty, pos, aft, none⟩ :: rest)) := by
  refine W.opv (ι := Value) (fun v => .arr v E k es :: M) (fun v => .lit v) hd ?_ next
  intro a w hs
  obtain ⟨cells, hr, hsz, hrE⟩ := run_buildSlice (ty := ty) hs hT hE hp hn hb
  refine ⟨_, _, .slice (some ⟨w.heap.size, 0, none⟩) n n, hr, ?_, Rep.lit _⟩
  refine hs.alloc _ _ rfl ?_
  intro N hN
  have hle : es.length ≤ n * k := by rw [hn]; exact Nat.le_mul_of_pos_right _ (Nat.le_of_ble_eq_true hk1)
  refine ⟨some ⟨w.heap.size, 0, none⟩, n, by rw [hn], by omega, by simp only [maxLen]; omega, .inr ⟨w.heap.size, 0, cells, 0, 0, rfl, alloc_new _ _, by omega, .inl (Nat.le_refl _), ?_⟩⟩
  refine RepE.keep ?_ _ _ _ (by simpa using hrE)
  intro b c T fr hn hc
  refine ⟨fun h => ?_, by rw [alloc_old _ _ (heap_lt hc)]; exact hc⟩
  rcases (hN b).1 h with h | h
  · have := heap_lt hc; omega
  · exact hn h
end mem
end Go.Vl
end

section
set_option linter.unusedVariables false
set_option linter.unusedSimpArgs false
set_option linter.unusedSectionVars false
namespace Go.Vl

abbrev En := Tmp × Bool × AV

def sel (r : List Tmp) : List En → List En
  | [] => []
  | e :: L => bif r.any (Nat.beq e.1) then e :: sel r L else sel r L

theorem any_beq {r : List Tmp} {t : Tmp} : r.any (Nat.beq t) = true ↔ t ∈ r := by
  rw [List.any_eq_true]
  constructor
  · rintro ⟨u, hu, h⟩; exact (Nat.eq_of_beq_eq_true h) ▸ hu
  · intro h; exact ⟨t, h, Nat.beq_refl t⟩
theorem look_sel (r : List Tmp) (L : List En) (t : Tmp) : look (sel r L) t = if t ∈ r then look L t else none := by
  induction L with
  | nil => simp [sel, look]
  | cons e L ih =>
    obtain ⟨u, p⟩ := e
    rw [sel]
    cases hb : r.any (Nat.beq u) with
    | true =>
      have hu := any_beq.1 hb
      simp only [cond_true]
      rw [look_cons, look_cons, ih]
      by_cases e : u = t
      · subst e; simp [hu]
      · simp [e]
    | false =>
      have hu : u ∉ r := fun h => by rw [any_beq.2 h] at hb; cases hb
      simp only [cond_false]
      rw [ih, look_cons]
      by_cases e : u = t
      · subst e; simp [hu]
      · simp [e]

section draw
variable {x : Cx} {L : List En} {M : List ME} {Q : Exit → Act → World → Prop}

/-- an operation that only adds to memory, and what it gives -/
def Sv (x : Cx) (L : List En) (M : List ME) (o : Oper) (av : AV) : Prop :=
  ∀ a w, St x L M a w → ∀ (K : Act → World → Prop) (Q : Exit → Act → World → Prop),
    (∀ v w', Keep w (bl M ++ x.F) w' (bl M ++ x.F) → MOk w' M x.F → Fr x.w0 x.N0 w' (bl M) → Rep w' (bl M ++ x.F) av v → K (a.put o.dst v) w') → o.wp x.P a w K Q

def Gd (ops : Array Oper) (L : List En) (o : Oper) (G : Bool) : Prop :=
  (o.guard = none ∧ G = true) ∨ ∃ j want t gb b, o.guard = some (j, want) ∧ (ops[j]?).bind (·.dst) = some t ∧ look L t = some (gb, .lit (.bool b)) ∧ G = (gb && (b == want))

/-- the region's operations in the text's order, each by what it looks at alone -/
def DP (x : Cx) (M : List ME) (ops : Array Oper) (L : List En) (R : Act → World → Prop) : List Oper → List En → Prop
  | [], done => W x (done ++ L) M R
  | o :: rest, done => ∃ d G av, o.dst = some d ∧ Nat.blt d x.n = true ∧ Gd ops (sel (o.looksAt ops) (done ++ L)) o G ∧ (G = true → Sv x (sel (o.looksAt ops) (done ++ L)) M o av) ∧ DP x M ops L R rest ((d, G, av) :: done)

theorem DP.extract {ops : Array Oper} {R : Act → World → Prop} : ∀ {rest : List Oper} {done : List En}, DP x M ops L R rest done →
    ∃ es : List En, es.length = rest.length ∧ (∀ (i : Nat) (o : Oper), rest[i]? = some o → ∃ d G av, es[i]? = some (d, G, av) ∧ o.dst = some d ∧ Nat.blt d x.n = true ∧ Gd ops (sel (o.looksAt ops) ((es.take i).reverse ++ (done ++ L))) o G ∧
      (G = true → Sv x (sel (o.looksAt ops) ((es.take i).reverse ++ (done ++ L))) M o av)) ∧ W x (es.reverse ++ (done ++ L)) M R
  | [], done, h => ⟨[], rfl, by simp, by simpa [DP] using h⟩
  | o :: rest, done, h => by
    obtain ⟨d, G, av, h1, h2, h3, h4, h5⟩ := h
    obtain ⟨es, e1, e2, e3⟩ := DP.extract h5
    refine ⟨(d, G, av) :: es, by simp [e1], ?_, by simpa using e3⟩
    intro i o' ho'
    cases i with
    | zero => simp at ho'; subst ho'; exact ⟨d, G, av, rfl, h1, h2, by simpa using h3, by simpa using h4⟩
    | succ i =>
      obtain ⟨d', G', av', f1, f2, f3, f4, f5⟩ := e2 i o' (by simpa using ho')
      exact ⟨d', G', av', by simpa using f1, f2, f3, by simpa using f4, by simpa using f5⟩

/-- what is asked of the operations' edges: decided by looking -/
def okDraw (ops : Array Oper) : Bool :=
  (List.range ops.size).all fun i => match ops[i]? with
    | none => false
    | some oi => oi.after.all (fun e => e.on < i) && (List.range ops.size).all fun j => match ops[j]? with
      | none => false
      | some oj => i == j || (oi.dst != oj.dst && match oj.dst with
        | none => false
        | some d => !(oi.looksAt ops).contains d || (bif j < i then oi.after.any (fun e => Region.binds .any e && e.on == j) else oj.after.any (fun e => Region.binds .any e && e.on == i)))

theorem St.look {L L' : List En} {a : Act} {w : World} (hs : St x L M a w) (h : ∀ t p, look L' t = some p → Vl.look L t = some p) : St x L' M a w :=
  ⟨hs.defers, hs.size, fun t g av hl => hs.slots t g av (h t _ hl), hs.mem, hs.fr, hs.old⟩

theorem look_append (A L : List En) (t : Tmp) : look (A ++ L) t = (look A t).or (look L t) := by
  induction A with
  | nil => simp [look]
  | cons e A ih =>
    obtain ⟨u, p⟩ := e
    rw [List.cons_append, look_cons, look_cons, ih]
    split <;> simp
theorem look_none {A : List En} {t : Tmp} (h : ∀ e ∈ A, e.1 ≠ t) : look A t = none := by
  induction A with
  | nil => rfl
  | cons e A ih =>
    obtain ⟨u, p⟩ := e
    rw [look_cons, if_neg (h (u, p) (by simp)), ih (fun e he => h e (by simp [he]))]
/-- with keys that differ, an entry is found -/
theorem look_mem {A : List En} {t : Tmp} {p : Bool × AV} (hm : (t, p) ∈ A) (hd : ∀ e ∈ A, ∀ e' ∈ A, e.1 = e'.1 → e = e') : look A t = some p := by
  induction A with
  | nil => simp at hm
  | cons e A ih =>
    obtain ⟨u, q⟩ := e
    rw [look_cons]
    by_cases e : u = t
    · subst e
      have := hd (u, q) (by simp) (u, p) hm rfl
      rw [if_pos rfl]
      cases this; rfl
    · rw [if_neg e]
      refine ih ?_ (fun e he e' he' => hd e (by simp [he]) e' (by simp [he']))
      rcases List.mem_cons.1 hm with h | h
      · cases h; exact absurd rfl e
      · exact h

def esOf (es : List En) (listed : Array Bool) : List En := ((List.range es.length).filter fun i => listed.getD i false).filterMap fun i => es[i]?
theorem mem_esOf {es : List En} {listed : Array Bool} {e : En} : e ∈ esOf es listed ↔ ∃ i, listed.getD i false = true ∧ es[i]? = some e := by
  simp only [esOf, List.mem_filterMap, List.mem_filter, List.mem_range]
  constructor
  · rintro ⟨i, ⟨_, h⟩, h'⟩; exact ⟨i, h, h'⟩
  · rintro ⟨i, h, h'⟩
    refine ⟨i, ⟨?_, h⟩, h'⟩
    rcases Nat.lt_or_ge i es.length with hl | hl
    · exact hl
    · rw [List.getElem?_eq_none hl] at h'; cases h'

theorem count_set : ∀ (ls : List Bool) (i : Nat) (h : i < ls.length), ls[i] = false → ((ls.set i true).filter (!·)).length < (ls.filter (!·)).length
  | [], i, h, _ => by simp at h
  | b :: ls, 0, _, hv => by simp at hv; subst hv; simp
  | b :: ls, i + 1, h, hv => by
    have := count_set ls i (by simpa using h) (by simpa using hv)
    simp only [List.set_cons_succ, List.filter_cons]
    split <;> simp <;> omega

theorem W.drawn {id : Nat} {l : List Oper} (hm : x.P.follows .mixedOrders = true) (hok : okDraw l.toArray = true) (h : DP x M l.toArray L (Q .normal) l []) : W x L M (Code.wp x.P (.region id l.toArray true) Q) := by
  intro a w hs
  obtain ⟨es, hlen, hes, hW⟩ := h.extract
  simp only [List.nil_append] at hes hW
  -- the edges, in words
  have hok' : ∀ (i : Nat) (oi : Oper), l[i]? = some oi → (∀ e ∈ oi.after, e.on < i) ∧ ∀ (j : Nat) (oj : Oper), l[j]? = some oj → i ≠ j → oi.dst ≠ oj.dst ∧ ∀ d, oj.dst = some d → d ∈ oi.looksAt l.toArray →
      (j < i ∧ ∃ e ∈ oi.after, Region.binds .any e = true ∧ e.on = j) ∨ (i < j ∧ ∃ e ∈ oj.after, Region.binds .any e = true ∧ e.on = i) := by
    intro i oi hi
    have hil : i < l.length := by
      rcases Nat.lt_or_ge i l.length with h' | h'
      · exact h'
      · rw [List.getElem?_eq_none h'] at hi; cases hi
    simp only [okDraw, List.size_toArray, List.all_eq_true, List.mem_range] at hok
    have h1 := hok i hil
    rw [List.getElem?_toArray, hi] at h1
    simp only [Bool.and_eq_true, Array.all_eq_true', List.all_eq_true, List.mem_range, decide_eq_true_eq] at h1
    refine ⟨h1.1, fun j oj hj hne => ?_⟩
    have hjl : j < l.length := by
      rcases Nat.lt_or_ge j l.length with h' | h'
      · exact h'
      · rw [List.getElem?_eq_none h'] at hj; cases hj
    have h2 := h1.2 j hjl
    rw [List.getElem?_toArray, hj] at h2
    simp only [Bool.or_eq_true, beq_iff_eq, hne, false_or, Bool.and_eq_true, bne_iff_ne] at h2
    refine ⟨h2.1, fun d hd hdl => ?_⟩
    have h3 := h2.2
    rw [hd] at h3
    simp only [Bool.or_eq_true, Bool.not_eq_true', List.contains_eq_mem, decide_eq_false_iff_not, hdl, not_true_eq_false, false_or] at h3
    by_cases hji : j < i
    · left
      simp only [hji, decide_true, cond_true, Array.any_eq_true', Bool.and_eq_true, beq_iff_eq] at h3
      obtain ⟨e, he, hb, ho⟩ := h3
      exact ⟨hji, e, he, hb, ho⟩
    · right
      simp only [hji, decide_false, cond_false, Array.any_eq_true', Bool.and_eq_true, beq_iff_eq] at h3
      obtain ⟨e, he, hb, ho⟩ := h3
      exact ⟨by omega, e, he, hb, ho⟩
  have hget : ∀ (i : Nat) (e : En), es[i]? = some e → ∃ oi : Oper, l[i]? = some oi ∧ oi.dst = some e.1 := by
    intro i e he
    have hil : i < l.length := by
      rcases Nat.lt_or_ge i es.length with h' | h'
      · omega
      · rw [List.getElem?_eq_none h'] at he; cases he
    obtain ⟨d, G, av, h1, h2, _⟩ := hes i l[i] (List.getElem?_eq_getElem hil)
    rw [he] at h1
    cases h1
    exact ⟨l[i], List.getElem?_eq_getElem hil, h2⟩
  have hkey : ∀ (i j : Nat) (e e' : En), es[i]? = some e → es[j]? = some e' → e.1 = e'.1 → i = j := by
    intro i j e e' hi hj he
    by_cases hne : i = j
    · exact hne
    · obtain ⟨oi, h1, h2⟩ := hget i e hi
      obtain ⟨oj, h3, h4⟩ := hget j e' hj
      exact absurd (by rw [h2, h4, he]) (((hok' i oi h1).2 j oj h3 hne).1)
  have hdist : ∀ listed, ∀ e ∈ esOf es listed, ∀ e' ∈ esOf es listed, e.1 = e'.1 → e = e' := by
    intro listed e he e' he' hk
    obtain ⟨i, _, hi⟩ := mem_esOf.1 he
    obtain ⟨j, _, hj⟩ := mem_esOf.1 he'
    have := hkey i j e e' hi hj hk
    subst this
    rw [hi] at hj; cases hj; rfl
  refine wp_region_any hm ?_
  have key : ∀ (fuel : Nat) (listed : Array Bool) (a : Act) (w : World), listed.size = l.length → (∀ (i : Nat) (o : Oper), l[i]? = some o → listed.getD i false = true → ∀ e ∈ o.after, Region.binds .any e = true → listed.getD e.on false = true) →
      St x (esOf es listed ++ L) M a w → (fuel = 0 → ∀ i, i < l.length → listed.getD i false = true) → (listed.toList.filter (!·)).length ≤ fuel → wpAny x.P .any l.toArray Q fuel listed a w := by
    intro fuel
    have hdone : ∀ (listed : Array Bool) (a : Act) (w : World), listed.size = l.length → St x (esOf es listed ++ L) M a w → Region.ready .any l.toArray listed = [] → Q .normal a w := by
      intro listed a w hsz hs hr
      have hall : ∀ i, i < l.length → listed.getD i false = true := by
        intro i
        induction i using Nat.strongRecOn with
        | _ i ih =>
          intro hi
          cases hli : listed.getD i false with
          | true => rfl
          | false =>
            exfalso
            have : i ∈ Region.ready .any l.toArray listed := by
              simp only [Region.ready, List.mem_filter, List.mem_range, List.size_toArray, Bool.and_eq_true]
              refine ⟨hi, ?_, ?_⟩
              · have : listed.getD i true = false := by
                  rw [Array.getD_eq_getD_getElem?, Array.getElem?_eq_getElem (by omega)] at hli ⊢
                  simpa using hli
                simp [this]
              · rw [List.getElem?_toArray, List.getElem?_eq_getElem hi]
                simp only [Option.map_some, Option.getD_some, Array.all_eq_true', Bool.or_eq_true, Bool.not_eq_true']
                intro e he
                right
                have hlt := (hok' i l[i] (List.getElem?_eq_getElem hi)).1 e he
                exact ih e.on hlt (by omega)
            rw [hr] at this
            cases this
      refine hW a w (hs.look ?_)
      intro t p hl
      rw [look_append] at hl ⊢
      by_cases hk : ∃ e ∈ es, e.1 = t
      · obtain ⟨e, he, rfl⟩ := hk
        obtain ⟨i, hi, hie⟩ := List.getElem_of_mem he
        have hie' : es[i]? = some e := by rw [List.getElem?_eq_getElem hi, hie]
        have h1 : look es.reverse e.1 = some e.2 := look_mem (List.mem_reverse.2 he) (by
          intro e1 he1 e2 he2 hk
          obtain ⟨i1, hi1, hie1⟩ := List.getElem_of_mem (List.mem_reverse.1 he1)
          obtain ⟨i2, hi2, hie2⟩ := List.getElem_of_mem (List.mem_reverse.1 he2)
          have := hkey i1 i2 e1 e2 (by rw [List.getElem?_eq_getElem hi1, hie1]) (by rw [List.getElem?_eq_getElem hi2, hie2]) hk
          subst this
          rw [← hie1, ← hie2])
        have h2 : look (esOf es listed) e.1 = some e.2 := look_mem (mem_esOf.2 ⟨i, hall i (by omega), hie'⟩) (hdist listed)
        rw [h1] at hl
        rw [h2]
        simpa using hl
      · have h1 : look es.reverse t = none := look_none (fun e he h => hk ⟨e, List.mem_reverse.1 he, h⟩)
        rw [h1, Option.none_or] at hl
        have h2 : look (esOf es listed) t = none := look_none (fun e he h => by
          obtain ⟨i, _, hi⟩ := mem_esOf.1 he
          exact hk ⟨e, List.mem_of_getElem? hi, h⟩)
        rw [h2, Option.none_or]
        exact hl
    induction fuel with
    | zero =>
      intro listed a w hsz hcl hs h0 _
      have hall := h0 rfl
      have hr : Region.ready .any l.toArray listed = [] := by
        apply List.eq_nil_iff_forall_not_mem.2
        intro i hi
        simp only [Region.ready, List.mem_filter, List.mem_range, List.size_toArray, Bool.and_eq_true, Bool.not_eq_true'] at hi
        have h1 := hall i hi.1
        have h2 := hi.2.1
        rw [Array.getD_eq_getD_getElem?, Array.getElem?_eq_getElem (by omega)] at h1 h2
        simp at h1 h2
        rw [h1] at h2
        cases h2
      exact ⟨hr, hdone listed a w hsz hs hr⟩
    | succ fuel ih =>
      intro listed a w hsz hcl hs _ hcount
      refine ⟨hdone listed a w hsz hs, fun i hi => ?_⟩
      simp only [Region.ready, List.mem_filter, List.mem_range, List.size_toArray, Bool.and_eq_true, Bool.not_eq_true'] at hi
      obtain ⟨hil, hnl, hdeps⟩ := hi
      have hnl' : listed.getD i false = false := by
        rw [Array.getD_eq_getD_getElem?, Array.getElem?_eq_getElem (by omega)] at hnl ⊢
        simpa using hnl
      have hoi : l[i]? = some l[i] := List.getElem?_eq_getElem hil
      generalize l[i] = oi at hoi
      obtain ⟨d, G, av, he, hd, hdn, hgd, hsv⟩ := hes i oi hoi
      rw [List.getElem?_toArray, hoi] at hdeps
      simp only [Option.map_some, Option.getD_some, Array.all_eq_true', Bool.or_eq_true, Bool.not_eq_true'] at hdeps
      have hdeps' : ∀ e ∈ oi.after, Region.binds .any e = true → listed.getD e.on false = true := by
        intro e he hb
        rcases hdeps e he with h' | h'
        · rw [hb] at h'; cases h'
        · exact h'
      -- what the operation looks at is known
      have hsee : ∀ t p, look (sel (oi.looksAt l.toArray) ((es.take i).reverse ++ L)) t = some p → look (esOf es listed ++ L) t = some p := by
        intro t p hl
        rw [look_sel] at hl
        split at hl
        · rename_i ht
          rw [look_append] at hl ⊢
          by_cases hk : ∃ j e, j < i ∧ es[j]? = some e ∧ e.1 = t
          · obtain ⟨j, e, hji, hje, rfl⟩ := hk
            obtain ⟨oj, hoj, hdj⟩ := hget j e hje
            have hl1 : listed.getD j false = true := by
              rcases ((hok' i oi hoi).2 j oj hoj (by omega)).2 e.1 hdj ht with ⟨_, ed, hed, hb, ho⟩ | ⟨h', _⟩
              · rw [← ho]; exact hdeps' ed hed hb
              · omega
            have h1 : look (es.take i).reverse e.1 = some e.2 := look_mem (List.mem_reverse.2 (List.mem_of_getElem? (i := j) (by rw [List.getElem?_take, if_pos hji]; exact hje))) (by
              intro e1 he1 e2 he2 hk
              obtain ⟨i1, hi1, hie1⟩ := List.getElem_of_mem (List.mem_of_mem_take (List.mem_reverse.1 he1))
              obtain ⟨i2, hi2, hie2⟩ := List.getElem_of_mem (List.mem_of_mem_take (List.mem_reverse.1 he2))
              have := hkey i1 i2 e1 e2 (by rw [List.getElem?_eq_getElem hi1, hie1]) (by rw [List.getElem?_eq_getElem hi2, hie2]) hk
              subst this
              rw [← hie1, ← hie2])
            have h2 : look (esOf es listed) e.1 = some e.2 := look_mem (mem_esOf.2 ⟨j, hl1, hje⟩) (hdist listed)
            rw [h1] at hl
            rw [h2]
            simpa using hl
          · have h1 : look (es.take i).reverse t = none := look_none (fun e he h => by
              obtain ⟨j, hj, hje⟩ := List.getElem_of_mem (List.mem_reverse.1 he)
              rw [List.length_take] at hj
              refine hk ⟨j, e, by omega, ?_, h⟩
              rw [← hje, List.getElem_take, List.getElem?_eq_getElem])
            rw [h1, Option.none_or] at hl
            have h2 : look (esOf es listed) t = none := look_none (fun e he h => by
              obtain ⟨j, hlj, hje⟩ := mem_esOf.1 he
              obtain ⟨oj, hoj, hdj⟩ := hget j e hje
              have hji : ¬ j < i := fun h' => hk ⟨j, e, h', hje, h⟩
              by_cases hij : i = j
              · subst hij; rw [hnl'] at hlj; cases hlj
              · rcases ((hok' i oi hoi).2 j oj hoj hij).2 e.1 hdj (h ▸ ht) with ⟨h', _⟩ | ⟨_, ed, hed, hb, ho⟩
                · exact hji h'
                · have := hcl j oj hoj hlj ed hed hb
                  rw [ho, hnl'] at this
                  cases this)
            rw [h2, Option.none_or]
            exact hl
        · cases hl
      have hs' : St x (sel (oi.looksAt l.toArray) ((es.take i).reverse ++ L)) M a w := hs.look hsee
      -- behind it
      have hnext : ∀ a' w', St x ((d, G, av) :: (esOf es listed ++ L)) M a' w' → wpAny x.P .any l.toArray Q fuel (listed.setIfInBounds i true) a' w' := by
        intro a' w' hst
        have hset : ∀ j, (listed.setIfInBounds i true).getD j false = if i = j then true else listed.getD j false := by
          intro j
          rw [Array.getD_eq_getD_getElem?, Array.getD_eq_getD_getElem?, Array.getElem?_setIfInBounds]
          by_cases e : i = j
          · subst e; simp [hsz, hil]
          · simp [e]
        have hcnt : ((listed.setIfInBounds i true).toList.filter (!·)).length < (listed.toList.filter (!·)).length := by
          rw [Array.toList_setIfInBounds]
          have hlt : i < listed.toList.length := by simp [hsz]; exact hil
          have hv : listed.toList[i] = false := by
            rw [Array.getD_eq_getD_getElem?, Array.getElem?_eq_getElem (by omega)] at hnl'
            simpa using hnl'
          exact count_set _ i hlt hv
        refine ih _ a' w' (by simpa using hsz) ?_ (hst.look ?_) ?_ (by omega)
        · intro j o ho hlj e he hb
          rw [hset] at hlj ⊢
          split
          · rfl
          · split at hlj
            · rename_i hij; subst hij; rw [hoi] at ho; cases ho; exact hdeps' e he hb
            · exact hcl j o ho hlj e he hb
        · intro t p hl
          rw [look_append] at hl
          rw [look_cons]
          by_cases hdt : d = t
          · subst hdt
            rw [if_pos rfl]
            have h2 : look (esOf es (listed.setIfInBounds i true)) d = some (G, av) := look_mem (mem_esOf.2 ⟨i, by rw [hset, if_pos rfl], he⟩) (hdist _)
            rw [h2] at hl
            simpa using hl
          · rw [if_neg hdt, look_append]
            by_cases hk : ∃ e ∈ esOf es listed, e.1 = t
            · obtain ⟨e, hee, rfl⟩ := hk
              obtain ⟨j, hlj, hje⟩ := mem_esOf.1 hee
              have h2 : look (esOf es (listed.setIfInBounds i true)) e.1 = some e.2 := look_mem (mem_esOf.2 ⟨j, by rw [hset, hlj, ite_self], hje⟩) (hdist _)
              have h3 : look (esOf es listed) e.1 = some e.2 := look_mem hee (hdist _)
              rw [h2] at hl
              rw [h3]
              exact hl
            · have h2 : look (esOf es (listed.setIfInBounds i true)) t = none := look_none (fun e hee h => by
                obtain ⟨j, hlj, hje⟩ := mem_esOf.1 hee
                rw [hset] at hlj
                split at hlj
                · rename_i hij; subst hij; rw [he] at hje; cases hje; exact hdt h
                · exact hk ⟨e, mem_esOf.2 ⟨j, hlj, hje⟩, h⟩)
              have h3 : look (esOf es listed) t = none := look_none (fun e hee h => hk ⟨e, hee, h⟩)
              rw [h2, Option.none_or] at hl
              rw [h3, Option.none_or]
              exact hl
        · intro hf j hj
          rw [hset]
          split
          · rfl
          · rename_i hij
            subst hf
            cases hlj : listed.getD j false with
            | true => rfl
            | false =>
              exfalso
              have hz : ((listed.setIfInBounds i true).toList.filter (!·)).length = 0 := by omega
              have hz' := List.eq_nil_of_length_eq_zero hz
              have : false ∈ (listed.setIfInBounds i true).toList.filter (!·) := by
                rw [List.mem_filter]
                refine ⟨?_, rfl⟩
                have h5 := hset j
                rw [if_neg hij, hlj, Array.getD_eq_getD_getElem?, Array.getElem?_eq_getElem (by simp; omega)] at h5
                simp only [Option.getD_some] at h5
                rw [← h5]
                exact Array.mem_toList_iff.2 (Array.getElem_mem _)
              rw [hz'] at this
              cases this
      -- the operation itself
      unfold wpOp
      rw [List.getElem?_toArray, hoi]
      have hw : Region.wanted oi (yielded l.toArray a.tmps) = G := by
        rcases hgd with ⟨h1, h2⟩ | ⟨j, want, t, gb, b, h1, h2, h3, h4⟩
        · rw [Region.wanted, h1, h2]
        · obtain ⟨dst, op, ty', pos', aft', gu⟩ := oi
          simp only at h1
          subst h1
          rw [guard_of (want := want) h2 h3 hs', h4]
      simp only [hw]
      cases hG : G with
      | true =>
        rw [if_pos rfl]
        left
        refine hsv hG a w hs' _ _ ?_
        intro v w' hk hmm hf hr
        rw [hd]
        have hsw : St x (esOf es listed ++ L) M a w' := hs.world hk hmm hf
        exact hnext _ _ (hsw.put hdn G av v (fun _ => hr) (by simp [hG]))
      | false =>
        rw [if_neg (by simp)]
        rw [hd]
        exact hnext _ _ (hs.put hdn G av undef (by simp [hG]) (fun _ => rfl))
  refine key _ _ _ _ (by simp) ?_ ?_ ?_ ?_
  · intro i o ho hl
    exfalso
    rw [Array.getD_eq_getD_getElem?] at hl
    rcases Nat.lt_or_ge i l.length with h' | h'
    · simp [h'] at hl
    · simp [h'] at hl
  · have : esOf es (Array.replicate l.toArray.size false) = [] := by
      apply List.eq_nil_iff_forall_not_mem.2
      intro e he
      obtain ⟨i, hi, _⟩ := mem_esOf.1 he
      rw [Array.getD_eq_getD_getElem?] at hi
      rcases Nat.lt_or_ge i l.length with h' | h'
      · simp [h'] at hi
      · simp [h'] at hi
    rw [this, List.nil_append]
    exact hs.same rfl rfl rfl rfl
  · intro h0 i hi
    simp at h0
    subst h0
    simp at hi
  · simp

/-! ### what such a region's operations are met by -/
section rules
variable {ops : Array Oper} {R : Act → World → Prop} {rest : List Oper} {done : List En} {ty : TypeId} {pos : String} {aft : Array Edge}

theorem Sv.ev {o : Oper} {av : AV} (h : Ev x true L M o.op o.type av) : Sv x L M o av := by
  intro a w hs K Q hK
  obtain ⟨v, hr, hv⟩ := h a w hs rfl
  unfold Oper.wp
  rw [show execOp a.eval o = execOp a.eval ⟨none, o.op, o.type, "", #[], none⟩ from rfl, hr]
  exact hK v w (Keep.refl _ _) hs.mem hs.fr hv
theorem Ev.strip {g : Bool} {op : Op} {av : AV} (h : Ev x g L M op ty av) (hg : g = true) : Ev x true L M op ty av := by subst hg; exact h

theorem DP.nil (h : W x (done ++ L) M R) : DP x M ops L R [] done := h
theorem DP.q {d : Tmp} {op : Op} {av : AV} (he : Ev x true (sel (Oper.looksAt ops ⟨some d, op, ty, pos, aft, none⟩) (done ++ L)) M op ty av) (hd : Nat.blt d x.n = true) (next : DP x M ops L R rest ((d, true, av) :: done)) :
    DP x M ops L R (⟨some d, op, ty, pos, aft, none⟩ :: rest) done := ⟨d, true, av, rfl, hd, .inl ⟨rfl, rfl⟩, fun _ => Sv.ev he, next⟩
theorem DP.qgT {d : Tmp} {op : Op} {av : AV} {j : Nat} {t : Tmp} {b : Bool} (hj : (ops[j]?).bind (·.dst) = some t) (hl : Vl.look (sel (Oper.looksAt ops ⟨some d, op, ty, pos, aft, some (j, true)⟩) (done ++ L)) t = some (true, .lit (.bool b)))
    (he : Ev x b (sel (Oper.looksAt ops ⟨some d, op, ty, pos, aft, some (j, true)⟩) (done ++ L)) M op ty av) (hd : Nat.blt d x.n = true) (next : DP x M ops L R rest ((d, b, av) :: done)) :
    DP x M ops L R (⟨some d, op, ty, pos, aft, some (j, true)⟩ :: rest) done := ⟨d, b, av, rfl, hd, .inr ⟨j, true, t, true, b, rfl, hj, hl, by simp⟩, fun hb => Sv.ev (he.strip hb), next⟩
theorem DP.qgF {d : Tmp} {op : Op} {av : AV} {j : Nat} {t : Tmp} {b : Bool} (hj : (ops[j]?).bind (·.dst) = some t) (hl : Vl.look (sel (Oper.looksAt ops ⟨some d, op, ty, pos, aft, some (j, false)⟩) (done ++ L)) t = some (true, .lit (.bool b)))
    (he : Ev x (!b) (sel (Oper.looksAt ops ⟨some d, op, ty, pos, aft, some (j, false)⟩) (done ++ L)) M op ty av) (hd : Nat.blt d x.n = true) (next : DP x M ops L R rest ((d, !b, av) :: done)) :
    DP x M ops L R (⟨some d, op, ty, pos, aft, some (j, false)⟩ :: rest) done := ⟨d, !b, av, rfl, hd, .inr ⟨j, false, t, true, b, rfl, hj, hl, by simp⟩, fun hb => Sv.ev (he.strip hb), next⟩

theorem Sv.callp {f : FuncId} {d : Option Tmp} {os : List Operand} {ats : Array TypeId} {g : Option (Nat × Bool)} {avs : List AV} {r : AV} (hc : FnP x.P f avs r) (ha : ArgsOv L os avs) : Sv x L M ⟨d, .call ⟨.value (.func f), os.toArray, ats⟩, ty, pos, aft, g⟩ r := by
  intro a w hs K Q hK
  obtain ⟨⟨fn, hfn, hnm, hbd⟩, hcall⟩ := hc
  have hr : (execOp a.eval ⟨d, .call ⟨.value (.func f), os.toArray, ats⟩, ty, pos, aft, g⟩).run x.P w = .ok (.enter f (os.map a.eval).toArray) w := by
    have hv : a.eval (.func f) = .func (.func f) #[] #[] := rfl
    simp only [execOp, resolve, hv, Deferred.ofValue, Sem.run_bind, Sem.run_pure, Result.andThen_ok, invoke, callFunc, run_program, hfn, hnm, hbd]
    simp
  unfold Oper.wp
  rw [hr]
  obtain ⟨hF, hm0, hk0⟩ := hs.ahead (Min := []) (Mr := M) (List.Perm.refl _)
  have hargs := ArgsOv.rep hs ha
  refine (hcall w (bl M ++ x.F) _ hF hm0 (RepT.keep hk0 _ _ hargs)).mono ?_
  rintro e w' ⟨v, r', M', rfl, ⟨rfl, rfl⟩, hm', hrep, hf⟩
  have hs' := hs.back (Min := []) (Mr := M) (List.Perm.refl _) hm' hf
  refine hK v w' ?_ hs'.mem hs'.fr (hrep.keep ?_)
  · intro b c T fr hb hc
    have h1 := hf.block b (heap_lt hc) (by simp [bl])
    exact ⟨hb, by rw [h1.1]; exact hc⟩
  · exact fun b c T fr hb hc => ⟨fun h => hb (mem4.1 h), hc⟩
theorem DP.callp {f : FuncId} {d : Tmp} {os : List Operand} {ats : Array TypeId} {avs : List AV} {r : AV} (hc : FnP x.P f avs r) (ha : ArgsOv (sel (Oper.looksAt ops ⟨some d, .call ⟨.value (.func f), os.toArray, ats⟩, ty, pos, aft, none⟩) (done ++ L)) os avs) (hd : Nat.blt d x.n = true)
    (next : DP x M ops L R rest ((d, true, r) :: done)) : DP x M ops L R (⟨some d, .call ⟨.value (.func f), os.toArray, ats⟩, ty, pos, aft, none⟩ :: rest) done := ⟨d, true, r, rfl, hd, .inl ⟨rfl, rfl⟩, fun _ => Sv.callp hc ha, next⟩

theorem Sv.bs {d : Option Tmp} {T E k bytes n : Nat} {z : Value} {ps : List (Nat × Operand)} {es : List AV} {g : Option (Nat × Bool)} (hT : x.P.underlying T = some (.slice E)) (hE : Ty x.P E k bytes z) (hp : PartsOv L k 0 ps es) (hn : n = es.length) (hb : n * k ≤ 16777216) (hk1 : Nat.ble 1 k = true) :
    Sv x L M ⟨d, .buildSlice T n ps.toArray, ty, pos, aft, g⟩ (.sl k es) := by
  intro a w hs K Q hK
  obtain ⟨cells, hr, hsz, hrE⟩ := run_buildSlice (ty := ty) hs hT hE hp hn hb
  obtain ⟨hs', hk, hnew⟩ := hs.allocI (.cells cells E)
  unfold Oper.wp
  rw [show execOp a.eval ⟨d, .buildSlice T n ps.toArray, ty, pos, aft, g⟩ = execOp a.eval ⟨none, .buildSlice T n ps.toArray, ty, "", #[], none⟩ from rfl, hr]
  refine hK _ _ hk hs'.mem hs'.fr ?_
  rw [hn]
  refine Rep.slI (Nat.le_refl _) ?_ (.inr ⟨w.heap.size, 0, cells, E, (0, 0), rfl, hnew, alloc_new _ _, RepE.keep hk _ _ _ (by simpa using hrE)⟩)
  have : es.length ≤ n * k := by rw [hn]; exact Nat.le_mul_of_pos_right _ (Nat.le_of_ble_eq_true hk1)
  simp only [maxLen]; omega
theorem DP.bs {d : Tmp} {T E k bytes n : Nat} {z : Value} {ps : List (Nat × Operand)} {es : List AV} (hT : x.P.underlying T = some (.slice E)) (hE : Ty x.P E k bytes z) (hp : PartsOv (sel (Oper.looksAt ops ⟨some d, .buildSlice T n ps.toArray, ty, pos, aft, none⟩) (done ++ L)) k 0 ps es) (hn : n = es.length) (hb : n * k ≤ 16777216) (hk1 : Nat.ble 1 k = true) (hd : Nat.blt d x.n = true)
    (next : DP x M ops L R rest ((d, true, .sl k es) :: done)) : DP x M ops L R (⟨some d, .buildSlice T n ps.toArray, ty, pos, aft, none⟩ :: rest) done := ⟨d, true, _, rfl, hd, .inl ⟨rfl, rfl⟩, fun _ => Sv.bs hT hE hp hn hb hk1, next⟩
end rules
end draw
end Go.Vl
end

section
set_option linter.unusedVariables false
set_option linter.unusedSimpArgs false
set_option linter.unusedSectionVars false
namespace Go.Vl

section arr
variable {x : Cx} {L : List (Tmp × Bool × AV)} {M : List ME} {ops : Array Oper} {Q : Exit → Act → World → Prop} {rest : List Oper} {ty : TypeId} {pos : String} {aft : Array Edge}

theorem RepE.congr {w : World} {N : List Nat} {k : Nat} : ∀ {es : List AV} {r s : List Value}, RepE w N k es r → r.take (es.length * k) = s.take (es.length * k) → RepE w N k es s
  | [], r, s, h, _ => by simp [RepE]
  | e :: es, r, s, h, hrs => by
    simp only [RepE] at h ⊢
    have hm : (e :: es).length * k = es.length * k + k := by simp [Nat.add_mul]
    rw [hm] at hrs
    have h1 : r.take k = s.take k := by
      have := congrArg (List.take k) hrs
      rw [List.take_take, List.take_take, Nat.min_eq_left (by omega)] at this
      exact this
    have hl : k ≤ s.length := by
      have := congrArg List.length h1
      simp at this; omega
    refine ⟨hl, by rw [← h1]; exact h.2.1, RepE.congr h.2.2 ?_⟩
    have := congrArg (List.drop k) hrs
    rw [List.drop_take, List.drop_take, Nat.add_sub_cancel] at this
    exact this
theorem RepE.append {w : World} {N : List Nat} {k : Nat} : ∀ {es xs : List AV} {r : List Value}, RepE w N k es r → RepE w N k xs (r.drop (es.length * k)) → RepE w N k (es ++ xs) r
  | [], xs, r, _, h => by simpa using h
  | e :: es, xs, r, h, h' => by
    simp only [RepE, List.cons_append] at h ⊢
    refine ⟨h.1, h.2.1, RepE.append h.2.2 ?_⟩
    have hm : (e :: es).length * k = k + es.length * k := by simp [Nat.add_mul]; omega
    rw [hm] at h'
    rw [List.drop_drop]
    exact h'

theorem perm_set {M : List ME} {i : Nat} {m m' : ME} (hM : M[i]? = some m) : List.Perm (m' :: M) (M.set i m' ++ [m]) := by
  induction M generalizing i with
  | nil => simp at hM
  | cons n M ih =>
    cases i with
    | zero =>
      simp at hM; subst hM
      simp only [List.set_cons_zero, List.cons_append]
      refine List.Perm.cons _ ?_
      exact (List.perm_append_comm (l₁ := [n]) (l₂ := M))
    | succ i =>
      simp only [List.set_cons_succ, List.cons_append]
      refine (List.Perm.swap n m' M).trans (List.Perm.cons _ (ih (by simpa using hM)))

theorem set_self {M : List ME} {i : Nat} {m : ME} (hM : M[i]? = some m) : M.set i m = M := by
  apply List.ext_getElem?
  intro j
  rw [List.getElem?_set]
  by_cases e : i = j
  · subst e
    have hlt : i < M.length := by
      rcases Nat.lt_or_ge i M.length with h | h
      · exact h
      · rw [List.getElem?_eq_none h] at hM; cases hM
    rw [if_pos rfl, if_pos hlt, hM]
  · rw [if_neg e]

/-- a source of append or copy -/
def Src (P : Program) (w : World) (N : List Nat) (k : Nat) (v : Value) (xs : List AV) : Prop :=
  (Builtin.lenOf v).run P w = .ok xs.length w ∧ ∃ news : Array Value, news.size = xs.length * k ∧ RepE w N k xs news.toList ∧ (∀ u ∈ news.toList, shV u = 0) ∧
    ∀ w' : World, w'.heap = w.heap → (Builtin.firstCells k xs.length v).run P w' = .ok news w'

/-- the same without a word on the cells' shape -/
def Src0 (P : Program) (w : World) (N : List Nat) (k : Nat) (v : Value) (xs : List AV) : Prop :=
  (Builtin.lenOf v).run P w = .ok xs.length w ∧ ∃ news : Array Value, news.size = xs.length * k ∧ RepE w N k xs news.toList ∧
    ∀ w' : World, w'.heap = w.heap → (Builtin.firstCells k xs.length v).run P w' = .ok news w'
theorem Src.to0 {P : Program} {w : World} {N : List Nat} {k : Nat} {v : Value} {xs : List AV} (h : Src P w N k v xs) : Src0 P w N k v xs :=
  ⟨h.1, let ⟨n, a, b, _, c⟩ := h.2; ⟨n, a, b, c⟩⟩
theorem src0_cells {P : Program} {w : World} {N : List Nat} {k n cap : Nat} {ad : Option Addr} {xs : List AV} (hn : n = xs.length)
    (h : xs = [] ∨ ∃ b off cur T fr, ad = some ⟨b, off, none⟩ ∧ w.heap[b]? = some (.cells cur T fr) ∧ RepE w N k xs (cur.toList.drop off)) : Src0 P w N k (.slice ad n cap) xs := by
  refine ⟨by simp [Builtin.lenOf, hn], ?_⟩
  rcases h with rfl | ⟨b, off, cur, T, fr, rfl, hc, hE⟩
  · refine ⟨#[], by simp, by simp [RepE], fun w' _ => ?_⟩
    cases ad with
    | none => simp [Builtin.firstCells]
    | some a => simp [Builtin.firstCells, loadCells, loadCellsFrom]
  · have hlen := hE.len
    have hsz : off + xs.length * k ≤ cur.size ∨ xs.length * k = 0 := by
      simp at hlen
      omega
    have htk : ((cur.toList.drop off).take (xs.length * k)).length = xs.length * k := by simp at hlen ⊢; omega
    refine ⟨((cur.toList.drop off).take (xs.length * k)).toArray, by simpa using htk, ?_, ?_⟩
    · rw [List.toList_toArray]
      exact RepE.congr hE (by rw [List.take_take, Nat.min_self])
    · intro w' hw'
      rcases hsz with hsz | hsz
      · have := run_loadCells (P := P) (w := w') (off := off) (by rw [hw']; exact hc) (xs.length * k) hsz
        simpa [Builtin.firstCells] using this
      · rw [hsz]; simp [Builtin.firstCells, loadCells, loadCellsFrom, hsz]

theorem RepE.sh {w : World} {N : List Nat} {k : Nat} : ∀ {es : List AV} {r : List Value}, RepE w N k es r → (∀ e ∈ es, e.okc = true) → ∀ u ∈ r.take (es.length * k), shV u = 0
  | [], r, _, _ => by simp
  | e :: es, r, h, ho => by
    simp only [RepE] at h
    have hm : (e :: es).length * k = k + es.length * k := by simp [Nat.add_mul]; omega
    rw [hm, List.take_add]
    intro u hu
    rcases List.mem_append.1 hu with hu | hu
    · exact (RepC.cells (ho e (by simp)) h.2.1).sh u hu
    · exact RepE.sh h.2.2 (fun e' he' => ho e' (by simp [he'])) u hu

theorem src_cells {P : Program} {w : World} {N : List Nat} {k n cap : Nat} {ad : Option Addr} {xs : List AV} (hn : n = xs.length) (ho : ∀ e ∈ xs, e.okc = true)
    (h : xs = [] ∨ ∃ b off cur T fr, ad = some ⟨b, off, none⟩ ∧ w.heap[b]? = some (.cells cur T fr) ∧ RepE w N k xs (cur.toList.drop off)) : Src P w N k (.slice ad n cap) xs := by
  obtain ⟨h1, news, h2, h3, h4⟩ := src0_cells (P := P) (cap := cap) hn h
  refine ⟨h1, news, h2, h3, ?_, h4⟩
  have := h3.sh ho
  rw [List.take_of_length_le (by simp; omega)] at this
  exact this

/-- an operand that append may take its elements from -/
def SrcOv (x : Cx) (L : List (Tmp × Bool × AV)) (M : List ME) (o : Operand) (k : Nat) (xs : List AV) : Prop :=
  (∀ e ∈ xs, e.okc = true) ∧ (Ov true L o (.sl k xs) ∨ (∃ (v : Value) (i : Nat) (U : TypeId), Ov true L o (.lit v) ∧ M[i]? = some (ME.arr v U k xs)) ∨ (∃ l : List UInt8, Ov true L o (.str l) ∧ k = 1 ∧ xs = l.map AV.u8))
theorem SrcOv.sl {o : Operand} {k : Nat} {xs : List AV} (h : Ov true L o (.sl k xs)) (ho : ∀ e ∈ xs, e.okc = true) : SrcOv x L M o k xs := ⟨ho, .inl h⟩
theorem SrcOv.arr (i : Nat) {o : Operand} {v : Value} {U k : Nat} {xs : List AV} (h : Ov true L o (.lit v)) (hM : M[i]? = some (ME.arr v U k xs)) (ho : ∀ e ∈ xs, e.okc = true) : SrcOv x L M o k xs := ⟨ho, .inr (.inl ⟨v, i, U, h, hM⟩)⟩
theorem SrcOv.str {o : Operand} {l : List UInt8} (h : Ov true L o (.str l)) : SrcOv x L M o 1 (l.map AV.u8) := ⟨by intro e he; obtain ⟨b, _, rfl⟩ := List.mem_map.1 he; rfl, .inr (.inr ⟨l, h, rfl, rfl⟩)⟩
theorem RepE.u8s {w : World} {N : List Nat} : ∀ l : List UInt8, RepE w N 1 (l.map AV.u8) (l.map fun b => Value.int .u8 (b.toNat : Int))
  | [] => by simp [RepE]
  | b :: l => by
    simp only [List.map_cons, RepE, List.length_cons, List.drop_succ_cons, List.drop_zero]
    exact ⟨by omega, by simp [RepC, Value.cells], RepE.u8s l⟩
theorem src_str {P : Program} {w : World} {N : List Nat} (l : List UInt8) : Src P w N 1 (.string ⟨l.toArray⟩) (l.map AV.u8) := by
  have hsz : (ByteArray.mk l.toArray).size = l.length := by simp [ByteArray.size]
  refine ⟨by simp [Builtin.lenOf, hsz], (l.map fun b => Value.int .u8 (b.toNat : Int)).toArray, by simp, by simpa using RepE.u8s l, ?_, ?_⟩
  · intro u hu
    simp only [List.toList_toArray, List.mem_map] at hu
    obtain ⟨b, _, rfl⟩ := hu
    rfl
  · intro w' hw'
    have e : (ByteArray.mk l.toArray).extract 0 l.length = ⟨l.toArray⟩ := by
      have := ByteArray.extract_zero_size (b := ByteArray.mk l.toArray)
      rw [hsz] at this; exact this
    simp [Builtin.firstCells, e]

theorem SrcOv.src {o : Operand} {k : Nat} {xs : List AV} {a : Act} {w : World} (h : SrcOv x L M o k xs) (hs : St x L M a w) : Src x.P w (bl M ++ x.F) k (a.eval o) xs := by
  obtain ⟨ho, h | ⟨v, i, U, h, hM⟩ | ⟨l, h, rfl, rfl⟩⟩ := h
  · obtain ⟨ad, cap, e, _, _, h3⟩ := (h.rep rfl hs).sl_inv
    rw [e]
    refine src_cells rfl ho ?_
    rcases h3 with h3 | ⟨b, off, cur, T, fr, h4, _, h5, h6⟩
    · exact .inl h3
    · exact .inr ⟨b, off, cur, T, fr, h4, h5, h6⟩
  · obtain ⟨ad, cap, e, h1, h2, h3⟩ := hs.mem.holds _ (List.mem_of_getElem? hM)
    rw [h.lit rfl hs, e]
    refine src_cells rfl ho ?_
    rcases h3 with ⟨_, hc⟩ | ⟨g, off, cur, lo, hi, h4, h5, _, _, h6⟩
    · left; exact List.eq_nil_of_length_eq_zero (by omega)
    · exact .inr ⟨g, off, cur, U, (lo, hi), h4, h5, h6⟩
  · rw [h.lit rfl hs]; exact src_str l

/-- what append needs of the source's type -/
def NotInt (P : Program) (T : TypeId) : Prop := (∃ e, P.underlying T = some (.slice e)) ∨ P.underlying T = some .string

theorem cap_cut (w : World) (need old : Nat) (e : TypeId) (h : need ≤ maxLen) : need ≤ grownCap w need old e ∧ grownCap w need old e ≤ maxLen := ⟨grownCap_ge w need old e, grownCap_le_maxLen w need old e h⟩

/-- the run of an append that stays where it is -/
theorem run_append_in {P : Program} {w : World} {T T' E k bytes : Nat} {z : Value} {g off n cap lo hi : Nat} {cur : Array Value} {U : TypeId} {xv : Value} {N : List Nat} {xs : List AV} (hT : P.underlying T = some (.slice E)) (hT' : NotInt P T') (hE : Ty P E k bytes z)
    (hc : w.heap[g]? = some (.cells cur U (lo, hi))) (hsz : off + cap * k ≤ cur.size) (hfr : hi ≤ lo ∨ off + cap * k ≤ lo) (hx : Src P w N k xv xs) (hle : n + xs.length ≤ cap) :
    ∃ news : Array Value, news.size = xs.length * k ∧ RepE w N k xs news.toList ∧ (Builtin.append_ #[T, T'] ty #[.slice (some ⟨g, off, none⟩) n cap, xv]).run P w =
      .ok (.slice (some ⟨g, off, none⟩) (n + xs.length) cap) { w with heap := w.heap.setIfInBounds g (.cells (wr cur (off + n * k) news.toList) U (lo, hi)) } := by
  obtain ⟨hlen, news, hn1, hn2, hn3, hn4⟩ := hx
  have hf := hn4 w rfl
  have hmul : (n + xs.length) * k ≤ cap * k := Nat.mul_le_mul_right _ hle
  rw [Nat.add_mul] at hmul
  have hst := run_storeCells (P := P) (g := g) (off := off + n * k) (T := U) (lo := lo) (hi := hi) news.toList 0 cur w hc (by simp; omega) (by simp; omega) hn3
  refine ⟨news, hn1, hn2, ?_⟩
  rw [Nat.add_zero] at hst
  obtain ⟨i, hi1, hi2, hi3, hi4⟩ := hE
  rcases hT' with ⟨e', hd⟩ | hd <;>
    simp [Builtin.append_, run_underlying hT, run_underlying hd, sizeOf, typeInfo, hi1, hi2, hlen, hle, hf, Addr.add_lit, hst]

/-- the run of an append that makes a new row -/
theorem run_append_new {P : Program} {w : World} {T T' E k bytes : Nat} {z : Value} {ad : Option Addr} {n cap : Nat} {xv : Value} {N : List Nat} {es xs : List AV} (hT : P.underlying T = some (.slice E)) (hT' : NotInt P T') (hE : Ty P E k bytes z) (hzk : z.cells.size = k)
    (hs : Src0 P w N k (.slice ad n cap) es) (hx : Src0 P w N k xv xs) (hn : n = es.length) (hgt : cap < n + xs.length) (hb : (n + xs.length) * bytes ≤ 140737488355328) (hb1 : 1 ≤ bytes) :
    ∃ cells : Array Value, cells.size = grownCap w (n + xs.length) cap E * k ∧ RepE w N k (es ++ xs) cells.toList ∧ (Builtin.append_ #[T, T'] ty #[.slice ad n cap, xv]).run P w =
      .ok (.slice (some ⟨w.heap.size, 0, none⟩) (n + xs.length) (grownCap w (n + xs.length) cap E)) (w.drew.alloc (.cells cells E)) := by
  obtain ⟨_, olds, ho1, ho2, ho4⟩ := hs
  obtain ⟨hlen, news, hn1, hn2, hn4⟩ := hx
  have hfit := growslice_fits hgt hb
  have h63 : n + xs.length ≤ maxLen := by
    have : n + xs.length ≤ (n + xs.length) * bytes := Nat.le_mul_of_pos_right _ hb1
    simp only [maxLen]; omega
  obtain ⟨hg1, hg2⟩ := cap_cut w (n + xs.length) cap E h63
  subst hn
  refine ⟨olds ++ news ++ Builtin.zeroCells z.cells (grownCap w (es.length + xs.length) cap E - (es.length + xs.length)), ?_, ?_, ?_⟩
  · have hzc : (Builtin.zeroCells z.cells (grownCap w (es.length + xs.length) cap E - (es.length + xs.length))).size = (grownCap w (es.length + xs.length) cap E - (es.length + xs.length)) * k := by simp [Builtin.zeroCells, hzk]
    rw [Array.size_append, Array.size_append, ho1, hn1, hzc, ← Nat.add_mul, ← Nat.add_mul]
    congr 1; omega
  · have hol : olds.toList.length = es.length * k := by simpa using ho1
    have hnl : news.toList.length = xs.length * k := by simpa using hn1
    refine RepE.append (RepE.congr ho2 ?_) ?_
    · rw [Array.toList_append, Array.toList_append, List.append_assoc, List.take_append_of_le_length (by omega)]
    · rw [Array.toList_append, Array.toList_append, List.append_assoc, List.drop_append_of_le_length (by omega), List.drop_of_length_le (by omega), List.nil_append]
      exact RepE.congr hn2 (by rw [List.take_append_of_le_length (by omega)])
  · have hf1 := ho4 w.drew rfl
    have hf2 := hn4 w.drew rfl
    obtain ⟨i, hi1, hi2, hi3, hi4⟩ := hE
    have hle : ¬ (es.length + xs.length ≤ cap) := by omega
    have hneg : ¬ ((((es.length + xs.length : Nat) : Int) > IntKind.i64.max) ∧ (False ∨ i.bytes = 0)) := by
      rw [IntKind.max_i64]; simp only [maxLen] at h63; omega
    have h48 : ¬ (Builtin.nextslicecap (es.length + xs.length) cap * i.bytes > 2 ^ 48) := by rw [hi3]; omega
    have hz : (zeroValue E).run P w.drew = .ok z w.drew := by simp [zeroValue, typeInfo, hi1, hi4]
    have hch : (choose (.appendCap (es.length + xs.length) cap E)).run P w = .ok (grownCap w (es.length + xs.length) cap E) w.drew := by
      simp [run_choose, Question.forced, grownCap]
    have hneg' : ¬ (9223372036854775807 < ((es.length : Int) + (xs.length : Int))) := by simp only [maxLen] at h63; omega
    have h48' : ¬ (281474976710656 < Builtin.nextslicecap (es.length + xs.length) cap * i.bytes) := by rw [hi3]; omega
    have hch' : (Question.appendCap (es.length + xs.length) cap E).cut (w.tape w.drawn (.appendCap (es.length + xs.length) cap E)) = grownCap w (es.length + xs.length) cap E := rfl
    have hdrew : ({ w with drawn := w.drawn + 1 } : World) = w.drew := rfl
    rcases hT' with ⟨e', hd⟩ | hd <;>
      simp [Builtin.append_, run_underlying hT, run_underlying hd, sizeOf, typeInfo, hi1, hi2, hlen, hle, hneg', h48', Question.forced, hch', hdrew, hf1, hf2, zeroValue, hi4, newRow]

/-- append onto an array of the call's own -/
theorem W.app (i : Nat) {d : Tmp} {T T' E k bytes : Nat} {z : Value} {o1 o2 : Operand} {v : Value} {es xs : List AV} (h1 : Ov true L o1 (.lit v)) (hM : M[i]? = some (ME.arr v E k es)) (h2 : SrcOv x L M o2 k xs) (hT : x.P.underlying T = some (.slice E)) (hT' : NotInt x.P T') (hE : Ty x.P E k bytes z) (hzk : z.cells.size = k)
    (hb1 : Nat.ble 1 bytes = true) (hb : (es.length + xs.length) * bytes ≤ 140737488355328) (hd : Nat.blt d x.n = true)
    (next : ∀ v', W x ((d, true, .lit v') :: L) (M.set i (ME.arr v' E k (es ++ xs))) (wpList x.P ops Q rest)) :
    W x L M (wpList x.P ops Q (⟨some d, .call ⟨.builtin .append, #[o1, o2], #[T, T']⟩, ty, pos, aft, none⟩ :: rest)) := by
  refine W.opv (ι := Value) (fun v' => M.set i (ME.arr v' E k (es ++ xs))) (fun v' => .lit v') hd ?_ next
  intro a w hs
  have hsrc := h2.src hs
  have e1 := h1.lit rfl hs
  have hb1' := Nat.le_of_ble_eq_true hb1
  obtain ⟨ad, cap, rfl, hlc, hcm, hcase⟩ := hs.mem.holds _ (List.mem_of_getElem? hM)
  have h63 : es.length + xs.length ≤ maxLen := by
    have : es.length + xs.length ≤ (es.length + xs.length) * bytes := Nat.le_mul_of_pos_right _ hb1'
    simp only [maxLen]; omega
  by_cases hle : es.length + xs.length ≤ cap
  · rcases hcase with ⟨rfl, rfl⟩ | ⟨g, off, cur, lo, hi, rfl, hc, hsz, hfr, hrE⟩
    · -- nothing is appended to nil
      have hes : es = [] := List.eq_nil_of_length_eq_zero (by omega)
      have hxs : xs = [] := List.eq_nil_of_length_eq_zero (by omega)
      subst hes; subst hxs
      refine ⟨.slice none 0 0, w, .slice none 0 0, ?_, ?_, Rep.lit _⟩
      · obtain ⟨hlen, news, hn1, _, _, hn4⟩ := hsrc
        have hf := hn4 w rfl
        obtain ⟨ii, hi1, hi2, hi3, hi4⟩ := hE
        have hlen' : (Builtin.lenOf (a.eval o2)).run x.P w = .ok 0 w := hlen
        have hf' : (Builtin.firstCells k 0 (a.eval o2)).run x.P w = .ok news w := hf
        have e1' : a.eval o1 = .slice none 0 0 := e1
        rcases hT' with ⟨e', hd'⟩ | hd' <;>
          simp [execOp, resolve, invoke, builtin, e1', Builtin.append_, run_underlying hT, run_underlying hd', sizeOf, typeInfo, hi1, hi2, hlen', hf']
      · have hM' : M[i]? = some (ME.arr (.slice none 0 0) E k []) := hM
        rw [List.append_nil, set_self hM']; exact hs
    · obtain ⟨news, hn1, hn2, hrun⟩ := run_append_in (ty := ty) hT hT' hE hc hsz hfr hsrc hle
      refine ⟨.slice (some ⟨g, off, none⟩) (es.length + xs.length) cap, { w with heap := w.heap.setIfInBounds g (.cells (wr cur (off + es.length * k) news.toList) E (lo, hi)) }, .slice (some ⟨g, off, none⟩) (es.length + xs.length) cap, ?_, ?_, Rep.lit _⟩
      · simp only [execOp, resolve, invoke, builtin, Sem.run_bind, Sem.run_pure, Result.andThen_ok, List.map_toArray, List.map_cons, List.map_nil, e1, hrun]
      · refine hs.write hM rfl rfl ?_
        intro w' hother hnew hk'
        have hmul : (es.length + xs.length) * k ≤ cap * k := Nat.mul_le_mul_right _ hle
        rw [Nat.add_mul] at hmul
        have hnl : news.toList.length = xs.length * k := by simpa using hn1
        refine ⟨some ⟨g, off, none⟩, cap, by rw [List.length_append], by rw [List.length_append]; exact hle, hcm, .inr ⟨g, off, _, lo, hi, rfl, hnew, ?_, hfr, ?_⟩⟩
        · rw [wr_size _ _ _ (by omega)]; exact hsz
        · have hcl : cur.toList.length = cur.size := Array.length_toList
          refine RepE.append (RepE.congr (RepE.keep hk' _ _ _ hrE) ?_) (RepE.congr (RepE.keep hk' _ _ _ hn2) ?_)
          · simp only [wr, List.toList_toArray]
            rw [List.append_assoc, List.drop_append_of_le_length (by simp; omega), List.take_append_of_le_length (by simp; omega), List.drop_take, Nat.add_sub_cancel_left, List.take_take, Nat.min_self]
          · simp only [wr, List.toList_toArray]
            rw [List.drop_drop, List.append_assoc, List.drop_append, List.drop_of_length_le (by simp; omega), List.nil_append]
            have : off + es.length * k - (cur.toList.take (off + es.length * k)).length = 0 := by simp; omega
            rw [this, List.drop_zero, List.take_append_of_le_length (by omega)]
  · have hold : Src0 x.P w (bl M ++ x.F) k (.slice ad es.length cap) es := by
      refine src0_cells rfl ?_
      rcases hcase with ⟨rfl, hc0⟩ | ⟨g, off, cur, lo, hi, rfl, hc, hsz, hfr, hrE⟩
      · left; exact List.eq_nil_of_length_eq_zero (by omega)
      · exact .inr ⟨g, off, cur, E, (lo, hi), rfl, hc, hrE⟩
    obtain ⟨cells, hsz, hrE, hrun⟩ := run_append_new (ty := ty) hT hT' hE hzk hold hsrc.to0 rfl (by omega) hb hb1'
    obtain ⟨hg1, hg2⟩ := cap_cut w (es.length + xs.length) cap E h63
    refine ⟨.slice (some ⟨w.heap.size, 0, none⟩) (es.length + xs.length) (grownCap w (es.length + xs.length) cap E), w.drew.alloc (.cells cells E), .slice (some ⟨w.heap.size, 0, none⟩) (es.length + xs.length) (grownCap w (es.length + xs.length) cap E), ?_, ?_, Rep.lit _⟩
    · simp only [execOp, resolve, invoke, builtin, Sem.run_bind, Sem.run_pure, Result.andThen_ok, List.map_toArray, List.map_cons, List.map_nil, e1, hrun]
    · have hd1 : St x L M a w.drew := hs.same rfl rfl rfl rfl
      have hnew : St x L (ME.arr (.slice (some ⟨w.heap.size, 0, none⟩) (es.length + xs.length) (grownCap w (es.length + xs.length) cap E)) E k (es ++ xs) :: M) a (w.drew.alloc (.cells cells E)) := by
        refine hd1.alloc _ _ rfl ?_
        intro N hN
        refine ⟨some ⟨w.heap.size, 0, none⟩, _, by rw [List.length_append], by rw [List.length_append]; exact hg1, hg2, .inr ⟨w.heap.size, 0, cells, 0, 0, rfl, alloc_new w.drew _, by omega, .inl (Nat.le_refl _), ?_⟩⟩
        refine RepE.keep (w := w) (N := bl M ++ x.F) ?_ _ _ _ (by simpa using hrE)
        intro b c U fr hn hc
        refine ⟨fun h => ?_, by rw [alloc_old w.drew _ (heap_lt (w := w.drew) hc)]; exact hc⟩
        rcases (hN b).1 h with h | h
        · have := heap_lt hc; subst h; exact absurd this (Nat.lt_irrefl _)
        · exact hn h
      obtain ⟨hm, hk, hsb⟩ := hnew.mem.sub (perm_set (m' := ME.arr (.slice (some ⟨w.heap.size, 0, none⟩) (es.length + xs.length) (grownCap w (es.length + xs.length) cap E)) E k (es ++ xs)) hM)
      exact hnew.world hk hm (hnew.fr.sub hsb)

/-- the nil slice is an array of the call's own, at every type -/
theorem W.own_nil {R : Act → World → Prop} (E k : Nat) (h : W x L (ME.arr (.slice none 0 0) E k [] :: M) R) : W x L M R := by
  intro a w hs
  refine h a w ⟨hs.defers, hs.size, hs.slots, ⟨hs.mem.nodup, hs.mem.apart, ?_⟩, hs.fr, hs.old⟩
  intro m hm
  rcases List.mem_cons.1 hm with rfl | hm
  · exact ⟨none, 0, rfl, Nat.le_refl _, by simp [maxLen], .inl ⟨rfl, rfl⟩⟩
  · exact hs.mem.holds m hm

theorem W.appn {d : Tmp} {T T' E k bytes : Nat} {z : Value} {o1 o2 : Operand} {xs : List AV} (h1 : Ov true L o1 (.lit (.slice none 0 0))) (h2 : SrcOv x L (ME.arr (.slice none 0 0) E k [] :: M) o2 k xs) (hT : x.P.underlying T = some (.slice E)) (hT' : NotInt x.P T') (hE : Ty x.P E k bytes z) (hzk : z.cells.size = k)
    (hb1 : Nat.ble 1 bytes = true) (hb : xs.length * bytes ≤ 140737488355328) (hd : Nat.blt d x.n = true)
    (next : ∀ v', W x ((d, true, .lit v') :: L) (ME.arr v' E k xs :: M) (wpList x.P ops Q rest)) :
    W x L M (wpList x.P ops Q (⟨some d, .call ⟨.builtin .append, #[o1, o2], #[T, T']⟩, ty, pos, aft, none⟩ :: rest)) :=
  W.own_nil E k (W.app 0 h1 rfl h2 hT hT' hE hzk hb1 (by simpa using hb) hd (fun v' => next v'))

/-! ### what is written no more -/
/-- the value v, wherever it stands, may be said to be an immutable slice -/
inductive Frz (v : Value) (k : Nat) (es : List AV) : AV → AV → Prop
  | refl (av : AV) : Frz v k es av av
  | hit : Frz v k es (.lit v) (.sl k es)

def FrzL (v : Value) (k : Nat) (es : List AV) : List AV → List AV → Prop
  | [], [] => True
  | a :: as_, b :: bs => Frz v k es a b ∧ FrzL v k es as_ bs
  | _, _ => False

/-- .. and within a struct -/
inductive FrzS (v : Value) (k : Nat) (es : List AV) : AV → AV → Prop
  | one {a b : AV} : Frz v k es a b → FrzS v k es a b
  | agg {as_ bs : List AV} : FrzL v k es as_ bs → FrzS v k es (.agg as_) (.agg bs)

/-- What L' says, L says, but for slices that are said to be immutable. -/
def FSub (v : Value) (k : Nat) (es : List AV) (L : List (Tmp × Bool × AV)) : List (Tmp × Bool × AV) → Prop
  | [] => True
  | (t, g, b) :: r => (∃ a, look L t = some (g, a) ∧ FrzS v k es a b) ∧ FSub v k es L r

theorem Frz.repC {w : World} {N : List Nat} {v : Value} {k : Nat} {es : List AV} (hv : Rep w N (.sl k es) v) {a b : AV} (h : Frz v k es a b) {row : List Value} (hr : RepC w N a row) : RepC w N b row := by
  cases h with
  | refl => exact hr
  | hit => simp only [RepC] at hr; rw [hr]; exact hv.2
theorem Frz.sh {w : World} {N : List Nat} {v : Value} {k : Nat} {es : List AV} (hv : Rep w N (.sl k es) v) {a b : AV} (h : Frz v k es a b) : a.sh = b.sh := by
  cases h with
  | refl => rfl
  | hit => exact hv.1.symm
theorem FrzL.repL {w : World} {N : List Nat} {v : Value} {k : Nat} {es : List AV} (hv : Rep w N (.sl k es) v) : ∀ {as_ bs : List AV} {row : List Value}, FrzL v k es as_ bs → RepL w N as_ row → RepL w N bs row
  | [], [], row, _, h => h
  | a :: as_, b :: bs, row, h, hr => by
    simp only [RepL] at hr ⊢
    obtain ⟨u, us, rfl, ⟨h1, h2, h3⟩, h4⟩ := hr
    exact ⟨u, us, rfl, ⟨by rw [← h.1.sh hv]; exact h1, h2, h.1.repC hv h3⟩, FrzL.repL hv h.2 h4⟩
  | [], _ :: _, _, h, _ => h.elim
  | _ :: _, [], _, h, _ => h.elim
theorem FrzS.rep {w : World} {N : List Nat} {v : Value} {k : Nat} {es : List AV} (hv : Rep w N (.sl k es) v) {a b : AV} (h : FrzS v k es a b) {u : Value} (hr : Rep w N a u) : Rep w N b u := by
  cases h with
  | one h => exact ⟨by rw [← h.sh hv]; exact hr.1, h.repC hv hr.2⟩
  | agg h =>
    refine ⟨hr.1, ?_⟩
    have := hr.2
    simp only [RepC] at this ⊢
    exact h.repL hv this

theorem FSub.look {v : Value} {k : Nat} {es : List AV} : ∀ {L' : List (Tmp × Bool × AV)}, FSub v k es L L' → ∀ t g b, look L' t = some (g, b) → ∃ a, look L t = some (g, a) ∧ FrzS v k es a b
  | [], _, t, g, b, h => by cases h
  | (u, g', b') :: r, hs, t, g, b, h => by
    rw [look_cons] at h
    by_cases e : u = t
    · subst e; rw [if_pos rfl] at h; cases h; exact hs.1
    · rw [if_neg e] at h; exact FSub.look hs.2 t g b h

theorem FrzL.len {v : Value} {k : Nat} {es : List AV} : ∀ {as_ bs : List AV}, FrzL v k es as_ bs → as_.length = bs.length
  | [], [], _ => rfl
  | a :: as_, b :: bs, h => by rw [List.length_cons, List.length_cons, FrzL.len h.2]
  | [], _ :: _, h => h.elim
  | _ :: _, [], h => h.elim
theorem FrzL.refl {v : Value} {k : Nat} {es : List AV} : ∀ as_ : List AV, FrzL v k es as_ as_
  | [] => trivial
  | a :: as_ => ⟨.refl a, FrzL.refl as_⟩
theorem FrzL.append {v : Value} {k : Nat} {es : List AV} : ∀ {as_ bs cs ds : List AV}, FrzL v k es as_ bs → FrzL v k es cs ds → FrzL v k es (as_ ++ cs) (bs ++ ds)
  | [], [], _, _, _, h => h
  | a :: as_, b :: bs, _, _, h, h2 => ⟨h.1, FrzL.append h.2 h2⟩
  | [], _ :: _, _, _, h, _ => h.elim
  | _ :: _, [], _, _, h, _ => h.elim
theorem FrzL.repE {w : World} {N : List Nat} {v : Value} {k : Nat} {es : List AV} (hv : Rep w N (.sl k es) v) {j : Nat} : ∀ {as_ bs : List AV} {row : List Value}, FrzL v k es as_ bs → RepE w N j as_ row → RepE w N j bs row
  | [], [], row, _, h => h
  | a :: as_, b :: bs, row, h, hr => by
    simp only [RepE] at hr ⊢
    exact ⟨hr.1, h.1.repC hv hr.2.1, FrzL.repE hv h.2 hr.2.2⟩
  | [], _ :: _, _, h, _ => h.elim
  | _ :: _, [], _, h, _ => h.elim
/-- the entries of M, with v said to be immutable within boxes -/
inductive FrzM (v : Value) (k : Nat) (es : List AV) : ME → ME → Prop
  | refl (m : ME) : FrzM v k es m m
  | box {b T : Nat} {as_ bs : List AV} : FrzL v k es as_ bs → FrzM v k es (.box b T as_) (.box b T bs)
  | arr {u : Value} {T j : Nat} {as_ bs : List AV} : FrzL v k es as_ bs → FrzM v k es (.arr u T j as_) (.arr u T j bs)
def FrzMs (v : Value) (k : Nat) (es : List AV) : List ME → List ME → Prop
  | [], [] => True
  | a :: as_, b :: bs => FrzM v k es a b ∧ FrzMs v k es as_ bs
  | _, _ => False
theorem FrzM.blks {v : Value} {k : Nat} {es : List AV} {m m' : ME} (h : FrzM v k es m m') : m'.blks = m.blks := by
  cases h with
  | refl => rfl
  | box h => rfl
  | @arr u _ _ _ _ h =>
    cases u with
    | slice a n c => cases a <;> rfl
    | _ => rfl
theorem FrzM.holds {w : World} {N : List Nat} {v : Value} {k : Nat} {es : List AV} (hv : Rep w N (.sl k es) v) {m m' : ME} (h : FrzM v k es m m') (hm : m.holds w N) : m'.holds w N := by
  cases h with
  | refl => exact hm
  | box h => obtain ⟨cur, hc, hr⟩ := hm; exact ⟨cur, hc, h.repL hv hr⟩
  | arr h =>
    obtain ⟨a, cap, e, h1, h2, h3⟩ := hm
    rw [h.len] at e h1
    refine ⟨a, cap, e, h1, h2, ?_⟩
    rcases h3 with h3 | ⟨g, off, cur, lo, hi, q1, q2, q3, q4, q5⟩
    · exact .inl h3
    · exact .inr ⟨g, off, cur, lo, hi, q1, q2, q3, q4, h.repE hv q5⟩
theorem FrzMs.bl {v : Value} {k : Nat} {es : List AV} : ∀ {M M' : List ME}, FrzMs v k es M M' → bl M' = bl M
  | [], [], _ => rfl
  | m :: M, m' :: M', h => by
    have := FrzMs.bl h.2
    simp only [Vl.bl, List.flatMap_cons] at this ⊢
    rw [this, h.1.blks]
  | [], _ :: _, h => h.elim
  | _ :: _, [], h => h.elim
theorem FrzMs.mem {v : Value} {k : Nat} {es : List AV} : ∀ {M M' : List ME}, FrzMs v k es M M' → ∀ m' ∈ M', ∃ m ∈ M, FrzM v k es m m'
  | [], [], _, m', h => by simp at h
  | m :: M, n :: M', h, m', hm => by
    rcases List.mem_cons.1 hm with rfl | hm
    · exact ⟨m, by simp, h.1⟩
    · obtain ⟨m1, h1, h2⟩ := FrzMs.mem h.2 m' hm
      exact ⟨m1, by simp [h1], h2⟩
  | [], _ :: _, h, _, _ => h.elim
  | _ :: _, [], h, _, _ => h.elim
theorem FrzMs.refl {v : Value} {k : Nat} {es : List AV} : ∀ (M : List ME), FrzMs v k es M M
  | [] => trivial
  | m :: M => ⟨.refl m, FrzMs.refl M⟩

/-- AN ARRAY OF THE CALL's OWN IS WRITTEN NO MORE. -/
theorem W.freeze {R : Act → World → Prop} {v : Value} {T k : Nat} {es : List AV} {L' : List (Tmp × Bool × AV)} {M1 M2 D : List ME} (hM : List.Perm M (ME.arr v T k es :: (M1 ++ D))) (hL : FSub v k es L L') (hM2 : FrzMs v k es M1 M2) (h : W x L' M2 R) : W x L M R := by
  intro a w hs
  have hm := hs.mem.holds _ (hM.mem_iff.2 List.mem_cons_self)
  obtain ⟨ad, cap, e, h1, h2, h3⟩ := hm
  have hp2 : List.Perm M (M1 ++ (ME.arr v T k es :: D)) := hM.trans (List.perm_middle.symm)
  obtain ⟨hmem, hk, hsub⟩ := hs.mem.sub hp2
  have hbl := hM2.bl
  have hnd := (bl_perm hM).nodup_iff.1 hs.mem.nodup
  -- the slice itself, now that its block is none of the mutable ones
  have hv : Rep w (bl M1 ++ x.F) (.sl k es) v := by
    rw [e]
    refine Rep.slI h1 h2 ?_
    rcases h3 with ⟨_, hc⟩ | ⟨g, off, cur, lo, hi, rfl, hc, _, _, hE⟩
    · left; exact List.eq_nil_of_length_eq_zero (by omega)
    · refine .inr ⟨g, off, cur, T, (lo, hi), rfl, ?_, hc, RepE.keep hk _ _ _ hE⟩
      have hg : g ∈ bl [ME.arr v T k es] := by subst e; simp [Vl.bl, ME.blks]
      intro hin
      rcases List.mem_append.1 hin with hin | hin
      · have : bl (ME.arr v T k es :: (M1 ++ D)) = bl [ME.arr v T k es] ++ (bl M1 ++ bl D) := by simp [Vl.bl]
        rw [this] at hnd
        exact (List.nodup_append.1 hnd).2.2 g hg g (List.mem_append_left _ hin) rfl
      · refine hs.mem.apart g ?_ hin
        rw [(bl_perm hM).mem_iff]
        have : bl (ME.arr v T k es :: (M1 ++ D)) = bl [ME.arr v T k es] ++ (bl M1 ++ bl D) := by simp [Vl.bl]
        rw [this]
        exact List.mem_append_left _ hg
  refine h a w ⟨hs.defers, hs.size, ?_, ⟨by rw [hbl]; exact hmem.nodup, by rw [hbl]; exact hmem.apart, ?_⟩, by rw [hbl]; exact hs.fr.sub hsub, hs.old⟩
  · intro t g b hl
    obtain ⟨a', hl', hf⟩ := hL.look t g b hl
    have := hs.slots t g a' hl'
    rw [hbl]
    exact ⟨fun hg => hf.rep hv ((this.1 hg).keep hk), this.2⟩
  · intro m' hm'
    obtain ⟨m, h4, h5⟩ := hM2.mem m' hm'
    rw [hbl]
    exact h5.holds hv (hmem.holds m h4)

/-! ### make -/
theorem run_makeSlice {P : Program} {w : World} {T E k bytes : Nat} {z : Value} {n : Nat} (hT : P.underlying T = some (.slice E)) (hE : Ty P E k bytes z) (hzk : z.cells.size = k) (hb1 : 1 ≤ bytes) (hb : n * bytes ≤ 140737488355328) :
    ∃ cells : Array Value, (Instr.makeSlice T (.int .i64 n) (.int .i64 n)).run P w = .ok (.slice (some ⟨w.heap.size, 0, none⟩) n n) (w.alloc (.cells cells E)) ∧ cells.size = n * k ∧ ∀ j, j < n * k → cells[j]? = some (z.cells[j % k]!) := by
  have hn : n ≤ n * bytes := Nat.le_mul_of_pos_right _ hb1
  have hw : IntKind.i64.wrap (n : Int) = n := IntWalk.i64_in _ (by omega)
  obtain ⟨i, hi1, hi2, hi3, hi4⟩ := hE
  have ht : ¬ ((n : Int) < 0) := by omega
  have hmul : ((bytes : Int) * n) = ((n * bytes : Nat) : Int) := by rw [Int.mul_comm]; simp
  have ht2 : ¬ (281474976710656 < (bytes : Int) * n) := by rw [hmul]; omega
  have hsz : (zeroValue E).run P w = .ok z w := by simp [zeroValue, typeInfo, hi1, hi4]
  by_cases h0 : n * k = 0
  · refine ⟨#[], ?_, by simp [h0], by intro j hj; omega⟩
    simp [Array.range_zero', Instr.makeSlice, run_underlying hT, asInt, asIntOf, typeInfo, hi1, hi3, hw, ht, ht2, sizeOf, hi2, h0, newRow]
  · refine ⟨(Array.range (n * k)).map (z.cells[· % z.cells.size]!), ?_, by simp, ?_⟩
    · simp [Instr.makeSlice, run_underlying hT, asInt, asIntOf, typeInfo, hi1, hi3, hw, ht, ht2, sizeOf, hi2, h0, newRow, hsz]
    · intro j hj
      rw [Array.getElem?_map, Array.getElem?_range, if_pos hj, hzk]
      rfl

theorem RepE.rep {w : World} {N : List Nat} {k : Nat} {zl : List Value} (hk : zl.length = k) (hz : zl.all (fun v => shV v == 0) = true) {e : AV} (he : RepC w N e zl) : ∀ (n : Nat) (row : List Value), row.length = n * k → (∀ j, j < n * k → row[j]? = zl[j % k]?) → RepE w N k (List.replicate n e) row
  | 0, row, _, _ => by simp [RepE]
  | n + 1, row, hl, hr => by
    simp only [List.replicate_succ, RepE]
    have hm : (n + 1) * k = n * k + k := by rw [Nat.add_mul, Nat.one_mul]
    have h1 : row.take k = zl := by
      apply List.ext_getElem?
      intro j
      rw [List.getElem?_take]
      by_cases hj : j < k
      · rw [if_pos hj, hr j (by omega), Nat.mod_eq_of_lt hj]
      · rw [if_neg hj, List.getElem?_eq_none (by omega)]
    refine ⟨by omega, by rw [h1]; exact he, RepE.rep hk hz he n _ (by rw [List.length_drop]; omega) ?_⟩
    intro j hj
    rw [List.getElem?_drop, hr (k + j) (by omega), Nat.add_mod_left]

theorem W.mk {d : Tmp} {T E k bytes : Nat} {z : Value} {o1 o2 : Operand} {n : Nat} {e : AV} (h1 : Ov true L o1 (.lit (.int .i64 (n : Int)))) (h2 : Ov true L o2 (.lit (.int .i64 (n : Int)))) (hT : x.P.underlying T = some (.slice E)) (hE : Ty x.P E k bytes z) (hzk : z.cells.size = k) (hz : z.cells.toList.all (fun v => shV v == 0) = true)
    (he : e = match z.cells.toList with | [v] => if shV z == 1 then .agg [.lit v] else .lit v | l => .agg (l.map .lit)) (hb1 : Nat.ble 1 bytes = true) (hk1 : Nat.ble 1 k = true) (hb : n * bytes ≤ 140737488355328) (hd : Nat.blt d x.n = true)
    (next : ∀ v', W x ((d, true, .lit v') :: L) (ME.arr v' E k (List.replicate n e) :: M) (wpList x.P ops Q rest)) :
    W x L M (wpList x.P ops Q (⟨some d, .makeSlice T o1 o2, ty, pos, aft, none⟩ :: rest)) := by
  refine W.opv (ι := Value) (fun v' => ME.arr v' E k (List.replicate n e) :: M) (fun v' => .lit v') hd ?_ next
  intro a w hs
  have hb1' := Nat.le_of_ble_eq_true hb1
  have hn : n ≤ n * bytes := Nat.le_mul_of_pos_right _ hb1'
  obtain ⟨cells, hr, hsz, hc⟩ := run_makeSlice (P := x.P) (w := w) hT hE hzk hb1' hb
  refine ⟨.slice (some ⟨w.heap.size, 0, none⟩) n n, w.alloc (.cells cells E), .slice (some ⟨w.heap.size, 0, none⟩) n n, by simp only [execOp, h1.lit rfl hs, h2.lit rfl hs, Sem.run_bind, hr, Result.andThen_ok, Sem.run_pure], ?_, Rep.lit _⟩
  refine hs.alloc _ _ rfl ?_
  intro N hN
  refine ⟨some ⟨w.heap.size, 0, none⟩, n, by simp, by simp, by simp only [maxLen]; omega, .inr ⟨w.heap.size, 0, cells, 0, 0, rfl, alloc_new _ _, by omega, .inl (Nat.le_refl _), ?_⟩⟩
  have hzl : z.cells.toList.length = k := by simpa using hzk
  refine RepE.rep hzl hz (e := e) ?_ n _ (by simp [hsz]) ?_
  · have hL : ∀ l : List Value, l.all (fun v => shV v == 0) = true → RepL (w.alloc (.cells cells E)) N (l.map .lit) l := by
      intro l
      induction l with
      | nil => intro _; simp [RepL]
      | cons v l ih =>
        intro hz
        simp only [List.all_cons, Bool.and_eq_true, beq_iff_eq] at hz
        simp only [List.map_cons, RepL]
        exact ⟨v, l, rfl, ⟨hz.1, hz.1, by simp only [RepC, cells_of_sh hz.1]⟩, ih hz.2⟩
    subst he
    have := hL _ hz
    revert this hz
    generalize z.cells.toList = l
    intro hz this
    match l with
    | [] => simpa [RepC] using this
    | [v] =>
      simp only [List.all_cons, List.all_nil, Bool.and_true, beq_iff_eq] at hz
      dsimp only
      split
      · simpa only [RepC, List.map_cons, List.map_nil] using this
      · simp only [RepC, cells_of_sh hz]
    | u :: v :: l => simpa only [RepC] using this
  · intro j hj
    have hkpos := Nat.le_of_ble_eq_true hk1
    have hlt : j % k < z.cells.size := by rw [hzk]; exact Nat.mod_lt _ hkpos
    rw [List.drop_zero, Array.getElem?_toList, hc j hj]
    simp [hlt]

/-! ### elements of the call's own arrays -/
section elems
variable {g : Bool} {T T' : TypeId} {o1 o2 : Operand}
theorem Ev.ata (i : Nat) {v : Value} {U k E bytes : Nat} {z : Value} {es : List AV} {n : Int} {ki : IntKind} (h1 : Ov g L o1 (.lit v)) (hM : M[i]? = some (ME.arr v U k es)) (h2 : Ov g L o2 (.lit (.int ki n))) (hT : x.P.underlying T = some (.slice E)) (hE : Ty x.P E k bytes z)
    (hi : g = true → 0 ≤ n ∧ n < es.length) : Ev x g L M (.indexAddr T o1 o2) ty (.aptr v (n.toNat * k)) := fun a w hs hg => by
  obtain ⟨hi0, hi1⟩ := hi hg
  obtain ⟨ad, cap, e, hlc, hcm, hcase⟩ := hs.mem.holds _ (List.mem_of_getElem? hM)
  have e1 := h1.lit hg hs
  rcases hcase with ⟨_, hc⟩ | ⟨gb, off, cur, lo, hi', rfl, hc, hsz, hfr, hrE⟩
  · have : es.length = 0 := by omega
    omega
  · refine ⟨.pointer (some ⟨gb, off + n.toNat * k, none⟩), ?_, rfl, ?_⟩
    · rw [e] at e1
      simp [execOp, e1, h2.lit hg hs, Instr.indexAt, asIntOf, run_underlying hT, hi0, hi1, hE.size, Addr.add_lit]
    · simp only [RepC]; exact ⟨gb, off, _, _, e, by simp [Value.cells]⟩

/-- where an element of an own array lies -/
theorem arr_at {a : Act} {w : World} (hs : St x L M a w) {i : Nat} {v : Value} {U k : Nat} {es : List AV} (hM : M[i]? = some (ME.arr v U k es)) {q : Nat} {e : AV} (hq : es[q]? = some e) :
    ∃ gb off cap cur lo hi, v = .slice (some ⟨gb, off, none⟩) es.length cap ∧ w.heap[gb]? = some (.cells cur U (lo, hi)) ∧ off + cap * k ≤ cur.size ∧ (hi ≤ lo ∨ off + cap * k ≤ lo) ∧ es.length ≤ cap ∧ cap ≤ maxLen ∧ RepE w (bl M ++ x.F) k es (cur.toList.drop off) := by
  have hlt : q < es.length := by
    rcases Nat.lt_or_ge q es.length with h' | h'
    · exact h'
    · rw [List.getElem?_eq_none h'] at hq; cases hq
  obtain ⟨ad, cap, e, hlc, hcm, hcase⟩ := hs.mem.holds _ (List.mem_of_getElem? hM)
  rcases hcase with ⟨_, hc⟩ | ⟨gb, off, cur, lo, hi', rfl, hc, hsz, hfr, hrE⟩
  · have : es.length = 0 := by omega
    omega
  · exact ⟨gb, off, cap, cur, lo, hi', e, hc, hsz, hfr, hlc, hcm, hrE⟩

theorem Ev.lda1 (i q o : Nat) {v : Value} {U k j : Nat} {es : List AV} {e c : AV} (h1 : Ov g L o1 (.aptr v j)) (hM : M[i]? = some (ME.arr v U k es)) (hq : es[q]? = some e) (hj : j = q * k + o) (ho : e.okc = true) (hk : e.cells.length = k) (hc : e.cells[o]? = some c) (hT : IsAgg x.P T false) : Ev x g L M (.load T o1) ty c := fun a w hs hg => by
  obtain ⟨gb, off, cap, cur, lo, hi, hv, hcur, hsz, _, _, _, hrE⟩ := arr_at hs hM hq
  obtain ⟨g2, off2, n2, cap2, hv2, ep⟩ := (h1.rep hg hs).aptr_inv
  rw [hv] at hv2
  cases hv2
  obtain ⟨h3, h4⟩ := hrE.get hq
  obtain ⟨u, hu, hrep⟩ := RepL.get (RepC.cells ho h4) hc
  have hok : o < k := by
    have : o < e.cells.length := by
      rcases Nat.lt_or_ge o e.cells.length with h' | h'
      · exact h'
      · rw [List.getElem?_eq_none h'] at hc; cases hc
    omega
  rw [List.getElem?_take, if_pos hok, List.getElem?_drop, List.getElem?_drop, Array.getElem?_toList] at hu
  subst hj
  exact ⟨u, run_load1 hT hcur (by rw [← hu]) ep, hrep⟩
theorem Ev.ldan (i q : Nat) {v : Value} {U k j bytes : Nat} {z : Value} {es : List AV} {e : AV} (h1 : Ov g L o1 (.aptr v j)) (hM : M[i]? = some (ME.arr v U k es)) (hq : es[q]? = some e) (hj : j = q * k) (ho : e.okc = true) (hT : IsAgg x.P T true) (hk : Ty x.P T k bytes z) : Ev x g L M (.load T o1) ty (.agg e.cells) := fun a w hs hg => by
  obtain ⟨gb, off, cap, cur, lo, hi, hv, hcur, hsz, _, hlc, _, hrE⟩ := arr_at hs hM hq
  obtain ⟨g2, off2, n2, cap2, hv2, ep⟩ := (h1.rep hg hs).aptr_inv
  rw [hv] at hv2
  cases hv2
  obtain ⟨h3, h4⟩ := hrE.get hq
  subst hj
  have hlt : q < es.length := by
    rcases Nat.lt_or_ge q es.length with h' | h'
    · exact h'
    · rw [List.getElem?_eq_none h'] at hq; cases hq
  have hle : (q + 1) * k ≤ cap * k := Nat.mul_le_mul_right _ (by omega)
  rw [Nat.add_mul, Nat.one_mul] at hle
  refine ⟨_, run_loadn hT hk hcur (by omega) ep, rfl, ?_⟩
  rw [List.drop_drop] at h4
  simpa only [RepC, Value.cells] using RepC.cells ho h4

theorem RepE.set {w : World} {N : List Nat} {k : Nat} : ∀ {es : List AV} {row : List Value} {q : Nat} {e' : AV} {new : List Value}, RepE w N k es row → q < es.length → new.length = k → RepC w N e' new →
    RepE w N k (es.set q e') (row.take (q * k) ++ new ++ row.drop (q * k + k))
  | [], row, q, e', new, _, hq, _, _ => by simp at hq
  | e :: es, row, 0, e', new, h, _, hn, he => by
    simp only [RepE] at h
    simp only [List.set_cons_zero, RepE, Nat.zero_mul, List.take_zero, List.nil_append, Nat.zero_add]
    refine ⟨by simp; omega, by rw [List.take_append_of_le_length (by omega), List.take_of_length_le (by omega)]; exact he, ?_⟩
    rw [List.drop_append_of_le_length (by omega), List.drop_of_length_le (by omega), List.nil_append]
    exact h.2.2
  | e :: es, row, q + 1, e', new, h, hq, hn, he => by
    simp only [RepE] at h
    have ih := RepE.set h.2.2 (show q < es.length by simpa using hq) hn he
    simp only [List.set_cons_succ, RepE]
    have hm : (q + 1) * k = k + q * k := by rw [Nat.add_mul, Nat.one_mul, Nat.add_comm]
    have hle : k ≤ row.length := h.1
    rw [hm, List.take_add, List.append_assoc, List.append_assoc]
    have hkl : (row.take k).length = k := by simp; omega
    refine ⟨by simp; omega, by rw [List.take_append_of_le_length (by omega), List.take_take, Nat.min_self]; exact h.2.1, ?_⟩
    rw [List.drop_append_of_le_length (by omega), List.drop_of_length_le (by omega), List.nil_append]
    rw [List.drop_drop] at ih
    rw [List.append_assoc] at ih
    rw [show k + q * k + k = k + (q * k + k) from by omega]
    exact ih

theorem RepC.ofL {w : World} {N : List Nat} {e : AV} {row : List Value} (ho : e.okc = true) (h : RepL w N e.cells row) : RepC w N e row := by
  cases e with
  | agg cs => simpa only [RepC, AV.cells] using h
  | tup vs => simp [AV.okc] at ho
  | lit u =>
    simp only [AV.okc, beq_iff_eq] at ho
    have hu : (AV.lit u).cells = [.lit u] := by cases u <;> first | rfl | simp [shV] at ho
    rw [hu] at h; simp only [RepL] at h; obtain ⟨_, _, rfl, ⟨_, _, h1⟩, rfl⟩ := h; exact h1
  | sl k es => simp only [AV.cells, RepL] at h; obtain ⟨_, _, rfl, ⟨_, _, h1⟩, rfl⟩ := h; exact h1
  | eptr cs => simp only [AV.cells, RepL] at h; obtain ⟨_, _, rfl, ⟨_, _, h1⟩, rfl⟩ := h; exact h1
  | aptr v j => simp only [AV.cells, RepL] at h; obtain ⟨_, _, rfl, ⟨_, _, h1⟩, rfl⟩ := h; exact h1

theorem wr_elem {R nl : List Value} {off p o n k : Nat} (hn : nl.length = n) (hon : o + n ≤ k) (hR : off + p + k ≤ R.length) :
    (R.take (off + (p + o)) ++ nl ++ R.drop (off + (p + o) + n)).drop off =
      (R.drop off).take p ++ ((((R.drop off).drop p).take k).take o ++ nl ++ (((R.drop off).drop p).take k).drop (o + n)) ++ (R.drop off).drop (p + k) := by
  have e1 : (R.take (off + (p + o)) ++ nl ++ R.drop (off + (p + o) + n)).drop off = (R.drop off).take (p + o) ++ nl ++ (R.drop off).drop (p + o + n) := by
    rw [List.append_assoc, List.drop_append_of_le_length (by rw [List.length_take]; omega), List.drop_take, Nat.add_sub_cancel_left, List.append_assoc, List.drop_drop, Nat.add_assoc off (p + o) n]
  rw [e1]
  have hS : p + k ≤ (R.drop off).length := by rw [List.length_drop]; omega
  generalize R.drop off = S at hS
  have e2 : ((S.drop p).take k).take o = (S.drop p).take o := by rw [List.take_take, Nat.min_eq_left (by omega)]
  have e3 : ((S.drop p).take k).drop (o + n) ++ S.drop (p + k) = S.drop (p + o + n) := by
    have : S.drop (p + k) = ((S.drop p).drop k) := by rw [List.drop_drop]
    rw [this, ← List.drop_append_of_le_length (by rw [List.length_take, List.length_drop]; omega), List.take_append_drop, List.drop_drop, Nat.add_assoc]
  rw [e2, List.take_add, List.append_assoc, List.append_assoc, List.append_assoc, List.append_assoc, e3]
  simp [List.append_assoc]

/-- a store into an element, or into a part of it -/
theorem W.sta (i q o : Nat) {v : Value} {U k j n bytes : Nat} {z : Value} {es : List AV} {e e' av : AV} (h1 : Ov true L o1 (.aptr v j)) (h2 : Ov true L o2 av) (hM : M[i]? = some (ME.arr v U k es)) (hq : es[q]? = some e) (hj : j = q * k + o) (hT : Ty x.P T n bytes z)
    (hoe : e.okc = true) (hke : e.cells.length = k) (hoa : av.okc = true) (hka : av.cells.length = n) (hle : Nat.ble (o + n) k = true) (hoe' : e'.okc = true) (hce : e'.cells = splice e.cells o av.cells)
    (next : W x L (M.set i (ME.arr v U k (es.set q e'))) (wpList x.P ops Q rest)) :
    W x L M (wpList x.P ops Q (⟨none, .store T o1 o2, ty, pos, aft, none⟩ :: rest)) := by
  refine W.opu (ι := Unit) (fun _ => M.set i (ME.arr v U k (es.set q e'))) ?_ (fun _ => next)
  intro a w hs
  have hr := h2.rep rfl hs
  have hrl := hr.toL hoa
  have hlen := hrl.length
  have hle' := Nat.le_of_ble_eq_true hle
  obtain ⟨gb, off, cap, cur, lo, hi, hv, hcur, hsz, hfr, hlc, hcm, hrE⟩ := arr_at hs hM hq
  obtain ⟨g2, off2, n2, cap2, hv2, ep⟩ := (h1.rep rfl hs).aptr_inv
  rw [hv] at hv2
  cases hv2
  subst hj
  have hlt : q < es.length := by
    rcases Nat.lt_or_ge q es.length with h' | h'
    · exact h'
    · rw [List.getElem?_eq_none h'] at hq; cases hq
  have hmul : (q + 1) * k ≤ cap * k := Nat.mul_le_mul_right _ (by omega)
  rw [Nat.add_mul, Nat.one_mul] at hmul
  have hnl : (a.eval o2).cells.toList.length = n := by omega
  have hst := run_storeCells (P := x.P) (g := gb) (off := off + (q * k + o)) (T := U) (lo := lo) (hi := hi) (a.eval o2).cells.toList 0 cur w hcur (by omega) (by omega) hrl.sh
  refine ⟨{ w with heap := w.heap.setIfInBounds gb (.cells (wr cur (off + (q * k + o)) (a.eval o2).cells.toList) U (lo, hi)) }, (), ?_, ?_⟩
  · have hne : ¬ ((a.eval o2).cells.size ≠ n) := by simp at hnl; omega
    simp only [execOp, ep, Instr.storeAt, Instr.sureAddr, storeVar, Sem.run_bind, Sem.run_pure, Result.andThen_ok, hT.size, if_neg hne, hst, Nat.add_zero]
  · refine hs.write (m' := ME.arr v U k (es.set q e')) hM (by subst hv; rfl) (by subst hv; rfl) ?_
    intro w' hother hnew hk'
    have hcl : cur.toList.length = cur.size := Array.length_toList
    have hrE' := RepE.keep hk' _ _ _ hrE
    obtain ⟨h3, h4⟩ := hrE'.get hq
    have hsp := (RepC.cells hoe h4)
    -- the element's new cells
    have hnewcells : RepL w' (bl M ++ x.F) e'.cells ((((cur.toList.drop off).drop (q * k)).take k).take o ++ (a.eval o2).cells.toList ++ (((cur.toList.drop off).drop (q * k)).take k).drop (o + n)) := by
      rw [hce]
      unfold splice
      rw [hka]
      exact ((hsp.take o).append (RepL.keep hk' _ _ hrl)).append (hsp.drop _)
    refine ⟨some ⟨gb, off, none⟩, cap, by rw [List.length_set]; exact hv, by rw [List.length_set]; exact hlc, hcm, .inr ⟨gb, off, _, lo, hi, rfl, hnew, ?_, hfr, ?_⟩⟩
    · rw [wr_size _ _ _ (by omega)]; exact hsz
    · have hseg : (((cur.toList.drop off).drop (q * k)).take k).length = k := by rw [List.length_take]; omega
      have hset := RepE.set hrE' hlt (new := (((cur.toList.drop off).drop (q * k)).take k).take o ++ (a.eval o2).cells.toList ++ (((cur.toList.drop off).drop (q * k)).take k).drop (o + n)) (by
        rw [List.length_append, List.length_append, List.length_take, List.length_drop, hseg, hnl]; omega) (RepC.ofL hoe' hnewcells)
      refine RepE.congr hset ?_
      congr 1
      simp only [wr, List.toList_toArray]
      rw [hnl]
      exact (wr_elem hnl (by omega) (by omega)).symm
end elems
end arr
end Go.Vl
end

section
set_option linter.unusedVariables false
set_option linter.unusedSimpArgs false
set_option linter.unusedSectionVars false
namespace Go.Vl
open Go Go.Sem

/-- is operation a ahead of operation i, by the edges? -/
def ancN (ops : Array Oper) : Nat → Nat → Nat → Bool
  | 0, _, _ => false
  | n + 1, a, i => match ops[i]? with
    | none => false
    | some o => o.after.any fun e => Region.binds .any e && (Nat.beq e.on a || ancN ops n a e.on)
def anc (ops : Array Oper) (a i : Nat) : Bool := ancN ops ops.size a i
def Closed (ops : Array Oper) (e : Nat → Bool) : Prop := ∀ (j : Nat) (o : Oper), ops[j]? = some o → e j = true → ∀ ed ∈ o.after, Region.binds .any ed = true → e ed.on = true
/-- what is done (e) when operation i is next -/
structure OkE (ops : Array Oper) (e : Nat → Bool) (i : Nat) : Prop where
  closed : Closed ops e
  not : e i = false
  deps : ∀ o, ops[i]? = some o → ∀ ed ∈ o.after, Region.binds .any ed = true → e ed.on = true
theorem ancN_closed {ops : Array Oper} {e : Nat → Bool} (hc : Closed ops e) : ∀ (n a i : Nat), e i = true → ancN ops n a i = true → e a = true
  | 0, _, _, _, h => by simp [ancN] at h
  | n + 1, a, i, hi, h => by
    unfold ancN at h
    split at h
    · cases h
    · rename_i o ho
      simp only [Array.any_eq_true', Bool.and_eq_true, Bool.or_eq_true] at h
      obtain ⟨ed, hed, hb, h⟩ := h
      have h1 := hc i o ho hi ed hed hb
      rcases h with h | h
      · rw [← Nat.eq_of_beq_eq_true h]; exact h1
      · exact ancN_closed hc n a ed.on h1 h
theorem OkE.up {ops : Array Oper} {e : Nat → Bool} {i : Nat} (h : OkE ops e i) (a : Nat) (ha : anc ops a i = true) : e a = true := by
  unfold anc at ha
  cases hn : ops.size with
  | zero => rw [hn] at ha; simp [ancN] at ha
  | succ n =>
    rw [hn] at ha
    unfold ancN at ha
    split at ha
    · cases ha
    · rename_i o ho
      simp only [Array.any_eq_true', Bool.and_eq_true, Bool.or_eq_true] at ha
      obtain ⟨ed, hed, hb, ha⟩ := ha
      have h1 := h.deps o ho ed hed hb
      rcases ha with ha | ha
      · rw [← Nat.eq_of_beq_eq_true ha]; exact h1
      · exact ancN_closed h.closed n a ed.on h1 ha
theorem OkE.down {ops : Array Oper} {e : Nat → Bool} {i : Nat} (h : OkE ops e i) (s : Nat) (hs : anc ops i s = true) : e s = false := by
  cases he : e s with
  | false => rfl
  | true => have := ancN_closed h.closed _ i s he hs; rw [h.not] at this; cases this
def addE (e : Nat → Bool) (i : Nat) : Nat → Bool := fun j => if i = j then true else e j

theorem fm_congr {α β : Type} {f g : α → Option β} : ∀ (l : List α), (∀ j ∈ l, f j = g j) → l.filterMap f = l.filterMap g
  | [], _ => rfl
  | a :: l, h => by rw [List.filterMap_cons, List.filterMap_cons, h a (by simp), fm_congr l (fun j hj => h j (by simp [hj]))]
section draw
variable {x : Cx} {L : List En} {M : List ME} {Q : Exit → Act → World → Prop} {ι : Type}

/-- One step of an operation. -/
def stepE (x : Cx) (ops : Array Oper) (o : Oper) (a : Act) (w : World) (K : Act → World → Prop) : Prop :=
  ∀ Q : Exit → Act → World → Prop, if Region.wanted o (yielded ops a.tmps) then o.wp x.P a w K Q else K (a.put o.dst undef) w

def KeyOk (x : Cx) (o : Oper) (ent : ι → En) : Prop := ∀ c, match o.dst with
  | some d => (ent c).1 = d ∧ Nat.blt d x.n = true
  | none => ent c = (x.n, false, .lit undef)

def ObE (x : Cx) (ops : Array Oper) (L : List En) (Mf : (Nat → Bool) → ι → List ME) (i0 i : Nat) (o : Oper) (done : ι → List En) (ent : ι → En) : Prop :=
  ∀ e c, OkE ops e i → ∀ L' a w, (∀ t p, look (sel (o.looksAt ops) (done c ++ L)) t = some p → look L' t = some p) → St x L' (Mf e c) a w →
    stepE x ops o a w (fun a' w' => ∃ c', (i = i0 ∨ c' = c) ∧ St x (ent c' :: L') (Mf (addE e i) c') a' w')

/-- the region's operations in the text's order -/
def DE (x : Cx) (ops : Array Oper) (L : List En) (Mf : (Nat → Bool) → ι → List ME) (i0 : Nat) (R : Act → World → Prop) : Nat → List Oper → (ι → List En) → Prop
  | i, [], done => ∀ c e, (∀ j, j < i → e j = true) → W x (done c ++ L) (Mf e c) R
  | i, o :: rest, done => ∃ ent : ι → En, KeyOk x o ent ∧ (i = i0 ∨ anc ops i0 i = true ∨ ∀ c c', ent c = ent c') ∧ ObE x ops L Mf i0 i o done ent ∧ DE x ops L Mf i0 R (i + 1) rest (fun c => ent c :: done c)

theorem DE.extract {ops : Array Oper} {R : Act → World → Prop} {Mf : (Nat → Bool) → ι → List ME} {i0 : Nat} : ∀ {rest : List Oper} {k : Nat} {done : ι → List En}, DE x ops L Mf i0 R k rest done →
    ∃ ents : List (ι → En), ents.length = rest.length ∧ (∀ (i : Nat) (o : Oper), rest[i]? = some o → ∃ ent, ents[i]? = some ent ∧ KeyOk x o ent ∧ (k + i = i0 ∨ anc ops i0 (k + i) = true ∨ ∀ c c', ent c = ent c') ∧
      ObE x ops L Mf i0 (k + i) o (fun c => ((ents.take i).map (· c)).reverse ++ done c) ent) ∧ (∀ c e, (∀ j, j < k + rest.length → e j = true) → W x ((ents.map (· c)).reverse ++ (done c ++ L)) (Mf e c) R)
  | [], k, done, h => by
    have h' : ∀ c e, (∀ j, j < k → e j = true) → W x (done c ++ L) (Mf e c) R := h
    exact ⟨[], rfl, by simp, fun c e he => by simpa using h' c e (by simpa using he)⟩
  | o :: rest, k, done, h => by
    obtain ⟨ent, h1, h2, h3, h4⟩ := h
    obtain ⟨ents, e1, e2, e3⟩ := DE.extract h4
    refine ⟨ent :: ents, by simp [e1], ?_, ?_⟩
    · intro i o' ho'
      cases i with
      | zero => simp at ho'; subst ho'; exact ⟨ent, rfl, h1, h2, by simpa using h3⟩
      | succ i =>
        obtain ⟨ent', f1, f2, f3, f4⟩ := e2 i o' (by simpa using ho')
        have e : k + 1 + i = k + (i + 1) := by omega
        rw [e] at f3 f4
        exact ⟨ent', by simpa using f1, f2, f3, by simpa using f4⟩
    · intro c e he
      have := e3 c e (fun j hj => he j (by simp; omega))
      simpa using this

/-- what is asked of the operations' edges: decided by looking -/
def okDrawE (n : Nat) (ops : Array Oper) : Bool :=
  (List.range ops.size).all fun i => match ops[i]? with
    | none => false
    | some oi => oi.after.all (fun e => !(Region.binds .any e) || decide (e.on < i)) && !(oi.looksAt ops).contains n && (List.range ops.size).all fun j => match ops[j]? with
      | none => false
      | some oj => i == j || ((oi.dst != oj.dst || oj.dst.isNone) && match oj.dst with
        | none => true
        | some d => !(oi.looksAt ops).contains d || (bif j < i then oi.after.any (fun e => Region.binds .any e && e.on == j) else oj.after.any (fun e => Region.binds .any e && e.on == i)))

theorem St.ghost {a : Act} {w : World} (hs : St x L M a w) : St x ((x.n, false, .lit undef) :: L) M a w := by
  refine ⟨hs.defers, hs.size, ?_, hs.mem, hs.fr, hs.old⟩
  intro t g av hl
  rw [look_cons] at hl
  by_cases e : x.n = t
  · subst e
    rw [if_pos rfl] at hl
    cases hl
    refine ⟨fun h => (by cases h), fun _ => ?_⟩
    rw [Array.getD_eq_getD_getElem?, Array.getElem?_eq_none (by rw [hs.size]; omega)]
    rfl
  · rw [if_neg e] at hl
    exact hs.slots t g av hl
theorem W.drawnE {id : Nat} {l : List Oper} (Mf : (Nat → Bool) → ι → List ME) (i0 : Nat) (c0 : ι) (hm : x.P.follows .mixedOrders = true) (hok : okDrawE x.n l.toArray = true) (hM0 : M = Mf (fun _ => false) c0) (h : DE x l.toArray L Mf i0 (Q .normal) 0 l (fun _ => [])) : W x L M (Code.wp x.P (.region id l.toArray true) Q) := by
  subst hM0
  intro a w hs
  obtain ⟨ents, hlen, hes, hW⟩ := h.extract
  simp only [List.append_nil, Nat.zero_add, List.nil_append] at hes hW
  -- the edges, in words
  have hok' : ∀ (i : Nat) (oi : Oper), l[i]? = some oi → ((∀ e ∈ oi.after, Region.binds .any e = true → e.on < i) ∧ x.n ∉ oi.looksAt l.toArray) ∧ ∀ (j : Nat) (oj : Oper), l[j]? = some oj → i ≠ j → (oi.dst ≠ oj.dst ∨ oj.dst = none) ∧ ∀ d, oj.dst = some d → d ∈ oi.looksAt l.toArray →
      (j < i ∧ ∃ e ∈ oi.after, Region.binds .any e = true ∧ e.on = j) ∨ (i < j ∧ ∃ e ∈ oj.after, Region.binds .any e = true ∧ e.on = i) := by
    intro i oi hi
    have hil : i < l.length := by
      rcases Nat.lt_or_ge i l.length with h' | h'
      · exact h'
      · rw [List.getElem?_eq_none h'] at hi; cases hi
    simp only [okDrawE, List.size_toArray, List.all_eq_true, List.mem_range] at hok
    have h1 := hok i hil
    rw [List.getElem?_toArray, hi] at h1
    simp only [Bool.and_eq_true, Array.all_eq_true', List.all_eq_true, List.mem_range, decide_eq_true_eq, Bool.not_eq_true', List.contains_eq_mem, decide_eq_false_iff_not] at h1
    refine ⟨⟨fun e he hb => by
      have h9 := h1.1.1 e he
      rw [hb] at h9
      simpa using h9, h1.1.2⟩, fun j oj hj hne => ?_⟩
    have hjl : j < l.length := by
      rcases Nat.lt_or_ge j l.length with h' | h'
      · exact h'
      · rw [List.getElem?_eq_none h'] at hj; cases hj
    have h2 := h1.2 j hjl
    rw [List.getElem?_toArray, hj] at h2
    simp only [Bool.or_eq_true, beq_iff_eq, hne, false_or, Bool.and_eq_true, bne_iff_ne, Option.isNone_iff_eq_none] at h2
    refine ⟨h2.1, fun d hd hdl => ?_⟩
    have h3 := h2.2
    rw [hd] at h3
    simp only [Bool.or_eq_true, Bool.not_eq_true', List.contains_eq_mem, decide_eq_false_iff_not, hdl, not_true_eq_false, false_or] at h3
    by_cases hji : j < i
    · left
      simp only [hji, decide_true, cond_true, Array.any_eq_true', Bool.and_eq_true, beq_iff_eq] at h3
      obtain ⟨e, he, hb, ho⟩ := h3
      exact ⟨hji, e, he, hb, ho⟩
    · right
      simp only [hji, decide_false, cond_false, Array.any_eq_true', Bool.and_eq_true, beq_iff_eq] at h3
      obtain ⟨e, he, hb, ho⟩ := h3
      exact ⟨by omega, e, he, hb, ho⟩
  have hkd : ∀ (i : Nat) (ent : ι → En), ents[i]? = some ent → ∃ oi : Oper, l[i]? = some oi ∧ KeyOk x oi ent := by
    intro i e he
    have hil : i < l.length := by
      rcases Nat.lt_or_ge i ents.length with h' | h'
      · omega
      · rw [List.getElem?_eq_none h'] at he; cases he
    obtain ⟨ent, h1, h2, _⟩ := hes i l[i] (List.getElem?_eq_getElem hil)
    rw [he] at h1
    cases h1
    exact ⟨l[i], List.getElem?_eq_getElem hil, h2⟩
  let es : ι → List En := fun c => ents.map (· c)
  have hesl : ∀ c, (es c).length = ents.length := fun c => List.length_map ..
  have hesi : ∀ (c : ι) (i : Nat) (e : En), (es c)[i]? = some e → ∃ ent, ents[i]? = some ent ∧ ent c = e := by
    intro c i e he
    rw [List.getElem?_map] at he
    cases hx : ents[i]? with
    | none => rw [hx] at he; cases he
    | some ent => rw [hx] at he; cases he; exact ⟨ent, rfl, rfl⟩
  have hesm : ∀ (c : ι) (i : Nat) (ent : ι → En), ents[i]? = some ent → (es c)[i]? = some (ent c) := by
    intro c i ent he
    rw [List.getElem?_map, he]; rfl
  have hget : ∀ (c : ι) (i : Nat) (e : En), (es c)[i]? = some e → ∃ oi : Oper, l[i]? = some oi ∧ (oi.dst = some e.1 ∨ (oi.dst = none ∧ e.1 = x.n)) := by
    intro c i e he
    obtain ⟨ent, h1, rfl⟩ := hesi c i e he
    obtain ⟨oi, h2, h3⟩ := hkd i ent h1
    refine ⟨oi, h2, ?_⟩
    have h4 := h3 c
    cases hd : oi.dst with
    | none => rw [hd] at h4; exact .inr ⟨rfl, by rw [show ent c = (x.n, false, .lit undef) from h4]⟩
    | some d => rw [hd] at h4; exact .inl (by rw [h4.1])
  have hkey : ∀ (c : ι) (i j : Nat) (e e' : En), (es c)[i]? = some e → (es c)[j]? = some e' → e.1 = e'.1 → e = e' := by
    intro c i j e e' hi hj he
    by_cases hne : i = j
    · subst hne; rw [hi] at hj; cases hj; rfl
    · skip
      obtain ⟨enti, hi1, rfl⟩ := hesi c i e hi
      obtain ⟨entj, hj1, rfl⟩ := hesi c j e' hj
      obtain ⟨oi, h1, h2⟩ := hkd i enti hi1
      obtain ⟨oj, h3, h4⟩ := hkd j entj hj1
      have hn := ((hok' i oi h1).2 j oj h3 hne).1
      have h5 := h2 c
      have h6 := h4 c
      cases hd : oi.dst with
      | none =>
        cases hd' : oj.dst with
        | none =>
          rw [hd] at h5
          rw [hd'] at h6
          exact (show enti c = _ from h5).trans (show entj c = _ from h6).symm
        | some d' =>
          exfalso
          rw [hd] at h5
          rw [hd'] at h6
          replace h5 : (enti c).1 = x.n := by rw [show enti c = (x.n, false, .lit undef) from h5]
          have : d' < x.n := by simpa [Nat.blt_eq] using h6.2
          have e1 : d' = x.n := by rw [← h6.1, ← he, h5]
          rw [e1] at this; exact Nat.lt_irrefl _ this
      | some d =>
        exfalso
        cases hd' : oj.dst with
        | none =>
          rw [hd] at h5
          rw [hd'] at h6
          replace h6 : (entj c).1 = x.n := by rw [show entj c = (x.n, false, .lit undef) from h6]
          have : d < x.n := by simpa [Nat.blt_eq] using h5.2
          have e1 : d = x.n := by rw [← h5.1, he, h6]
          rw [e1] at this; exact Nat.lt_irrefl _ this
        | some d' =>
          rw [hd] at h5
          rw [hd'] at h6
          rcases hn with hn | hn
          · exact hn (by rw [hd, hd', ← h5.1, ← h6.1, he])
          · rw [hd'] at hn; cases hn
  have hdist : ∀ (c : ι) listed, ∀ e ∈ esOf (es c) listed, ∀ e' ∈ esOf (es c) listed, e.1 = e'.1 → e = e' := by
    intro c listed e he e' he' hk
    obtain ⟨i, _, hi⟩ := mem_esOf.1 he
    obtain ⟨j, _, hj⟩ := mem_esOf.1 he'
    exact hkey c i j e e' hi hj hk
  refine wp_region_any hm ?_
  have key : ∀ (fuel : Nat) (listed : Array Bool) (a : Act) (w : World), listed.size = l.length → (∀ (i : Nat) (o : Oper), l[i]? = some o → listed.getD i false = true → ∀ e ∈ o.after, Region.binds .any e = true → listed.getD e.on false = true) →
      (∃ c, St x (esOf (es c) listed ++ L) (Mf (fun j => listed.getD j false) c) a w) → (fuel = 0 → ∀ i, i < l.length → listed.getD i false = true) → (listed.toList.filter (!·)).length ≤ fuel → wpAny x.P .any l.toArray Q fuel listed a w := by
    intro fuel
    have hdone : ∀ (listed : Array Bool) (a : Act) (w : World), listed.size = l.length → (∃ c, St x (esOf (es c) listed ++ L) (Mf (fun j => listed.getD j false) c) a w) → Region.ready .any l.toArray listed = [] → Q .normal a w := by
      rintro listed a w hsz ⟨c, hs⟩ hr
      have hall : ∀ i, i < l.length → listed.getD i false = true := by
        intro i
        induction i using Nat.strongRecOn with
        | _ i ih =>
          intro hi
          cases hli : listed.getD i false with
          | true => rfl
          | false =>
            exfalso
            have : i ∈ Region.ready .any l.toArray listed := by
              simp only [Region.ready, List.mem_filter, List.mem_range, List.size_toArray, Bool.and_eq_true]
              refine ⟨hi, ?_, ?_⟩
              · have : listed.getD i true = false := by
                  rw [Array.getD_eq_getD_getElem?, Array.getElem?_eq_getElem (by omega)] at hli ⊢
                  simpa using hli
                simp [this]
              · rw [List.getElem?_toArray, List.getElem?_eq_getElem hi]
                simp only [Option.map_some, Option.getD_some, Array.all_eq_true', Bool.or_eq_true, Bool.not_eq_true']
                intro e he
                cases hb : Region.binds .any e with
                | false => exact .inl rfl
                | true =>
                  have hlt := (hok' i l[i] (List.getElem?_eq_getElem hi)).1.1 e he hb
                  exact .inr (ih e.on hlt (by omega))
            rw [hr] at this
            cases this
      refine hW c _ (fun j hj => hall j (by simpa using hj)) a w (hs.look ?_)
      intro t p hl
      rw [look_append] at hl ⊢
      by_cases hk : ∃ e ∈ es c, e.1 = t
      · obtain ⟨e, he, rfl⟩ := hk
        obtain ⟨i, hi, hie⟩ := List.getElem_of_mem he
        have hie' : (es c)[i]? = some e := by rw [List.getElem?_eq_getElem hi, hie]
        have h1 : look (es c).reverse e.1 = some e.2 := look_mem (List.mem_reverse.2 he) (by
          intro e1 he1 e2 he2 hk
          obtain ⟨i1, hi1, hie1⟩ := List.getElem_of_mem (List.mem_reverse.1 he1)
          obtain ⟨i2, hi2, hie2⟩ := List.getElem_of_mem (List.mem_reverse.1 he2)
          exact hkey c i1 i2 e1 e2 (by rw [List.getElem?_eq_getElem hi1, hie1]) (by rw [List.getElem?_eq_getElem hi2, hie2]) hk)
        have h2 : look (esOf (es c) listed) e.1 = some e.2 := look_mem (mem_esOf.2 ⟨i, hall i (by have := hesl c; omega), hie'⟩) (hdist c listed)
        rw [h1] at hl
        rw [h2]
        simpa using hl
      · have h1 : look (es c).reverse t = none := look_none (fun e he h => hk ⟨e, List.mem_reverse.1 he, h⟩)
        rw [h1, Option.none_or] at hl
        have h2 : look (esOf (es c) listed) t = none := look_none (fun e he h => by
          obtain ⟨i, _, hi⟩ := mem_esOf.1 he
          exact hk ⟨e, List.mem_of_getElem? hi, h⟩)
        rw [h2, Option.none_or]
        exact hl
    induction fuel with
    | zero =>
      intro listed a w hsz hcl hs h0 _
      have hall := h0 rfl
      have hr : Region.ready .any l.toArray listed = [] := by
        apply List.eq_nil_iff_forall_not_mem.2
        intro i hi
        simp only [Region.ready, List.mem_filter, List.mem_range, List.size_toArray, Bool.and_eq_true, Bool.not_eq_true'] at hi
        have h1 := hall i hi.1
        have h2 := hi.2.1
        rw [Array.getD_eq_getD_getElem?, Array.getElem?_eq_getElem (by omega)] at h1 h2
        simp at h1 h2
        rw [h1] at h2
        cases h2
      exact ⟨hr, hdone listed a w hsz hs hr⟩
    | succ fuel ih =>
      rintro listed a w hsz hcl ⟨c, hs⟩ _ hcount
      refine ⟨hdone listed a w hsz ⟨c, hs⟩, fun i hi => ?_⟩
      simp only [Region.ready, List.mem_filter, List.mem_range, List.size_toArray, Bool.and_eq_true, Bool.not_eq_true'] at hi
      obtain ⟨hil, hnl, hdeps⟩ := hi
      have hnl' : listed.getD i false = false := by
        rw [Array.getD_eq_getD_getElem?, Array.getElem?_eq_getElem (by omega)] at hnl ⊢
        simpa using hnl
      have hoi : l[i]? = some l[i] := List.getElem?_eq_getElem hil
      generalize l[i] = oi at hoi
      obtain ⟨ent, he, hko, hdep, hob⟩ := hes i oi hoi
      have hce := hesm c i ent he
      rw [List.getElem?_toArray, hoi] at hdeps
      simp only [Option.map_some, Option.getD_some, Array.all_eq_true', Bool.or_eq_true, Bool.not_eq_true'] at hdeps
      have hdeps' : ∀ e ∈ oi.after, Region.binds .any e = true → listed.getD e.on false = true := by
        intro e he hb
        rcases hdeps e he with h' | h'
        · rw [hb] at h'; cases h'
        · exact h'
      -- what the operation looks at is known
      have hsee : ∀ t p, look (sel (oi.looksAt l.toArray) (((ents.take i).map (· c)).reverse ++ L)) t = some p → look (esOf (es c) listed ++ L) t = some p := by
        intro t p hl
        rw [look_sel] at hl
        split at hl
        · rename_i ht
          rw [look_append] at hl ⊢
          by_cases hk : ∃ j e, j < i ∧ (es c)[j]? = some e ∧ e.1 = t
          · obtain ⟨j, e, hji, hje, rfl⟩ := hk
            obtain ⟨oj, hoj, hdj⟩ := hget c j e hje
            replace hdj : oj.dst = some e.1 := by
              rcases hdj with h | ⟨_, h⟩
              · exact h
              · rw [h] at ht; exact absurd ht (hok' i oi hoi).1.2
            have hl1 : listed.getD j false = true := by
              rcases ((hok' i oi hoi).2 j oj hoj (by omega)).2 e.1 hdj ht with ⟨_, ed, hed, hb, ho⟩ | ⟨h', _⟩
              · rw [← ho]; exact hdeps' ed hed hb
              · omega
            have h1 : look ((ents.take i).map (· c)).reverse e.1 = some e.2 := look_mem (List.mem_reverse.2 (by rw [List.map_take]; exact List.mem_of_getElem? (i := j) (by rw [List.getElem?_take, if_pos hji]; exact hje))) (by
              intro e1 he1 e2 he2 hk
              obtain ⟨i1, hi1, hie1⟩ := List.getElem_of_mem (l := es c) (by have := List.mem_reverse.1 he1; rw [List.map_take] at this; exact List.mem_of_mem_take this)
              obtain ⟨i2, hi2, hie2⟩ := List.getElem_of_mem (l := es c) (by have := List.mem_reverse.1 he2; rw [List.map_take] at this; exact List.mem_of_mem_take this)
              exact hkey c i1 i2 e1 e2 (by rw [List.getElem?_eq_getElem hi1, hie1]) (by rw [List.getElem?_eq_getElem hi2, hie2]) hk)
            have h2 : look (esOf (es c) listed) e.1 = some e.2 := look_mem (mem_esOf.2 ⟨j, hl1, hje⟩) (hdist c listed)
            rw [h1] at hl
            rw [h2]
            simpa using hl
          · have h1 : look ((ents.take i).map (· c)).reverse t = none := look_none (fun e he h => by
              have he' := List.mem_reverse.1 he
              rw [List.map_take] at he'
              obtain ⟨j, hj, hje⟩ := List.getElem_of_mem he'
              rw [List.length_take] at hj
              refine hk ⟨j, e, by omega, ?_, h⟩
              rw [← hje, List.getElem_take]
              exact List.getElem?_eq_getElem _)
            rw [h1, Option.none_or] at hl
            have h2 : look (esOf (es c) listed) t = none := look_none (fun e he h => by
              obtain ⟨j, hlj, hje⟩ := mem_esOf.1 he
              obtain ⟨oj, hoj, hdj⟩ := hget c j e hje
              replace hdj : oj.dst = some e.1 := by
                rcases hdj with h' | ⟨_, h'⟩
                · exact h'
                · rw [← h, h'] at ht; exact absurd ht (hok' i oi hoi).1.2
              have hji : ¬ j < i := fun h' => hk ⟨j, e, h', hje, h⟩
              by_cases hij : i = j
              · subst hij; rw [hnl'] at hlj; cases hlj
              · rcases ((hok' i oi hoi).2 j oj hoj hij).2 e.1 hdj (h ▸ ht) with ⟨h', _⟩ | ⟨_, ed, hed, hb, ho⟩
                · exact hji h'
                · have := hcl j oj hoj hlj ed hed hb
                  rw [ho, hnl'] at this
                  cases this)
            rw [h2, Option.none_or]
            exact hl
        · cases hl
      -- behind it
      have hnext : ∀ a' w', (∃ c', (i = i0 ∨ c' = c) ∧ St x (ent c' :: (esOf (es c) listed ++ L)) (Mf (addE (fun j => listed.getD j false) i) c') a' w') → wpAny x.P .any l.toArray Q fuel (listed.setIfInBounds i true) a' w' := by
        rintro a' w' ⟨c', hcc, hst⟩
        have hset : ∀ j, (listed.setIfInBounds i true).getD j false = if i = j then true else listed.getD j false := by
          intro j
          rw [Array.getD_eq_getD_getElem?, Array.getD_eq_getD_getElem?, Array.getElem?_setIfInBounds]
          by_cases e : i = j
          · subst e; simp [hsz, hil]
          · simp [e]
        have hcnt : ((listed.setIfInBounds i true).toList.filter (!·)).length < (listed.toList.filter (!·)).length := by
          rw [Array.toList_setIfInBounds]
          have hlt : i < listed.toList.length := by simp [hsz]; exact hil
          have hv : listed.toList[i] = false := by
            rw [Array.getD_eq_getD_getElem?, Array.getElem?_eq_getElem (by omega)] at hnl'
            simpa using hnl'
          exact count_set _ i hlt hv
        have hMe : Mf (addE (fun j => listed.getD j false) i) c' = Mf (fun j => (listed.setIfInBounds i true).getD j false) c' := by
          congr 1
          funext j
          rw [hset]
          unfold addE
          rfl
        rw [hMe] at hst
        have hsame : ∀ j, listed.getD j false = true → (es c)[j]? = (es c')[j]? := by
          intro j hlj
          rcases hcc with hcc | hcc
          · cases hx : ents[j]? with
            | none => show (ents.map (· c))[j]? = (ents.map (· c'))[j]?; rw [List.getElem?_map, List.getElem?_map, hx]; rfl
            | some entj =>
              obtain ⟨oj, hoj, _⟩ := hkd j entj hx
              obtain ⟨entj', hx', _, hd', _⟩ := hes j oj hoj
              rw [hx] at hx'; cases hx'
              rw [hesm c j entj hx, hesm c' j entj hx]
              rcases hd' with h' | h' | h'
              · exfalso; rw [h', ← hcc, hnl'] at hlj; cases hlj
              · exfalso
                have := ancN_closed (ops := l.toArray) (e := fun j => listed.getD j false) (fun j o ho hj ed hed hb => hcl j o (by simpa using ho) hj ed hed hb) _ i0 j hlj h'
                rw [← hcc, hnl'] at this; cases this
              · rw [h' c c']
          · rw [hcc]
        have hesE : esOf (es c) listed = esOf (es c') listed := by
          unfold esOf
          rw [hesl, hesl]
          refine fm_congr _ ?_
          intro j hj
          exact hsame j (by simpa using (List.mem_filter.1 hj).2)
        rw [hesE] at hst
        have he' := hesm c' i ent he
        refine ih _ a' w' (by simpa using hsz) ?_ ⟨c', hst.look ?_⟩ ?_ (by omega)
        · intro j o ho hlj e he hb
          rw [hset] at hlj ⊢
          split
          · rfl
          · split at hlj
            · rename_i hij; subst hij; rw [hoi] at ho; cases ho; exact hdeps' e he hb
            · exact hcl j o ho hlj e he hb
        · intro t p hl
          rw [look_append] at hl
          rw [show ent c' = ((ent c').1, (ent c').2) from rfl, look_cons]
          by_cases hdt : (ent c').1 = t
          · subst hdt
            rw [if_pos rfl]
            have h2 : look (esOf (es c') (listed.setIfInBounds i true)) (ent c').1 = some (ent c').2 := look_mem (mem_esOf.2 ⟨i, by rw [hset, if_pos rfl], he'⟩) (hdist c' _)
            rw [h2] at hl
            simpa using hl
          · rw [if_neg hdt, look_append]
            by_cases hk : ∃ e ∈ esOf (es c') listed, e.1 = t
            · obtain ⟨e, hee, rfl⟩ := hk
              obtain ⟨j, hlj, hje⟩ := mem_esOf.1 hee
              have h2 : look (esOf (es c') (listed.setIfInBounds i true)) e.1 = some e.2 := look_mem (mem_esOf.2 ⟨j, by rw [hset, hlj, ite_self], hje⟩) (hdist c' _)
              have h3 : look (esOf (es c') listed) e.1 = some e.2 := look_mem hee (hdist c' _)
              rw [h2] at hl
              rw [h3]
              exact hl
            · have h2 : look (esOf (es c') (listed.setIfInBounds i true)) t = none := look_none (fun e hee h => by
                obtain ⟨j, hlj, hje⟩ := mem_esOf.1 hee
                rw [hset] at hlj
                split at hlj
                · rename_i hij; subst hij; rw [he'] at hje; cases hje; exact hdt h
                · exact hk ⟨e, mem_esOf.2 ⟨j, hlj, hje⟩, h⟩)
              have h3 : look (esOf (es c') listed) t = none := look_none (fun e hee h => hk ⟨e, hee, h⟩)
              rw [h2, Option.none_or] at hl
              rw [h3, Option.none_or]
              exact hl
        · intro hf j hj
          rw [hset]
          split
          · rfl
          · rename_i hij
            subst hf
            cases hlj : listed.getD j false with
            | true => rfl
            | false =>
              exfalso
              have hz : ((listed.setIfInBounds i true).toList.filter (!·)).length = 0 := by omega
              have hz' := List.eq_nil_of_length_eq_zero hz
              have : false ∈ (listed.setIfInBounds i true).toList.filter (!·) := by
                rw [List.mem_filter]
                refine ⟨?_, rfl⟩
                have h5 := hset j
                rw [if_neg hij, hlj, Array.getD_eq_getD_getElem?, Array.getElem?_eq_getElem (by simp; omega)] at h5
                simp only [Option.getD_some] at h5
                rw [← h5]
                exact Array.mem_toList_iff.2 (Array.getElem_mem _)
              rw [hz'] at this
              cases this
      -- the operation itself
      have hst := hob (fun j => listed.getD j false) c ⟨fun j o ho hj ed hed hb => hcl j o (by simpa using ho) hj ed hed hb, hnl', fun o ho ed hed hb => by rw [List.getElem?_toArray, hoi] at ho; cases ho; exact hdeps' ed hed hb⟩ _ a w hsee hs Q
      unfold wpOp
      rw [List.getElem?_toArray, hoi]
      simp only
      split
      · rename_i hw
        rw [if_pos hw] at hst
        exact .inl (Oper.wp_mono hnext hst)
      · rename_i hw
        rw [if_neg hw] at hst
        exact hnext _ _ hst
  refine key _ _ _ _ (by simp) ?_ ?_ ?_ ?_
  · intro i o ho hl
    exfalso
    rw [Array.getD_eq_getD_getElem?] at hl
    rcases Nat.lt_or_ge i l.length with h' | h'
    · simp [h'] at hl
    · simp [h'] at hl
  · refine ⟨c0, ?_⟩
    have : esOf (es c0) (Array.replicate l.toArray.size false) = [] := by
      apply List.eq_nil_iff_forall_not_mem.2
      intro e he
      obtain ⟨i, hi, _⟩ := mem_esOf.1 he
      rw [Array.getD_eq_getD_getElem?] at hi
      rcases Nat.lt_or_ge i l.length with h' | h'
      · simp [h'] at hi
      · simp [h'] at hi
    have hfe : (fun j => (Array.replicate l.toArray.size false).getD j false) = fun _ => false := by
      funext j
      rw [Array.getD_eq_getD_getElem?]
      rcases Nat.lt_or_ge j l.length with h' | h'
      · simp [h']
      · simp [h']
    rw [this, List.nil_append, hfe]
    exact hs.same rfl rfl rfl rfl
  · intro h0 i hi
    simp at h0
    subst h0
    simp at hi
  · simp


/-! ### what such a region's operations are met by -/
section rules
variable {ops : Array Oper} {R : Act → World → Prop} {rest : List Oper} {done : ι → List En} {ty : TypeId} {pos : String} {aft : Array Edge} {Mf : (Nat → Bool) → ι → List ME} {i0 i : Nat}

theorem ObE.pure {o : Oper} {d : Tmp} {G : Bool} {av : ι → AV} (hd : o.dst = some d) (hdn : Nat.blt d x.n = true) (hG : ∀ c, Gd ops (sel (o.looksAt ops) (done c ++ L)) o G)
    (hsv : ∀ e c, OkE ops e i → G = true → Sv x (sel (o.looksAt ops) (done c ++ L)) (Mf e c) o (av c)) (hMf : ∀ e c, Mf (addE e i) c = Mf e c) : ObE x ops L Mf i0 i o done (fun c => (d, G, av c)) := by
  intro e c hk L' a w hsub hs Q
  have hs0 := hs.look hsub
  have hw : Region.wanted o (yielded ops a.tmps) = G := by
    rcases hG c with ⟨h1, h2⟩ | ⟨j, want, t, gb, b, h1, h2, h3, h4⟩
    · rw [Region.wanted, h1, h2]
    · obtain ⟨dst, op, ty', pos', aft', gu⟩ := o
      simp only at h1
      subst h1
      rw [guard_of (want := want) h2 h3 hs0, h4]
  rw [hw]
  cases hG' : G with
  | true =>
    rw [if_pos rfl]
    refine hsv e c hk hG' a w hs0 _ _ ?_
    intro v w' hK hmm hf hr
    rw [hd]
    refine ⟨c, .inr rfl, ?_⟩
    rw [hMf]
    exact (hs.world hK hmm hf).put hdn true (av c) v (fun _ => hr) (by simp)
  | false =>
    rw [if_neg (by simp), hd]
    refine ⟨c, .inr rfl, ?_⟩
    rw [hMf]
    exact hs.put hdn false (av c) undef (by simp) (fun _ => rfl)

theorem DE.nil (h : ∀ c e, (∀ j, j < i → e j = true) → W x (done c ++ L) (Mf e c) R) : DE x ops L Mf i0 R i [] done := h
theorem DE.pure {o : Oper} {d : Tmp} {G : Bool} {av : ι → AV} (hd : o.dst = some d) (hdn : Nat.blt d x.n = true) (hG : ∀ c, Gd ops (sel (o.looksAt ops) (done c ++ L)) o G)
    (hsv : ∀ e c, OkE ops e i → G = true → Sv x (sel (o.looksAt ops) (done c ++ L)) (Mf e c) o (av c)) (hMf : ∀ e c, Mf (addE e i) c = Mf e c) (hi : anc ops i0 i = true ∨ ∀ c c', av c = av c')
    (next : DE x ops L Mf i0 R (i + 1) rest (fun c => (d, G, av c) :: done c)) : DE x ops L Mf i0 R i (o :: rest) done := by
  refine ⟨fun c => (d, G, av c), ?_, .inr ?_, ObE.pure hd hdn hG hsv hMf, next⟩
  · intro c
    rw [hd]
    exact ⟨rfl, hdn⟩
  · rcases hi with h | h
    · exact .inl h
    · exact .inr fun c c' => congrArg (fun a => (d, G, a)) (h c c')
theorem DE.q {d : Tmp} {op : Op} {av : ι → AV} (he : ∀ e c, OkE ops e i → Ev x true (sel (Oper.looksAt ops ⟨some d, op, ty, pos, aft, none⟩) (done c ++ L)) (Mf e c) op ty (av c)) (hdn : Nat.blt d x.n = true)
    (hMf : ∀ e c, Mf (addE e i) c = Mf e c) (hi : anc ops i0 i = true ∨ ∀ c c', av c = av c') (next : DE x ops L Mf i0 R (i + 1) rest (fun c => (d, true, av c) :: done c)) :
    DE x ops L Mf i0 R i (⟨some d, op, ty, pos, aft, none⟩ :: rest) done := DE.pure rfl hdn (fun _ => .inl ⟨rfl, rfl⟩) (fun e c hk _ => Sv.ev (he e c hk)) hMf hi next
theorem DE.qg {d : Tmp} {op : Op} {av : ι → AV} {j : Nat} {t : Tmp} {gb b want : Bool} (hj : (ops[j]?).bind (·.dst) = some t) (hl : ∀ c, Vl.look (sel (Oper.looksAt ops ⟨some d, op, ty, pos, aft, some (j, want)⟩) (done c ++ L)) t = some (gb, .lit (.bool b)))
    (he : ∀ e c, OkE ops e i → Ev x (gb && (b == want)) (sel (Oper.looksAt ops ⟨some d, op, ty, pos, aft, some (j, want)⟩) (done c ++ L)) (Mf e c) op ty (av c)) (hdn : Nat.blt d x.n = true)
    (hMf : ∀ e c, Mf (addE e i) c = Mf e c) (hi : anc ops i0 i = true ∨ ∀ c c', av c = av c') (next : DE x ops L Mf i0 R (i + 1) rest (fun c => (d, gb && (b == want), av c) :: done c)) :
    DE x ops L Mf i0 R i (⟨some d, op, ty, pos, aft, some (j, want)⟩ :: rest) done := DE.pure rfl hdn (fun c => .inr ⟨j, want, t, gb, b, rfl, hj, hl c, rfl⟩) (fun e c hk hb => Sv.ev ((he e c hk).strip hb)) hMf hi next
theorem DE.callp {f : FuncId} {d : Tmp} {os : List Operand} {ats : Array TypeId} {avs : ι → List AV} {r : ι → AV} (hc : ∀ c, FnP x.P f (avs c) (r c)) (ha : ∀ c, ArgsOv (sel (Oper.looksAt ops ⟨some d, .call ⟨.value (.func f), os.toArray, ats⟩, ty, pos, aft, none⟩) (done c ++ L)) os (avs c)) (hdn : Nat.blt d x.n = true)
    (hMf : ∀ e c, Mf (addE e i) c = Mf e c) (hi : anc ops i0 i = true ∨ ∀ c c', r c = r c') (next : DE x ops L Mf i0 R (i + 1) rest (fun c => (d, true, r c) :: done c)) :
    DE x ops L Mf i0 R i (⟨some d, .call ⟨.value (.func f), os.toArray, ats⟩, ty, pos, aft, none⟩ :: rest) done := DE.pure rfl hdn (fun _ => .inl ⟨rfl, rfl⟩) (fun e c _ _ => Sv.callp (hc c) (ha c)) hMf hi next
theorem DE.callg {f : FuncId} {d : Tmp} {os : List Operand} {ats : Array TypeId} {avs : ι → List AV} {r : ι → AV} {j : Nat} {t : Tmp} {gb b want : Bool} (hj : (ops[j]?).bind (·.dst) = some t)
    (hl : ∀ c, Vl.look (sel (Oper.looksAt ops ⟨some d, .call ⟨.value (.func f), os.toArray, ats⟩, ty, pos, aft, some (j, want)⟩) (done c ++ L)) t = some (gb, .lit (.bool b)))
    (hc : ∀ c, (gb && (b == want)) = true → FnP x.P f (avs c) (r c)) (ha : ∀ c, (gb && (b == want)) = true → ArgsOv (sel (Oper.looksAt ops ⟨some d, .call ⟨.value (.func f), os.toArray, ats⟩, ty, pos, aft, some (j, want)⟩) (done c ++ L)) os (avs c)) (hdn : Nat.blt d x.n = true)
    (hMf : ∀ e c, Mf (addE e i) c = Mf e c) (hi : anc ops i0 i = true ∨ ∀ c c', r c = r c') (next : DE x ops L Mf i0 R (i + 1) rest (fun c => (d, gb && (b == want), r c) :: done c)) :
    DE x ops L Mf i0 R i (⟨some d, .call ⟨.value (.func f), os.toArray, ats⟩, ty, pos, aft, some (j, want)⟩ :: rest) done :=
  DE.pure rfl hdn (fun c => .inr ⟨j, want, t, gb, b, rfl, hj, hl c, rfl⟩) (fun e c _ hb => Sv.callp (hc c hb) (ha c hb)) hMf hi next
theorem DE.bs {d : Tmp} {T E k bytes n : Nat} {z : Value} {ps : List (Nat × Operand)} {es : ι → List AV} (hT : x.P.underlying T = some (.slice E)) (hE : Ty x.P E k bytes z)
    (hp : ∀ c, PartsOv (sel (Oper.looksAt ops ⟨some d, .buildSlice T n ps.toArray, ty, pos, aft, none⟩) (done c ++ L)) k 0 ps (es c)) (hn : ∀ c, n = (es c).length) (hb : n * k ≤ 16777216) (hk1 : Nat.ble 1 k = true) (hdn : Nat.blt d x.n = true)
    (hMf : ∀ e c, Mf (addE e i) c = Mf e c) (hi : anc ops i0 i = true ∨ ∀ c c', es c = es c') (next : DE x ops L Mf i0 R (i + 1) rest (fun c => (d, true, .sl k (es c)) :: done c)) : DE x ops L Mf i0 R i (⟨some d, .buildSlice T n ps.toArray, ty, pos, aft, none⟩ :: rest) done :=
  DE.pure rfl hdn (fun _ => .inl ⟨rfl, rfl⟩) (fun e c _ _ => Sv.bs hT hE (hp c) (hn c) hb hk1) hMf (hi.imp id fun h c c' => by rw [h c c']) next
theorem DE.bsg {d : Tmp} {T E k bytes n : Nat} {z : Value} {ps : List (Nat × Operand)} {es : ι → List AV} {j : Nat} {t : Tmp} {gb b want : Bool} (hj : (ops[j]?).bind (·.dst) = some t)
    (hl : ∀ c, Vl.look (sel (Oper.looksAt ops ⟨some d, .buildSlice T n ps.toArray, ty, pos, aft, some (j, want)⟩) (done c ++ L)) t = some (gb, .lit (.bool b))) (hT : x.P.underlying T = some (.slice E)) (hE : Ty x.P E k bytes z)
    (hp : ∀ c, (gb && (b == want)) = true → PartsOv (sel (Oper.looksAt ops ⟨some d, .buildSlice T n ps.toArray, ty, pos, aft, some (j, want)⟩) (done c ++ L)) k 0 ps (es c)) (hn : ∀ c, n = (es c).length) (hb : n * k ≤ 16777216) (hk1 : Nat.ble 1 k = true) (hdn : Nat.blt d x.n = true)
    (hMf : ∀ e c, Mf (addE e i) c = Mf e c) (hi : anc ops i0 i = true ∨ ∀ c c', es c = es c') (next : DE x ops L Mf i0 R (i + 1) rest (fun c => (d, gb && (b == want), .sl k (es c)) :: done c)) : DE x ops L Mf i0 R i (⟨some d, .buildSlice T n ps.toArray, ty, pos, aft, some (j, want)⟩ :: rest) done :=
  DE.pure rfl hdn (fun c => .inr ⟨j, want, t, gb, b, rfl, hj, hl c, rfl⟩) (fun e c _ hb' => Sv.bs hT hE (hp c hb') (hn c) hb hk1) hMf (hi.imp id fun h c c' => by rw [h c c']) next

/-- from a rule of regions that draw nothing to one step here -/
theorem stepE_of {o : Oper} {a : Act} {w : World} {K : Act → World → Prop} (hg : o.guard = none) (h : wpList x.P ops (fun e a w => e = .normal ∧ K a w) [o] a w) : stepE x ops o a w K := by
  intro Q
  have hw : Region.wanted o (yielded ops a.tmps) = true := by rw [Region.wanted, hg]
  rw [if_pos hw]
  unfold wpList at h
  rw [if_pos hw] at h
  rcases h with h | ⟨_, a', w', h, _⟩
  · unfold Oper.wp at h ⊢
    generalize (execOp a.eval o).run x.P w = r at h
    unfold Oper.upon at h ⊢
    split at h
    · exact h.2
    · exact h.2
    · exact h.2
    · refine Calls.mono h ?_
      rintro e w'' he
      cases e with
      | returned v => exact he.2
      | panicked ch => cases he.1
      | outgrown => obtain ⟨a', w3, h3, _⟩ := he; cases h3
    · exact Rows.mono h (fun v w'' he => he.2)
    · cases h.1
    · exact h.elim
  · cases h
theorem DE.eff0 {op : Op} (hW : ∀ e c, OkE ops e i → ∀ L', (∀ t p, Vl.look (sel (Oper.looksAt ops ⟨none, op, ty, pos, aft, none⟩) (done c ++ L)) t = some p → Vl.look L' t = some p) → ∀ Q : Exit → Act → World → Prop,
      W x L' (Mf (addE e i) c) (wpList x.P ops Q []) → W x L' (Mf e c) (wpList x.P ops Q [⟨none, op, ty, pos, aft, none⟩]))
    (next : DE x ops L Mf i0 R (i + 1) rest (fun c => (x.n, false, .lit undef) :: done c)) : DE x ops L Mf i0 R i (⟨none, op, ty, pos, aft, none⟩ :: rest) done := by
  refine ⟨fun c => (x.n, false, .lit undef), fun c => rfl, .inr (.inr fun _ _ => rfl), ?_, next⟩
  intro e c hk L' a w hsub hs
  refine stepE_of rfl ?_
  refine hW e c hk L' hsub _ ?_ a w hs
  exact fun a' w' hs' => ⟨rfl, c, .inr rfl, hs'.ghost⟩
theorem DE.eff1 {op : Op} {d : Tmp} {av : ι → AV} (hdn : Nat.blt d x.n = true) (hi : i = i0)
    (hW : ∀ e c, OkE ops e i → ∀ L', (∀ t p, Vl.look (sel (Oper.looksAt ops ⟨some d, op, ty, pos, aft, none⟩) (done c ++ L)) t = some p → Vl.look L' t = some p) → ∀ Q : Exit → Act → World → Prop,
      (∀ c', W x ((d, true, av c') :: L') (Mf (addE e i) c') (wpList x.P ops Q [])) → W x L' (Mf e c) (wpList x.P ops Q [⟨some d, op, ty, pos, aft, none⟩]))
    (next : DE x ops L Mf i0 R (i + 1) rest (fun c => (d, true, av c) :: done c)) : DE x ops L Mf i0 R i (⟨some d, op, ty, pos, aft, none⟩ :: rest) done := by
  refine ⟨fun c => (d, true, av c), fun c => ⟨rfl, hdn⟩, .inl hi, ?_, next⟩
  intro e c hk L' a w hsub hs
  refine stepE_of rfl ?_
  refine hW e c hk L' hsub _ ?_ a w hs
  exact fun c' a' w' hs' => ⟨rfl, c', .inl hi, hs'⟩
end rules
end draw
end Go.Vl
end

section
set_option linter.unusedVariables false
set_option linter.unusedSimpArgs false
set_option linter.unusedSectionVars false
namespace Go.Vl
open Go Go.Sem
abbrev Ks := Nat → Nat × Value
def upd (c : Ks) (i : Nat) (z : Nat × Value) : Ks := fun k => if k = i then z else c k
theorem St.perm {x : Cx} {L : List En} {M M' : List ME} {a : Act} {w : World} (hs : St x L M a w) (hp : List.Perm M M') : St x L M' a w := by
  obtain ⟨hm, hk, hsub⟩ := hs.mem.sub (M' := M') (D := []) (by rw [List.append_nil]; exact hp)
  exact ⟨hs.defers, hs.size, fun t g av hl => ⟨fun hg => ((hs.slots t g av hl).1 hg).keep hk, (hs.slots t g av hl).2⟩, hm, hs.fr.sub hsub, hs.old⟩
theorem W.perm {x : Cx} {L : List En} {M M' : List ME} {R : Act → World → Prop} (hp : List.Perm M M') (h : W x L M' R) : W x L M R := fun a w hs => h a w (hs.perm hp)
section draw
variable {x : Cx} {L : List En} {M : List ME} {Q : Exit → Act → World → Prop}

def ObM (x : Cx) (ops : Array Oper) (L : List En) (Mf : (Nat → Bool) → Ks → List ME) (i : Nat) (o : Oper) (done : Ks → List En) (ent : Ks → En) : Prop :=
  ∀ e c, OkE ops e i → ∀ L' a w, (∀ t p, look (sel (o.looksAt ops) (done c ++ L)) t = some p → look L' t = some p) → St x L' (Mf e c) a w →
    stepE x ops o a w (fun a' w' => ∃ c' : Ks, (∀ k, k ≠ i → c' k = c k) ∧ St x (ent c' :: L') (Mf (addE e i) c') a' w')

/-- the region's operations in the text's order -/
def DM (x : Cx) (ops : Array Oper) (L : List En) (Mf : (Nat → Bool) → Ks → List ME) (R : Act → World → Prop) : Nat → List Oper → (Ks → List En) → Prop
  | i, [], done => ∀ c e, (∀ j, j < i → e j = true) → W x (done c ++ L) (Mf e c) R
  | i, o :: rest, done => ∃ ent : Ks → En, KeyOk x o ent ∧ (∀ c c' : Ks, (∀ k, (k = i ∨ anc ops k i = true) → c k = c' k) → ent c = ent c') ∧ ObM x ops L Mf i o done ent ∧ DM x ops L Mf R (i + 1) rest (fun c => ent c :: done c)

theorem DM.extract {ops : Array Oper} {R : Act → World → Prop} {Mf : (Nat → Bool) → Ks → List ME} : ∀ {rest : List Oper} {k : Nat} {done : Ks → List En}, DM x ops L Mf R k rest done →
    ∃ ents : List (Ks → En), ents.length = rest.length ∧ (∀ (i : Nat) (o : Oper), rest[i]? = some o → ∃ ent, ents[i]? = some ent ∧ KeyOk x o ent ∧ (∀ c c' : Ks, (∀ m, (m = k + i ∨ anc ops m (k + i) = true) → c m = c' m) → ent c = ent c') ∧
      ObM x ops L Mf (k + i) o (fun c => ((ents.take i).map (· c)).reverse ++ done c) ent) ∧ (∀ c e, (∀ j, j < k + rest.length → e j = true) → W x ((ents.map (· c)).reverse ++ (done c ++ L)) (Mf e c) R)
  | [], k, done, h => by
    have h' : ∀ c e, (∀ j, j < k → e j = true) → W x (done c ++ L) (Mf e c) R := h
    exact ⟨[], rfl, by simp, fun c e he => by simpa using h' c e (by simpa using he)⟩
  | o :: rest, k, done, h => by
    obtain ⟨ent, h1, h2, h3, h4⟩ := h
    obtain ⟨ents, e1, e2, e3⟩ := DM.extract h4
    refine ⟨ent :: ents, by simp [e1], ?_, ?_⟩
    · intro i o' ho'
      cases i with
      | zero => simp at ho'; subst ho'; exact ⟨ent, rfl, h1, h2, by simpa using h3⟩
      | succ i =>
        obtain ⟨ent', f1, f2, f3, f4⟩ := e2 i o' (by simpa using ho')
        have e : k + 1 + i = k + (i + 1) := by omega
        rw [e] at f3 f4
        exact ⟨ent', by simpa using f1, f2, f3, by simpa using f4⟩
    · intro c e he
      have := e3 c e (fun j hj => he j (by simp; omega))
      simpa using this

/-! ### what such a region's operations are met by -/
section rules
variable {ops : Array Oper} {R : Act → World → Prop} {rest : List Oper} {done : Ks → List En} {ty : TypeId} {pos : String} {aft : Array Edge} {Mf : (Nat → Bool) → Ks → List ME} {i : Nat}

theorem ObM.pure {o : Oper} {d : Tmp} {G : Bool} {av : Ks → AV} (hd : o.dst = some d) (hdn : Nat.blt d x.n = true) (hG : ∀ c, Gd ops (sel (o.looksAt ops) (done c ++ L)) o G)
    (hsv : ∀ e c, OkE ops e i → G = true → Sv x (sel (o.looksAt ops) (done c ++ L)) (Mf e c) o (av c)) (hMf : ∀ e c, Mf (addE e i) c = Mf e c) : ObM x ops L Mf i o done (fun c => (d, G, av c)) := by
  intro e c hk L' a w hsub hs Q
  have hs0 := hs.look hsub
  have hw : Region.wanted o (yielded ops a.tmps) = G := by
    rcases hG c with ⟨h1, h2⟩ | ⟨j, want, t, gb, b, h1, h2, h3, h4⟩
    · rw [Region.wanted, h1, h2]
    · obtain ⟨dst, op, ty', pos', aft', gu⟩ := o
      simp only at h1
      subst h1
      rw [guard_of (want := want) h2 h3 hs0, h4]
  rw [hw]
  cases hG' : G with
  | true =>
    rw [if_pos rfl]
    refine hsv e c hk hG' a w hs0 _ _ ?_
    intro v w' hK hmm hf hr
    rw [hd]
    refine ⟨c, fun _ _ => rfl, ?_⟩
    rw [hMf]
    exact (hs.world hK hmm hf).put hdn true (av c) v (fun _ => hr) (by simp)
  | false =>
    rw [if_neg (by simp), hd]
    refine ⟨c, fun _ _ => rfl, ?_⟩
    rw [hMf]
    exact hs.put hdn false (av c) undef (by simp) (fun _ => rfl)

theorem DM.nil (h : ∀ c e, (∀ j, j < i → e j = true) → W x (done c ++ L) (Mf e c) R) : DM x ops L Mf R i [] done := h
theorem DM.pure {o : Oper} {d : Tmp} {G : Bool} {av : Ks → AV} (hd : o.dst = some d) (hdn : Nat.blt d x.n = true) (hG : ∀ c, Gd ops (sel (o.looksAt ops) (done c ++ L)) o G)
    (hsv : ∀ e c, OkE ops e i → G = true → Sv x (sel (o.looksAt ops) (done c ++ L)) (Mf e c) o (av c)) (hMf : ∀ e c, Mf (addE e i) c = Mf e c) (hi : ∀ c c' : Ks, (∀ k, (k = i ∨ anc ops k i = true) → c k = c' k) → av c = av c')
    (next : DM x ops L Mf R (i + 1) rest (fun c => (d, G, av c) :: done c)) : DM x ops L Mf R i (o :: rest) done := by
  refine ⟨fun c => (d, G, av c), ?_, fun c c' h => congrArg (fun a => (d, G, a)) (hi c c' h), ObM.pure hd hdn hG hsv hMf, next⟩
  intro c
  rw [hd]
  exact ⟨rfl, hdn⟩
theorem DM.q {d : Tmp} {op : Op} {av : Ks → AV} (he : ∀ e c, OkE ops e i → Ev x true (sel (Oper.looksAt ops ⟨some d, op, ty, pos, aft, none⟩) (done c ++ L)) (Mf e c) op ty (av c)) (hdn : Nat.blt d x.n = true)
    (hMf : ∀ e c, Mf (addE e i) c = Mf e c) (hi : ∀ c c' : Ks, (∀ k, (k = i ∨ anc ops k i = true) → c k = c' k) → av c = av c') (next : DM x ops L Mf R (i + 1) rest (fun c => (d, true, av c) :: done c)) :
    DM x ops L Mf R i (⟨some d, op, ty, pos, aft, none⟩ :: rest) done := DM.pure rfl hdn (fun _ => .inl ⟨rfl, rfl⟩) (fun e c hk _ => Sv.ev (he e c hk)) hMf hi next
theorem DM.qg {d : Tmp} {op : Op} {av : Ks → AV} {j : Nat} {t : Tmp} {gb b want : Bool} (hj : (ops[j]?).bind (·.dst) = some t) (hl : ∀ c, Vl.look (sel (Oper.looksAt ops ⟨some d, op, ty, pos, aft, some (j, want)⟩) (done c ++ L)) t = some (gb, .lit (.bool b)))
    (he : ∀ e c, OkE ops e i → Ev x (gb && (b == want)) (sel (Oper.looksAt ops ⟨some d, op, ty, pos, aft, some (j, want)⟩) (done c ++ L)) (Mf e c) op ty (av c)) (hdn : Nat.blt d x.n = true)
    (hMf : ∀ e c, Mf (addE e i) c = Mf e c) (hi : ∀ c c' : Ks, (∀ k, (k = i ∨ anc ops k i = true) → c k = c' k) → av c = av c') (next : DM x ops L Mf R (i + 1) rest (fun c => (d, gb && (b == want), av c) :: done c)) :
    DM x ops L Mf R i (⟨some d, op, ty, pos, aft, some (j, want)⟩ :: rest) done := DM.pure rfl hdn (fun c => .inr ⟨j, want, t, gb, b, rfl, hj, hl c, rfl⟩) (fun e c hk hb => Sv.ev ((he e c hk).strip hb)) hMf hi next
theorem DM.callp {f : FuncId} {d : Tmp} {os : List Operand} {ats : Array TypeId} {avs : Ks → List AV} {r : Ks → AV} (hc : ∀ c, FnP x.P f (avs c) (r c)) (ha : ∀ c, ArgsOv (sel (Oper.looksAt ops ⟨some d, .call ⟨.value (.func f), os.toArray, ats⟩, ty, pos, aft, none⟩) (done c ++ L)) os (avs c)) (hdn : Nat.blt d x.n = true)
    (hMf : ∀ e c, Mf (addE e i) c = Mf e c) (hi : ∀ c c' : Ks, (∀ k, (k = i ∨ anc ops k i = true) → c k = c' k) → r c = r c') (next : DM x ops L Mf R (i + 1) rest (fun c => (d, true, r c) :: done c)) :
    DM x ops L Mf R i (⟨some d, .call ⟨.value (.func f), os.toArray, ats⟩, ty, pos, aft, none⟩ :: rest) done := DM.pure rfl hdn (fun _ => .inl ⟨rfl, rfl⟩) (fun e c _ _ => Sv.callp (hc c) (ha c)) hMf hi next
theorem DM.callg {f : FuncId} {d : Tmp} {os : List Operand} {ats : Array TypeId} {avs : Ks → List AV} {r : Ks → AV} {j : Nat} {t : Tmp} {gb b want : Bool} (hj : (ops[j]?).bind (·.dst) = some t)
    (hl : ∀ c, Vl.look (sel (Oper.looksAt ops ⟨some d, .call ⟨.value (.func f), os.toArray, ats⟩, ty, pos, aft, some (j, want)⟩) (done c ++ L)) t = some (gb, .lit (.bool b)))
    (hc : ∀ c, (gb && (b == want)) = true → FnP x.P f (avs c) (r c)) (ha : ∀ c, (gb && (b == want)) = true → ArgsOv (sel (Oper.looksAt ops ⟨some d, .call ⟨.value (.func f), os.toArray, ats⟩, ty, pos, aft, some (j, want)⟩) (done c ++ L)) os (avs c)) (hdn : Nat.blt d x.n = true)
    (hMf : ∀ e c, Mf (addE e i) c = Mf e c) (hi : ∀ c c' : Ks, (∀ k, (k = i ∨ anc ops k i = true) → c k = c' k) → r c = r c') (next : DM x ops L Mf R (i + 1) rest (fun c => (d, gb && (b == want), r c) :: done c)) :
    DM x ops L Mf R i (⟨some d, .call ⟨.value (.func f), os.toArray, ats⟩, ty, pos, aft, some (j, want)⟩ :: rest) done :=
  DM.pure rfl hdn (fun c => .inr ⟨j, want, t, gb, b, rfl, hj, hl c, rfl⟩) (fun e c _ hb => Sv.callp (hc c hb) (ha c hb)) hMf hi next
theorem DM.bs {d : Tmp} {T E k bytes n : Nat} {z : Value} {ps : List (Nat × Operand)} {es : Ks → List AV} (hT : x.P.underlying T = some (.slice E)) (hE : Ty x.P E k bytes z)
    (hp : ∀ c, PartsOv (sel (Oper.looksAt ops ⟨some d, .buildSlice T n ps.toArray, ty, pos, aft, none⟩) (done c ++ L)) k 0 ps (es c)) (hn : ∀ c, n = (es c).length) (hb : n * k ≤ 16777216) (hk1 : Nat.ble 1 k = true) (hdn : Nat.blt d x.n = true)
    (hMf : ∀ e c, Mf (addE e i) c = Mf e c) (hi : ∀ c c' : Ks, (∀ k, (k = i ∨ anc ops k i = true) → c k = c' k) → es c = es c') (next : DM x ops L Mf R (i + 1) rest (fun c => (d, true, .sl k (es c)) :: done c)) : DM x ops L Mf R i (⟨some d, .buildSlice T n ps.toArray, ty, pos, aft, none⟩ :: rest) done :=
  DM.pure rfl hdn (fun _ => .inl ⟨rfl, rfl⟩) (fun e c _ _ => Sv.bs hT hE (hp c) (hn c) hb hk1) hMf (fun c c' h => by rw [hi c c' h]) next
theorem DM.bsg {d : Tmp} {T E k bytes n : Nat} {z : Value} {ps : List (Nat × Operand)} {es : Ks → List AV} {j : Nat} {t : Tmp} {gb b want : Bool} (hj : (ops[j]?).bind (·.dst) = some t)
    (hl : ∀ c, Vl.look (sel (Oper.looksAt ops ⟨some d, .buildSlice T n ps.toArray, ty, pos, aft, some (j, want)⟩) (done c ++ L)) t = some (gb, .lit (.bool b))) (hT : x.P.underlying T = some (.slice E)) (hE : Ty x.P E k bytes z)
    (hp : ∀ c, (gb && (b == want)) = true → PartsOv (sel (Oper.looksAt ops ⟨some d, .buildSlice T n ps.toArray, ty, pos, aft, some (j, want)⟩) (done c ++ L)) k 0 ps (es c)) (hn : ∀ c, n = (es c).length) (hb : n * k ≤ 16777216) (hk1 : Nat.ble 1 k = true) (hdn : Nat.blt d x.n = true)
    (hMf : ∀ e c, Mf (addE e i) c = Mf e c) (hi : ∀ c c' : Ks, (∀ k, (k = i ∨ anc ops k i = true) → c k = c' k) → es c = es c') (next : DM x ops L Mf R (i + 1) rest (fun c => (d, gb && (b == want), .sl k (es c)) :: done c)) : DM x ops L Mf R i (⟨some d, .buildSlice T n ps.toArray, ty, pos, aft, some (j, want)⟩ :: rest) done :=
  DM.pure rfl hdn (fun c => .inr ⟨j, want, t, gb, b, rfl, hj, hl c, rfl⟩) (fun e c _ hb' => Sv.bs hT hE (hp c hb') (hn c) hb hk1) hMf (fun c c' h => by rw [hi c c' h]) next

theorem DM.eff0 {op : Op} (hW : ∀ e c, OkE ops e i → ∀ L', (∀ t p, Vl.look (sel (Oper.looksAt ops ⟨none, op, ty, pos, aft, none⟩) (done c ++ L)) t = some p → Vl.look L' t = some p) → ∀ Q : Exit → Act → World → Prop,
      W x L' (Mf (addE e i) c) (wpList x.P ops Q []) → W x L' (Mf e c) (wpList x.P ops Q [⟨none, op, ty, pos, aft, none⟩]))
    (next : DM x ops L Mf R (i + 1) rest (fun c => (x.n, false, .lit undef) :: done c)) : DM x ops L Mf R i (⟨none, op, ty, pos, aft, none⟩ :: rest) done := by
  refine ⟨fun c => (x.n, false, .lit undef), fun c => rfl, fun _ _ _ => rfl, ?_, next⟩
  intro e c hk L' a w hsub hs
  refine stepE_of rfl ?_
  refine hW e c hk L' hsub _ ?_ a w hs
  exact fun a' w' hs' => ⟨rfl, c, fun _ _ => rfl, hs'.ghost⟩
theorem DM.eff1 {op : Op} {d : Tmp} {av : Ks → AV} (hdn : Nat.blt d x.n = true) (hi : ∀ c c' : Ks, (∀ k, (k = i ∨ anc ops k i = true) → c k = c' k) → av c = av c')
    (hW : ∀ e c, OkE ops e i → ∀ L', (∀ t p, Vl.look (sel (Oper.looksAt ops ⟨some d, op, ty, pos, aft, none⟩) (done c ++ L)) t = some p → Vl.look L' t = some p) → ∀ Q : Exit → Act → World → Prop,
      (∀ z M', List.Perm M' (Mf (addE e i) (upd c i z)) → W x ((d, true, av (upd c i z)) :: L') M' (wpList x.P ops Q [])) → W x L' (Mf e c) (wpList x.P ops Q [⟨some d, op, ty, pos, aft, none⟩]))
    (next : DM x ops L Mf R (i + 1) rest (fun c => (d, true, av c) :: done c)) : DM x ops L Mf R i (⟨some d, op, ty, pos, aft, none⟩ :: rest) done := by
  refine ⟨fun c => (d, true, av c), fun c => ⟨rfl, hdn⟩, fun c c' h => congrArg (fun a => (d, true, a)) (hi c c' h), ?_, next⟩
  intro e c hk L' a w hsub hs
  refine stepE_of rfl ?_
  refine hW e c hk L' hsub _ ?_ a w hs
  intro z M' hp a' w' hs'
  exact ⟨rfl, upd c i z, fun k hk => if_neg hk, (hs'.perm hp)⟩
end rules
end draw
end Go.Vl
end
