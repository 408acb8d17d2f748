/-
  A small program logic over the model's own rules for code. A value is described by what it stands for (AV): an immutable slice by its elements; mutable blocks (local variables with an address, arrays that a call appends to, iterators) are listed apart (ME). Nothing here speaks of one program.
-/
import Derived.WalkKit
set_option linter.unusedVariables false
set_option linter.unusedSimpArgs false
set_option linter.unusedSectionVars false
namespace Go.Vl

/-- What a value stands for. -/
inductive AV where
  | lit (v : Value)
  | agg (cs : List AV)
  | tup (vs : List AV)
  | sl (k : Nat) (es : List AV)
  | eptr (cs : List AV)
  | aptr (v : Value) (j : Nat)

/-- 0: one cell; 1: a struct or an array; 2: several results. -/
def shV : Value → Nat
  | .agg _ => 1
  | .tuple _ => 2
  | _ => 0

def AV.sh : AV → Nat
  | .lit u => shV u
  | .agg _ => 1
  | .tup _ => 2
  | _ => 0

def AV.cells : AV → List AV
  | .agg cs => cs
  | .lit (.agg us) => us.toList.map .lit
  | x => [x]

mutual
/-- 'row' are the cells of a value that stands for the first argument, in world w, by blocks that are none of N. -/
def RepC (w : World) (N : List Nat) : AV → List Value → Prop
  | .lit u, row => row = u.cells.toList
  | .agg cs, row => RepL w N cs row
  | .tup vs, row => ∃ us, row = [.tuple us] ∧ RepT w N vs us.toList
  | .sl k es, row => ∃ a cap, row = [.slice a es.length cap] ∧ es.length ≤ cap ∧ cap ≤ maxLen ∧
      (es = [] ∨ ∃ b off cur T fr, a = some ⟨b, off, none⟩ ∧ b ∉ N ∧ w.heap[b]? = some (.cells cur T fr) ∧ RepE w N k es (cur.toList.drop off))
  | .eptr cs, row => ∃ b off cur T fr, row = [.pointer (some ⟨b, off, none⟩)] ∧ b ∉ N ∧ w.heap[b]? = some (.cells cur T fr) ∧
      RepL w N cs ((cur.toList.drop off).take cs.length)
  | .aptr v j, row => ∃ g off n cap, v = .slice (some ⟨g, off, none⟩) n cap ∧ row = [.pointer (some ⟨g, off + j, none⟩)]
/-- One cell each. -/
def RepL (w : World) (N : List Nat) : List AV → List Value → Prop
  | [], row => row = []
  | c :: cs, row => ∃ v vs, row = v :: vs ∧ (c.sh = 0 ∧ shV v = 0 ∧ RepC w N c [v]) ∧ RepL w N cs vs
/-- One value each. -/
def RepT (w : World) (N : List Nat) : List AV → List Value → Prop
  | [], row => row = []
  | c :: cs, row => ∃ v vs, row = v :: vs ∧ (c.sh = shV v ∧ RepC w N c v.cells.toList) ∧ RepT w N cs vs
/-- k cells each, from the row's head on. -/
def RepE (w : World) (N : List Nat) (k : Nat) : List AV → List Value → Prop
  | [], _ => True
  | e :: es, row => k ≤ row.length ∧ RepC w N e (row.take k) ∧ RepE w N k es (row.drop k)
end

def Rep (w : World) (N : List Nat) (av : AV) (v : Value) : Prop := av.sh = shV v ∧ RepC w N av v.cells.toList

section keep
variable {w w' : World} {N N' : List Nat}
/-- What is not among the mutable blocks stays. -/
def Keep (w : World) (N : List Nat) (w' : World) (N' : List Nat) : Prop :=
  ∀ b c T fr, b ∉ N → w.heap[b]? = some (.cells c T fr) → b ∉ N' ∧ w'.heap[b]? = some (.cells c T fr)

mutual
theorem RepC.keep (h : Keep w N w' N') : ∀ (av : AV) (row : List Value), RepC w N av row → RepC w' N' av row
  | .lit u, row, hr => by simpa only [RepC] using hr
  | .agg cs, row, hr => by simp only [RepC] at hr ⊢; exact RepL.keep h cs row hr
  | .tup vs, row, hr => by
    simp only [RepC] at hr ⊢
    obtain ⟨us, e, ht⟩ := hr
    exact ⟨us, e, RepT.keep h vs _ ht⟩
  | .sl k es, row, hr => by
    simp only [RepC] at hr ⊢
    obtain ⟨a, cap, e, h1, h2, h3⟩ := hr
    refine ⟨a, cap, e, h1, h2, ?_⟩
    rcases h3 with h3 | ⟨b, off, cur, T, fr, ha, hb, hc, he⟩
    · exact .inl h3
    · obtain ⟨hb', hc'⟩ := h _ _ _ _ hb hc
      exact .inr ⟨b, off, cur, T, fr, ha, hb', hc', RepE.keep h k es _ he⟩
  | .eptr cs, row, hr => by
    simp only [RepC] at hr ⊢
    obtain ⟨b, off, cur, T, fr, e, hb, hc, hl⟩ := hr
    obtain ⟨hb', hc'⟩ := h _ _ _ _ hb hc
    exact ⟨b, off, cur, T, fr, e, hb', hc', RepL.keep h cs _ hl⟩
  | .aptr v j, row, hr => by simpa only [RepC] using hr
theorem RepL.keep (h : Keep w N w' N') : ∀ (cs : List AV) (row : List Value), RepL w N cs row → RepL w' N' cs row
  | [], row, hr => by simpa only [RepL] using hr
  | c :: cs, row, hr => by
    simp only [RepL] at hr ⊢
    obtain ⟨v, vs, e, ⟨h1, h2, h3⟩, h4⟩ := hr
    exact ⟨v, vs, e, ⟨h1, h2, RepC.keep h c _ h3⟩, RepL.keep h cs vs h4⟩
theorem RepT.keep (h : Keep w N w' N') : ∀ (cs : List AV) (row : List Value), RepT w N cs row → RepT w' N' cs row
  | [], row, hr => by simpa only [RepT] using hr
  | c :: cs, row, hr => by
    simp only [RepT] at hr ⊢
    obtain ⟨v, vs, e, ⟨h1, h3⟩, h4⟩ := hr
    exact ⟨v, vs, e, ⟨h1, RepC.keep h c _ h3⟩, RepT.keep h cs vs h4⟩
theorem RepE.keep (h : Keep w N w' N') (k : Nat) : ∀ (es : List AV) (row : List Value), RepE w N k es row → RepE w' N' k es row
  | [], row, hr => by simp only [RepE]
  | e :: es, row, hr => by
    simp only [RepE] at hr ⊢
    exact ⟨hr.1, RepC.keep h e _ hr.2.1, RepE.keep h k es _ hr.2.2⟩
end

theorem Rep.keep (h : Keep w N w' N') {av : AV} {v : Value} (hr : Rep w N av v) : Rep w' N' av v := ⟨hr.1, RepC.keep h _ _ hr.2⟩
theorem Keep.refl (w : World) (N : List Nat) : Keep w N w N := fun _ _ _ _ hb hc => ⟨hb, hc⟩
end keep

theorem Rep.lit_iff {w : World} {N : List Nat} {u v : Value} : Rep w N (.lit u) v ↔ v = u := by
  constructor
  · rintro ⟨h1, h2⟩
    simp only [AV.sh, RepC] at h1 h2
    cases u <;> cases v <;> simp_all [shV, Value.cells]
  · rintro rfl
    exact ⟨rfl, by simp only [RepC]⟩
theorem Rep.lit {w : World} {N : List Nat} (u : Value) : Rep w N (.lit u) u := Rep.lit_iff.2 rfl

/-- A mutable block. -/
inductive ME where
  | box (b : Nat) (T : TypeId) (cs : List AV)
  | arr (v : Value) (T : TypeId) (k : Nat) (es : List AV)
  | obj (b : Nat) (o : Obj)

def ME.blks : ME → List Nat
  | .box b _ _ => [b]
  | .arr (.slice (some a) _ _) _ _ _ => [a.block]
  | .arr _ _ _ _ => []
  | .obj b _ => [b]

def bl (M : List ME) : List Nat := M.flatMap ME.blks

def ME.holds (w : World) (N : List Nat) : ME → Prop
  | .box b T cs => ∃ cur, w.heap[b]? = some (.cells cur T (0, 0)) ∧ RepL w N cs cur.toList
  | .arr v T k es => ∃ a cap, v = .slice a es.length cap ∧ es.length ≤ cap ∧ cap ≤ maxLen ∧
      ((a = none ∧ cap = 0) ∨ ∃ g off cur lo hi, a = some ⟨g, off, none⟩ ∧ w.heap[g]? = some (.cells cur T (lo, hi)) ∧ off + cap * k ≤ cur.size ∧
        (hi ≤ lo ∨ off + cap * k ≤ lo) ∧ RepE w N k es (cur.toList.drop off))
  | .obj b o => w.heap[b]? = some o ∧ (∀ c T fr, o ≠ .cells c T fr)

/-- F: blocks that are a caller's own: they are met by nothing here. -/
structure MOk (w : World) (M : List ME) (F : List Nat) : Prop where
  nodup : (bl M).Nodup
  apart : ∀ b ∈ bl M, b ∉ F
  holds : ∀ m ∈ M, m.holds w (bl M ++ F)

/-- From w0 (with mutable blocks N0) to w (with mutable blocks N): nothing else has turned. -/
structure Fr (w0 : World) (N0 : List Nat) (w : World) (N : List Nat) : Prop where
  os : w.os = w0.os
  tape : w.tape = w0.tape
  output : w.output = w0.output
  size : w0.heap.size ≤ w.heap.size
  block : ∀ k, k < w0.heap.size → k ∉ N0 → w.heap[k]? = w0.heap[k]? ∧ k ∉ N

theorem Fr.refl (w : World) (N : List Nat) : Fr w N w N := ⟨rfl, rfl, rfl, Nat.le_refl _, fun _ _ h => ⟨rfl, h⟩⟩

structure Cx where
  P : Program
  n : Nat
  w0 : World
  N0 : List Nat
  F : List Nat

def look : List (Tmp × Bool × AV) → Tmp → Option (Bool × AV)
  | [], _ => none
  | (u, p) :: r, t => bif Nat.beq u t then some p else look r t

structure St (x : Cx) (L : List (Tmp × Bool × AV)) (M : List ME) (a : Act) (w : World) : Prop where
  defers : a.defers = []
  size : a.tmps.size = x.n
  slots : ∀ t g av, look L t = some (g, av) → (g = true → Rep w (bl M ++ x.F) av (a.tmps.getD t undef)) ∧ (g = false → a.tmps.getD t undef = undef)
  mem : MOk w M x.F
  fr : Fr x.w0 x.N0 w (bl M)
  old : ∀ b ∈ x.F, b < x.w0.heap.size

/-- THE JUDGEMENT: whatever fits L and M fits R. -/
def W (x : Cx) (L : List (Tmp × Bool × AV)) (M : List ME) (R : Act → World → Prop) : Prop := ∀ a w, St x L M a w → R a w

theorem look_nil (t : Tmp) : look [] t = none := rfl
theorem look_cons (u t : Tmp) (p : Bool × AV) (r : List (Tmp × Bool × AV)) : look ((u, p) :: r) t = if u = t then some p else look r t := by
  simp only [look]
  by_cases h : u = t
  · subst h; simp
  · have : Nat.beq u t = false := by
      cases hb : Nat.beq u t with
      | false => rfl
      | true => exact absurd (Nat.eq_of_beq_eq_true hb) h
    simp [this, h]

theorem undef_not_bool (b : Bool) : undef ≠ .bool b := by simp [undef]

/-- An operand's value. -/
def Ov (g : Bool) (L : List (Tmp × Bool × AV)) : Operand → AV → Prop
  | .tmp t, av => ∃ g', look L t = some (g', av) ∧ (g = true → g' = true)
  | .const v, av => av = .lit v ∨ (∃ k, v = .slice none 0 0 ∧ av = .sl k [])
  | .func f, av => av = .lit (.func (.func f) #[] #[])
  | .global i, av => av = .lit (.pointer (some ⟨i, 0, none⟩))

section ov
variable {g : Bool} {L : List (Tmp × Bool × AV)}
theorem Ov.t {t : Tmp} {av : AV} (h : look L t = some (true, av)) : Ov g L (.tmp t) av := ⟨true, h, fun _ => rfl⟩
theorem Ov.c {t : Tmp} {av : AV} (h : look L t = some (g, av)) : Ov g L (.tmp t) av := ⟨g, h, fun h => h⟩
theorem Ov.i {t : Tmp} {av : AV} {g' : Bool} (h : look L t = some (g', av)) (hi : g = true → g' = true) : Ov g L (.tmp t) av := ⟨g', h, hi⟩
theorem Ov.k {v : Value} : Ov g L (.const v) (.lit v) := .inl rfl
theorem Ov.kn {k : Nat} : Ov g L (.const (.slice none 0 0)) (.sl k []) := .inr ⟨k, rfl, rfl⟩
theorem Ov.f {f : FuncId} : Ov g L (.func f) (.lit (.func (.func f) #[] #[])) := rfl
theorem Ov.gl {i : Nat} : Ov g L (.global i) (.lit (.pointer (some ⟨i, 0, none⟩))) := rfl

theorem Rep.nil (w : World) (N : List Nat) (k : Nat) : Rep w N (.sl k []) (.slice none 0 0) :=
  ⟨rfl, by simp only [RepC]; exact ⟨none, 0, rfl, Nat.le_refl _, by simp [maxLen], .inl trivial⟩⟩

theorem Ov.rep {x : Cx} {M : List ME} {o : Operand} {av : AV} (h : Ov g L o av) (hg : g = true) {a : Act} {w : World} (hs : St x L M a w) : Rep w (bl M ++ x.F) av (a.eval o) := by
  cases o with
  | tmp t =>
    obtain ⟨g', hl, hi⟩ := h
    exact (hs.slots t g' av hl).1 (hi hg)
  | const v =>
    rcases h with rfl | ⟨k, rfl, rfl⟩
    · exact Rep.lit v
    · exact Rep.nil _ _ _
  | func f => cases h; exact Rep.lit _
  | global i => cases h; exact Rep.lit _
theorem Ov.lit {x : Cx} {M : List ME} {o : Operand} {v : Value} (h : Ov g L o (.lit v)) (hg : g = true) {a : Act} {w : World} (hs : St x L M a w) : a.eval o = v :=
  Rep.lit_iff.1 (h.rep hg hs)
end ov

section put
variable {x : Cx} {L : List (Tmp × Bool × AV)} {M : List ME} {a : Act} {w : World}

theorem getD_put_same (a : Act) (d : Tmp) (v : Value) (h : d < a.tmps.size) : (a.put (some d) v).tmps.getD d undef = v := by
  simp [Act.put, Array.getD_eq_getD_getElem?, h]
theorem getD_put_other (a : Act) (d t : Tmp) (v : Value) (h : d ≠ t) : (a.put (some d) v).tmps.getD t undef = a.tmps.getD t undef := by
  simp [Act.put, Array.getD_eq_getD_getElem?, Array.getElem?_setIfInBounds, h]

/-- A slot is written; the world has not turned. -/
theorem St.put (hs : St x L M a w) {d : Tmp} (hd : Nat.blt d x.n = true) (g : Bool) (av : AV) (v : Value) (h1 : g = true → Rep w (bl M ++ x.F) av v) (h0 : g = false → v = undef) :
    St x ((d, g, av) :: L) M (a.put (some d) v) w := by
  have hd' : d < a.tmps.size := by rw [hs.size]; simpa [Nat.blt_eq] using hd
  refine ⟨hs.defers, by simp [Act.put, hs.size], ?_, hs.mem, hs.fr, hs.old⟩
  intro t g' av' hl
  rw [look_cons] at hl
  by_cases e : d = t
  · subst e
    rw [if_pos rfl] at hl
    cases hl
    rw [getD_put_same a d v hd']
    exact ⟨h1, h0⟩
  · rw [if_neg e] at hl
    rw [getD_put_other a d t v e]
    exact hs.slots t g' av' hl

/-- The world turns; what is known of the slots stays. -/
theorem St.world (hs : St x L M a w) {w' : World} {M' : List ME} (hk : Keep w (bl M ++ x.F) w' (bl M' ++ x.F)) (hm : MOk w' M' x.F) (hf : Fr x.w0 x.N0 w' (bl M')) : St x L M' a w' :=
  ⟨hs.defers, hs.size, fun t g av hl => ⟨fun hg => ((hs.slots t g av hl).1 hg).keep hk, (hs.slots t g av hl).2⟩, hm, hf, hs.old⟩
end put

/-! ### A region's operations -/
section regions
variable {x : Cx} {L : List (Tmp × Bool × AV)} {M : List ME} {ops : Array Oper} {Q : Exit → Act → World → Prop} {rest : List Oper}

/-- A quiet operation's value: it turns nothing. -/
def Ev (x : Cx) (g : Bool) (L : List (Tmp × Bool × AV)) (M : List ME) (op : Op) (ty : TypeId) (av : AV) : Prop :=
  ∀ a w, St x L M a w → g = true → ∃ v, (execOp a.eval ⟨none, op, ty, "", #[], none⟩).run x.P w = .ok (.value v) w ∧ Rep w (bl M ++ x.F) av v

theorem execOp_bare (ρ : Operand → Value) (d : Option Tmp) (op : Op) (ty : TypeId) (pos : String) (aft : Array Edge) (g : Option (Nat × Bool)) :
    execOp ρ ⟨d, op, ty, pos, aft, g⟩ = execOp ρ ⟨none, op, ty, "", #[], none⟩ := rfl

theorem wpList_cons_want {P : Program} {o : Oper} {a : Act} {w : World} (hw : Region.wanted o (yielded ops a.tmps) = true) (h : o.wp P a w (wpList P ops Q rest) Q) : wpList P ops Q (o :: rest) a w := by
  unfold wpList
  rw [if_pos hw]
  exact .inl h
theorem wpList_cons_skip {P : Program} {o : Oper} {a : Act} {w : World} (hw : Region.wanted o (yielded ops a.tmps) = false) (h : wpList P ops Q rest (a.put o.dst undef) w) : wpList P ops Q (o :: rest) a w := by
  unfold wpList
  rw [if_neg (by simp [hw])]
  exact h

theorem W.q {d : Tmp} {op : Op} {ty : TypeId} {pos : String} {aft : Array Edge} {av : AV} (he : Ev x true L M op ty av) (hd : Nat.blt d x.n = true)
    (next : W x ((d, true, av) :: L) M (wpList x.P ops Q rest)) : W x L M (wpList x.P ops Q (⟨some d, op, ty, pos, aft, none⟩ :: rest)) := by
  intro a w hs
  obtain ⟨v, hr, hv⟩ := he a w hs rfl
  refine wpList_cons_want (by simp [Region.wanted]) ?_
  unfold Oper.wp
  rw [execOp_bare, hr]
  exact next _ _ (hs.put hd true av v (fun _ => hv) (by simp))

theorem yielded_of {ops : Array Oper} {tmps : Array Value} {j : Nat} {t : Tmp} (hj : (ops[j]?).bind (·.dst) = some t) (b : Bool) (h : tmps.getD t undef = .bool b) : yielded ops tmps j = some b := by
  unfold yielded
  rw [hj]
  simp only [Option.bind_some]
  rw [Array.getD_eq_getD_getElem?] at h
  cases e : tmps[t]? with
  | none => rw [e] at h; simp [undef] at h
  | some v => rw [e] at h; simp at h; subst h; rfl
theorem yielded_undef {ops : Array Oper} {tmps : Array Value} {j : Nat} {t : Tmp} (hj : (ops[j]?).bind (·.dst) = some t) (h : tmps.getD t undef = undef) : yielded ops tmps j = none := by
  unfold yielded
  rw [hj]
  simp only [Option.bind_some]
  rw [Array.getD_eq_getD_getElem?] at h
  cases e : tmps[t]? with
  | none => rfl
  | some v => rw [e] at h; simp at h; subst h; rfl

/-- what a guard comes to -/
theorem guard_of {d : Option Tmp} {op : Op} {ty : TypeId} {pos : String} {aft : Array Edge} {j : Nat} {want : Bool} {t : Tmp} {gb b : Bool} (hj : (ops[j]?).bind (·.dst) = some t) (hl : look L t = some (gb, .lit (.bool b)))
    {a : Act} {w : World} (hs : St x L M a w) : Region.wanted ⟨d, op, ty, pos, aft, some (j, want)⟩ (yielded ops a.tmps) = (gb && (b == want)) := by
  have h := hs.slots t gb _ hl
  cases gb with
  | true =>
    show (yielded ops a.tmps j == some want) = _
    rw [yielded_of hj b (Rep.lit_iff.1 (h.1 rfl))]
    cases b <;> cases want <;> rfl
  | false =>
    show (yielded ops a.tmps j == some want) = _
    rw [yielded_undef hj (h.2 rfl)]
    rfl

/-- A guarded quiet operation: its value counts where the guard says so. -/
theorem W.qgg {d : Tmp} {op : Op} {ty : TypeId} {pos : String} {aft : Array Edge} {av : AV} {j : Nat} {want : Bool} {t : Tmp} {gb b G : Bool} (hj : (ops[j]?).bind (·.dst) = some t) (hl : look L t = some (gb, .lit (.bool b)))
    (hG : G = (gb && (b == want))) (he : Ev x G L M op ty av) (hd : Nat.blt d x.n = true)
    (next : W x ((d, G, av) :: L) M (wpList x.P ops Q rest)) : W x L M (wpList x.P ops Q (⟨some d, op, ty, pos, aft, some (j, want)⟩ :: rest)) := by
  intro a w hs
  have hw := guard_of (d := some d) (op := op) (ty := ty) (pos := pos) (aft := aft) (want := want) hj hl hs
  rw [← hG] at hw
  cases hGv : G with
  | true =>
    obtain ⟨v, hr, hv⟩ := he a w hs hGv
    refine wpList_cons_want (by rw [hw, hGv]) ?_
    unfold Oper.wp
    rw [execOp_bare, hr]
    have := next _ _ (hs.put hd G av v (fun _ => hv) (by simp [hGv]))
    exact this
  | false =>
    refine wpList_cons_skip (by rw [hw, hGv]) ?_
    exact next _ _ (hs.put hd G av undef (by simp [hGv]) (fun _ => rfl))
theorem W.qgT {d : Tmp} {op : Op} {ty : TypeId} {pos : String} {aft : Array Edge} {av : AV} {j : Nat} {t : Tmp} {b : Bool} (hj : (ops[j]?).bind (·.dst) = some t) (hl : look L t = some (true, .lit (.bool b)))
    (he : Ev x b L M op ty av) (hd : Nat.blt d x.n = true)
    (next : W x ((d, b, av) :: L) M (wpList x.P ops Q rest)) : W x L M (wpList x.P ops Q (⟨some d, op, ty, pos, aft, some (j, true)⟩ :: rest)) :=
  W.qgg hj hl (by simp) he hd next
theorem W.qgF {d : Tmp} {op : Op} {ty : TypeId} {pos : String} {aft : Array Edge} {av : AV} {j : Nat} {t : Tmp} {b : Bool} (hj : (ops[j]?).bind (·.dst) = some t) (hl : look L t = some (true, .lit (.bool b)))
    (he : Ev x (!b) L M op ty av) (hd : Nat.blt d x.n = true)
    (next : W x ((d, !b, av) :: L) M (wpList x.P ops Q rest)) : W x L M (wpList x.P ops Q (⟨some d, op, ty, pos, aft, some (j, false)⟩ :: rest)) :=
  W.qgg hj hl (by simp) he hd next
theorem W.qgT' {d : Tmp} {op : Op} {ty : TypeId} {pos : String} {aft : Array Edge} {av : AV} {j : Nat} {t : Tmp} {gb b : Bool} (hj : (ops[j]?).bind (·.dst) = some t) (hl : look L t = some (gb, .lit (.bool b)))
    (he : Ev x (gb && b) L M op ty av) (hd : Nat.blt d x.n = true)
    (next : W x ((d, gb && b, av) :: L) M (wpList x.P ops Q rest)) : W x L M (wpList x.P ops Q (⟨some d, op, ty, pos, aft, some (j, true)⟩ :: rest)) :=
  W.qgg hj hl (by simp) he hd next
theorem W.qgF' {d : Tmp} {op : Op} {ty : TypeId} {pos : String} {aft : Array Edge} {av : AV} {j : Nat} {t : Tmp} {gb b : Bool} (hj : (ops[j]?).bind (·.dst) = some t) (hl : look L t = some (gb, .lit (.bool b)))
    (he : Ev x (gb && !b) L M op ty av) (hd : Nat.blt d x.n = true)
    (next : W x ((d, gb && !b, av) :: L) M (wpList x.P ops Q rest)) : W x L M (wpList x.P ops Q (⟨some d, op, ty, pos, aft, some (j, false)⟩ :: rest)) :=
  W.qgg hj hl (by simp) he hd next

/-- A guard that is known: the operation stands as if it had none, or is passed over. -/
theorem W.gyes {d : Option Tmp} {op : Op} {ty : TypeId} {pos : String} {aft : Array Edge} {j : Nat} {want : Bool} {t : Tmp} (hj : (ops[j]?).bind (·.dst) = some t) (hl : look L t = some (true, .lit (.bool want)))
    (next : W x L M (wpList x.P ops Q (⟨d, op, ty, pos, aft, none⟩ :: rest))) : W x L M (wpList x.P ops Q (⟨d, op, ty, pos, aft, some (j, want)⟩ :: rest)) := by
  intro a w hs
  have hw := guard_of (d := d) (op := op) (ty := ty) (pos := pos) (aft := aft) (want := want) hj hl hs
  have h := next a w hs
  unfold wpList at h ⊢
  rw [if_pos (by rw [hw]; simp)]
  rw [if_pos (by simp [Region.wanted])] at h
  exact h
theorem W.gno {d : Tmp} {op : Op} {ty : TypeId} {pos : String} {aft : Array Edge} {j : Nat} {want b : Bool} {t : Tmp} (hj : (ops[j]?).bind (·.dst) = some t) (hl : look L t = some (true, .lit (.bool b))) (hb : b ≠ want) (hd : Nat.blt d x.n = true)
    (next : W x ((d, false, .lit undef) :: L) M (wpList x.P ops Q rest)) : W x L M (wpList x.P ops Q (⟨some d, op, ty, pos, aft, some (j, want)⟩ :: rest)) := by
  intro a w hs
  have hw := guard_of (d := some d) (op := op) (ty := ty) (pos := pos) (aft := aft) (want := want) hj hl hs
  refine wpList_cons_skip (by rw [hw]; simpa using hb) ?_
  exact next _ _ (hs.put hd false _ undef (by simp) (fun _ => rfl))

theorem W.region {id : Nat} {l : List Oper} (h : W x L M (wpList x.P l.toArray Q l)) : W x L M (Code.wp x.P (.region id l.toArray false) Q) :=
  fun a w hs => wp_region_lit (h a w hs)
theorem W.nil (h : W x L M (Q .normal)) : W x L M (wpList x.P ops Q []) := fun a w hs => h a w hs
end regions

/-! ### Code -/
section code
variable {x : Cx} {L : List (Tmp × Bool × AV)} {M : List ME} {Q : Exit → Act → World → Prop}
theorem W.seq {c d : Code} (h : W x L M (Code.wp x.P c (Exit.then (Code.wp x.P d Q) Q))) : W x L M (Code.wp x.P (.seq c d) Q) := fun a w hs => wp_seq (h a w hs)
theorem W.then {K : Act → World → Prop} (h : W x L M K) : W x L M (Exit.then K Q .normal) := h
theorem W.then_ret {K : Act → World → Prop} (h : W x L M (Q .ret)) : W x L M (Exit.then K Q .ret) := h
theorem W.then_exit {K : Act → World → Prop} {id : Nat} (h : W x L M (Q (.exit id))) : W x L M (Exit.then K Q (.exit id)) := h
theorem W.blk_normal {id : Nat} (h : W x L M (Q .normal)) : W x L M (Exit.inBlock id Q .normal) := h
theorem W.blk_ret {id : Nat} (h : W x L M (Q .ret)) : W x L M (Exit.inBlock id Q .ret) := h
theorem W.blk_hit {id : Nat} (h : W x L M (Q .normal)) : W x L M (Exit.inBlock id Q (.exit id)) := fun a w hs => by simpa [Exit.inBlock] using h a w hs
theorem W.blk_miss {id id' : Nat} (hne : Nat.beq id' id = false) (h : W x L M (Q (.exit id'))) : W x L M (Exit.inBlock id Q (.exit id')) := fun a w hs => by
  have : id' ≠ id := fun e => by subst e; simp at hne
  simpa [Exit.inBlock, this] using h a w hs
theorem W.skip (h : W x L M (Q .normal)) : W x L M (Code.wp x.P .skip Q) := fun a w hs => wp_skip (h a w hs)
theorem W.label {l : Nat} (h : W x L M (Q .normal)) : W x L M (Code.wp x.P (.label l) Q) := fun a w hs => wp_label (h a w hs)
theorem W.exit {id : Nat} (h : W x L M (Q (.exit id))) : W x L M (Code.wp x.P (.exit id) Q) := fun a w hs => wp_exit (h a w hs)
theorem W.ret (h : W x L M (Q .ret)) : W x L M (Code.wp x.P .ret Q) := fun a w hs => wp_ret (h a w hs)
theorem W.block {id : Nat} {c : Code} (h : W x L M (Code.wp x.P c (Exit.inBlock id Q))) : W x L M (Code.wp x.P (.block id c) Q) := fun a w hs => wp_block (h a w hs)
theorem W.cond {c : Operand} {y z : Code} {b : Bool} (hc : Ov true L c (.lit (.bool b))) (ht : b = true → W x L M (Code.wp x.P y Q)) (hf : b = false → W x L M (Code.wp x.P z Q)) :
    W x L M (Code.wp x.P (.cond c y z) Q) := fun a w hs => by
  have h := hc.lit rfl hs
  cases b with
  | true => exact wp_cond_true h (ht rfl a w hs)
  | false => exact wp_cond_false h (hf rfl a w hs)
theorem W.condT {c : Operand} {y z : Code} (hc : Ov true L c (.lit (.bool true))) (ht : W x L M (Code.wp x.P y Q)) : W x L M (Code.wp x.P (.cond c y z) Q) :=
  W.cond hc (fun _ => ht) (fun h => by cases h)
theorem W.condF {c : Operand} {y z : Code} (hc : Ov true L c (.lit (.bool false))) (hf : W x L M (Code.wp x.P z Q)) : W x L M (Code.wp x.P (.cond c y z) Q) :=
  W.cond hc (fun h => by cases h) (fun _ => hf)
end code

/-! ### Less is known; a point that several ways come to; loops -/
/-- What L' says, L says. -/
def Sub (L : List (Tmp × Bool × AV)) : List (Tmp × Bool × AV) → Prop
  | [] => True
  | (t, p) :: r => look L t = some p ∧ Sub L r

section weaken
variable {x : Cx} {L L' : List (Tmp × Bool × AV)} {M M' D : List ME} {R : Act → World → Prop}
theorem Sub.look : ∀ {L' : List (Tmp × Bool × AV)}, Sub L L' → ∀ t p, look L' t = some p → look L t = some p
  | [], _, t, p, h => by cases h
  | (u, q) :: r, hs, t, p, h => by
    rw [look_cons] at h
    by_cases e : u = t
    · subst e; rw [if_pos rfl] at h; cases h; exact hs.1
    · rw [if_neg e] at h; exact Sub.look hs.2 t p h

theorem bl_append (M M' : List ME) : bl (M ++ M') = bl M ++ bl M' := by simp [bl]
theorem bl_perm {M M' : List ME} (h : List.Perm M M') : List.Perm (bl M) (bl M') := List.Perm.flatMap_right _ h

theorem ME.holds_keep {w w' : World} {N N' : List Nat} (hk : Keep w N w' N') {m : ME} (hb : ∀ b ∈ m.blks, w'.heap[b]? = w.heap[b]?) (h : m.holds w N) : m.holds w' N' := by
  cases m with
  | box b T cs =>
    obtain ⟨cur, hc, hr⟩ := h
    exact ⟨cur, (hb b (by simp [ME.blks])).trans hc, RepL.keep hk _ _ hr⟩
  | arr v T k es =>
    obtain ⟨a, cap, e, h1, h2, h3⟩ := h
    refine ⟨a, cap, e, h1, h2, ?_⟩
    rcases h3 with h3 | ⟨g, off, cur, lo, hi, ha, hc, hsz, hfr, he⟩
    · exact .inl h3
    · subst ha
      exact .inr ⟨g, off, cur, lo, hi, rfl, (hb g (by subst e; simp [ME.blks])).trans hc, hsz, hfr, RepE.keep hk _ _ _ he⟩
  | obj b o => exact ⟨(hb b (by simp [ME.blks])).trans h.1, h.2⟩

/-- Fewer mutable blocks are known: those that are dropped count as immutable from here on. -/
theorem MOk.sub {w : World} {F : List Nat} (h : MOk w M F) (hp : List.Perm M (M' ++ D)) : MOk w M' F ∧ Keep w (bl M ++ F) w (bl M' ++ F) ∧ (∀ b, b ∈ bl M' → b ∈ bl M) := by
  have hpb := bl_perm hp
  rw [bl_append] at hpb
  have hsub : ∀ b, b ∈ bl M' → b ∈ bl M := fun b hb => hpb.mem_iff.2 (List.mem_append_left _ hb)
  have hk : Keep w (bl M ++ F) w (bl M' ++ F) := fun b c T fr hb hc => ⟨fun h' => hb (by
    rcases List.mem_append.1 h' with h' | h'
    · exact List.mem_append_left _ (hsub b h')
    · exact List.mem_append_right _ h'), hc⟩
  refine ⟨⟨?_, fun b hb => h.apart b (hsub b hb), ?_⟩, hk, hsub⟩
  · exact (List.nodup_append.1 (hpb.nodup_iff.1 h.nodup)).1
  · intro m hm
    exact ME.holds_keep hk (fun _ _ => rfl) (h.holds m (hp.mem_iff.2 (List.mem_append_left _ hm)))

theorem Fr.sub {w0 w : World} {N0 N N' : List Nat} (h : Fr w0 N0 w N) (hs : ∀ b, b ∈ N' → b ∈ N) : Fr w0 N0 w N' :=
  ⟨h.os, h.tape, h.output, h.size, fun k hk hn => ⟨(h.block k hk hn).1, fun h' => (h.block k hk hn).2 (hs k h')⟩⟩

theorem St.weaken {a : Act} {w : World} (hs : St x L M a w) (hL : Sub L L') (hM : List.Perm M (M' ++ D)) : St x L' M' a w := by
  obtain ⟨hm, hk, hsub⟩ := hs.mem.sub hM
  exact ⟨hs.defers, hs.size, fun t g av hl => ⟨fun hg => ((hs.slots t g av (hL.look t _ hl)).1 hg).keep hk, (hs.slots t g av (hL.look t _ hl)).2⟩, hm, hs.fr.sub hsub, hs.old⟩

/-- the same, said otherwise -/
theorem W.is {t : Tmp} {g : Bool} {av av' : AV} (h : look L t = some (g, av)) (e : av = av') (next : W x ((t, g, av') :: L) M R) : W x L M R := by
  subst e
  intro a w hs
  refine next a w ⟨hs.defers, hs.size, ?_, hs.mem, hs.fr, hs.old⟩
  intro u g' av' hl
  rw [look_cons] at hl
  by_cases e : t = u
  · subst e; rw [if_pos rfl] at hl; cases hl; exact hs.slots t g av h
  · rw [if_neg e] at hl; exact hs.slots u g' av' hl

theorem W.weaken (hL : Sub L L') (hM : List.Perm M (M' ++ D)) (h : W x L' M' R) : W x L M R := fun a w hs => h a w (hs.weaken hL hM)

/-- Some member of a family of states. -/
def Reach {ι : Type} (x : Cx) (Lf : ι → List (Tmp × Bool × AV)) (Mf : ι → List ME) (Pf : ι → Prop) (a : Act) (w : World) : Prop := ∃ z, Pf z ∧ St x (Lf z) (Mf z) a w

theorem W.reach {ι : Type} {Lf : ι → List (Tmp × Bool × AV)} {Mf : ι → List ME} {Pf : ι → Prop} (z : ι) (hL : Sub L (Lf z)) (hM : List.Perm M (Mf z ++ D)) (hP : Pf z) : W x L M (Reach x Lf Mf Pf) :=
  fun a w hs => ⟨z, hP, hs.weaken hL hM⟩

/-- A point that several ways come to. -/
theorem W.seq_at {ι : Type} {c d : Code} {Q : Exit → Act → World → Prop} (Lf : ι → List (Tmp × Bool × AV)) (Mf : ι → List ME) (Pf : ι → Prop)
    (h : W x L M (Code.wp x.P c (Exit.then (Reach x Lf Mf Pf) Q))) (hn : ∀ z, Pf z → W x (Lf z) (Mf z) (Code.wp x.P d Q)) : W x L M (Code.wp x.P (.seq c d) Q) := by
  intro a w hs
  refine wp_seq (wp_mono (h a w hs) ?_)
  intro e a' w' hq
  cases e with
  | normal => obtain ⟨z, hP, hz⟩ := hq; exact hn z hP a' w' hz
  | _ => exact hq

theorem W.loop {ι : Type} {c : Code} {Q : Exit → Act → World → Prop} (Lf : ι → List (Tmp × Bool × AV)) (Mf : ι → List ME) (Pf : ι → Prop) (μ : ι → Nat) (z₀ : ι)
    (hL : Sub L (Lf z₀)) (hM : List.Perm M (Mf z₀ ++ D)) (hP : Pf z₀)
    (round : ∀ z, Pf z → W x (Lf z) (Mf z) (Code.wp x.P c (Exit.then (Reach x Lf Mf (fun y => Pf y ∧ μ y < μ z)) Q))) : W x L M (Code.wp x.P (.loop c) Q) := by
  intro a w hs b k cs
  have key : ∀ n z, μ z = n → Pf z → ∀ a w, St x (Lf z) (Mf z) a w →
      ∃ e a' w', Q e a' w' ∧ Arrives x.P (lone (b.at a (.code c :: .inLoop c :: k)) cs w) b k cs e a' w' := by
    intro n
    induction n using Nat.strongRecOn with
    | _ n ih =>
      intro z hz hPz a w hs
      obtain ⟨e, a₁, w₁, hq, harr⟩ := round z hPz a w hs b (.inLoop c :: k) cs
      cases e with
      | normal =>
        obtain ⟨y, ⟨hPy, hlt⟩, hsy⟩ := hq
        obtain ⟨e₂, a₂, w₂, hq₂, harr₂⟩ := ih (μ y) (hz ▸ hlt) y rfl hPy a₁ w₁ hsy
        exact ⟨e₂, a₂, w₂, hq₂, .of_steps (Steps.trans harr (.one step_inLoop)) harr₂⟩
      | exit id => exact ⟨_, a₁, w₁, hq, .pass (x := .inLoop c) rfl (fun _ _ => .inl (by simp)) harr⟩
      | goto l => exact ⟨_, a₁, w₁, hq, .pass (x := .inLoop c) rfl (fun _ _ => .inl (by simp)) harr⟩
      | ret => exact ⟨_, a₁, w₁, hq, .pass (x := .inLoop c) rfl (fun _ _ => .inl (by simp)) harr⟩
      | panic ch => exact ⟨_, a₁, w₁, hq, .pass (x := .inLoop c) rfl (fun _ _ => .inl (by simp)) harr⟩
      | outgrown => exact ⟨_, a₁, w₁, hq, .pass (x := .inLoop c) rfl (fun _ _ => .inl (by simp)) harr⟩
  obtain ⟨e, a', w', hq, harr⟩ := key _ z₀ rfl hP a w (hs.weaken hL hM)
  exact ⟨e, a', w', hq, .of_steps (.one step_loop) harr⟩
end weaken
end Go.Vl
