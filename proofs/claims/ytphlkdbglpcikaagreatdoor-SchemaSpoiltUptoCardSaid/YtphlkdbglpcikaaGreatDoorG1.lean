/-
  Merged: Vl Fn Ev Law Bulk Ints Mem.
-/
import Derived.WalkKit
import Derived.Lib.Strings
import Derived.ProofKit
import Derived.OpenShut
import Derived.ShutString
import Derived.ChangeOld
import Derived.Below
import Derived.JoinedCond
import Derived.Test.YtphlkdbglpcikaaGreatDoorRows
import Derived.ChangeSlices
set_option linter.unusedVariables false
set_option linter.unusedSimpArgs false
set_option maxRecDepth 100000

section
namespace Go.Vl
inductive AV where
 | lit (v : Value)
 | agg (cs : List AV)
 | tup (vs : List AV)
 | sl (k : Nat) (es : List AV)
 | eptr (cs : List AV)
 | aptr (v : Value) (j : Nat)
def shV : Value → Nat
 | .agg _ => 1
 | .tuple _ => 2
 | _ => 0
def AV.sh : AV → Nat
 | .lit u => shV u
 | .agg _ => 1
 | .tup _ => 2
 | _ => 0
def AV.cells : AV → List AV
 | .agg cs => cs
 | .lit (.agg us) => us.toList.map .lit
 | x => [x]
mutual
def RepC (w : World) (N : List Nat) : AV → List Value → Prop
 | .lit u, row => row = u.cells.toList
 | .agg cs, row => RepL w N cs row
 | .tup vs, row => ∃ us, row = [.tuple us] ∧ RepT w N vs us.toList
 | .sl k es, row => ∃ a cap, row = [.slice a es.length cap] ∧ es.length ≤ cap ∧ cap ≤ maxLen ∧
  (es = [] ∨ ∃ b off cur T fr, a = some ⟨b, off, none⟩ ∧ b ∉ N ∧ w.heap[b]? = some (.cells cur T fr) ∧ RepE w N k es (cur.toList.drop off))
 | .eptr cs, row => ∃ b off cur T fr, row = [.pointer (some ⟨b, off, none⟩)] ∧ b ∉ N ∧ w.heap[b]? = some (.cells cur T fr) ∧
  RepL w N cs ((cur.toList.drop off).take cs.length)
 | .aptr v j, row => ∃ g off n cap, v = .slice (some ⟨g, off, none⟩) n cap ∧ row = [.pointer (some ⟨g, off + j, none⟩)]
def RepL (w : World) (N : List Nat) : List AV → List Value → Prop
 | [], row => row = []
 | c :: cs, row => ∃ v vs, row = v :: vs ∧ (c.sh = 0 ∧ shV v = 0 ∧ RepC w N c [v]) ∧ RepL w N cs vs
def RepT (w : World) (N : List Nat) : List AV → List Value → Prop
 | [], row => row = []
 | c :: cs, row => ∃ v vs, row = v :: vs ∧ (c.sh = shV v ∧ RepC w N c v.cells.toList) ∧ RepT w N cs vs
def RepE (w : World) (N : List Nat) (k : Nat) : List AV → List Value → Prop
 | [], _ => True
 | e :: es, row => k ≤ row.length ∧ RepC w N e (row.take k) ∧ RepE w N k es (row.drop k)
end
def Rep (w : World) (N : List Nat) (av : AV) (v : Value) : Prop := av.sh = shV v ∧ RepC w N av v.cells.toList
section keep
variable {w w' : World} {N N' : List Nat}
def Keep (w : World) (N : List Nat) (w' : World) (N' : List Nat) : Prop :=
 ∀ b c T fr, b ∉ N → w.heap[b]? = some (.cells c T fr) → b ∉ N' ∧ w'.heap[b]? = some (.cells c T fr)
mutual
theorem RepC.keep (h : Keep w N w' N') : ∀ (av : AV) (row : List Value), RepC w N av row → RepC w' N' av row
 | .lit u, row, hr => by simpa only [RepC] using hr
 | .agg cs, row, hr => by simp only [RepC] at hr ⊢; exact RepL.keep h cs row hr
 | .tup vs, row, hr => by
  simp only [RepC] at hr ⊢
  obtain ⟨us, e, ht⟩ := hr
  exact ⟨us, e, RepT.keep h vs _ ht⟩
 | .sl k es, row, hr => by
  simp only [RepC] at hr ⊢
  obtain ⟨a, cap, e, h1, h2, h3⟩ := hr
  refine ⟨a, cap, e, h1, h2, ?_⟩
  rcases h3 with h3 | ⟨b, off, cur, T, fr, ha, hb, hc, he⟩
  ·exact .inl h3
  ·obtain ⟨hb', hc'⟩ := h _ _ _ _ hb hc
   exact .inr ⟨b, off, cur, T, fr, ha, hb', hc', RepE.keep h k es _ he⟩
 | .eptr cs, row, hr => by
  simp only [RepC] at hr ⊢
  obtain ⟨b, off, cur, T, fr, e, hb, hc, hl⟩ := hr
  obtain ⟨hb', hc'⟩ := h _ _ _ _ hb hc
  exact ⟨b, off, cur, T, fr, e, hb', hc', RepL.keep h cs _ hl⟩
 | .aptr v j, row, hr => by simpa only [RepC] using hr
theorem RepL.keep (h : Keep w N w' N') : ∀ (cs : List AV) (row : List Value), RepL w N cs row → RepL w' N' cs row
 | [], row, hr => by simpa only [RepL] using hr
 | c :: cs, row, hr => by
  simp only [RepL] at hr ⊢
  obtain ⟨v, vs, e, ⟨h1, h2, h3⟩, h4⟩ := hr
  exact ⟨v, vs, e, ⟨h1, h2, RepC.keep h c _ h3⟩, RepL.keep h cs vs h4⟩
theorem RepT.keep (h : Keep w N w' N') : ∀ (cs : List AV) (row : List Value), RepT w N cs row → RepT w' N' cs row
 | [], row, hr => by simpa only [RepT] using hr
 | c :: cs, row, hr => by
  simp only [RepT] at hr ⊢
  obtain ⟨v, vs, e, ⟨h1, h3⟩, h4⟩ := hr
  exact ⟨v, vs, e, ⟨h1, RepC.keep h c _ h3⟩, RepT.keep h cs vs h4⟩
theorem RepE.keep (h : Keep w N w' N') (k : Nat) : ∀ (es : List AV) (row : List Value), RepE w N k es row → RepE w' N' k es row
 | [], row, hr => by simp only [RepE]
 | e :: es, row, hr => by
  simp only [RepE] at hr ⊢
  exact ⟨hr.1, RepC.keep h e _ hr.2.1, RepE.keep h k es _ hr.2.2⟩
end
theorem Rep.keep (h : Keep w N w' N') {av : AV} {v : Value} (hr : Rep w N av v) : Rep w' N' av v := ⟨hr.1, RepC.keep h _ _ hr.2⟩
theorem Keep.refl (w : World) (N : List Nat) : Keep w N w N := fun _ _ _ _ hb hc => ⟨hb, hc⟩
end keep
theorem Rep.lit_iff {w : World} {N : List Nat} {u v : Value} : Rep w N (.lit u) v ↔ v = u := by
 constructor
 ·rintro ⟨h1, h2⟩
  simp only [AV.sh, RepC] at h1 h2
  cases u <;> cases v <;> simp_all [shV, Value.cells]
 ·rintro rfl
  exact ⟨rfl, by simp only [RepC]⟩
theorem Rep.lit {w : World} {N : List Nat} (u : Value) : Rep w N (.lit u) u := Rep.lit_iff.2 rfl
inductive ME where
 | box (b : Nat) (T : TypeId) (cs : List AV)
 | arr (v : Value) (T : TypeId) (k : Nat) (es : List AV)
 | obj (b : Nat) (o : Obj)
 /-- a block that nobody turns: only what it holds is known -/
 | shr (b : Nat) (T : TypeId) (cs : List AV)
def ME.blks : ME → List Nat
 | .box b _ _ => [b]
 | .arr (.slice (some a) _ _) _ _ _ => [a.block]
 | .arr _ _ _ _ => []
 | .obj b _ => [b]
 | .shr _ _ _ => []
def bl (M : List ME) : List Nat := M.flatMap ME.blks
def ME.holds (w : World) (N : List Nat) : ME → Prop
 | .box b T cs => ∃ cur, w.heap[b]? = some (.cells cur T (0, 0)) ∧ RepL w N cs cur.toList
 | .arr v T k es => ∃ a cap, v = .slice a es.length cap ∧ es.length ≤ cap ∧ cap ≤ maxLen ∧
  ((a = none ∧ cap = 0) ∨ ∃ g off cur lo hi, a = some ⟨g, off, none⟩ ∧ w.heap[g]? = some (.cells cur T (lo, hi)) ∧ off + cap * k ≤ cur.size ∧
   (hi ≤ lo ∨ off + cap * k ≤ lo) ∧ RepE w N k es (cur.toList.drop off))
 | .obj b o => w.heap[b]? = some o ∧ (∀ c T fr, o ≠ .cells c T fr)
 | .shr b T cs => b ∉ N ∧ ∃ cur, w.heap[b]? = some (.cells cur T (0, 0)) ∧ RepL w N cs cur.toList
structure MOk (w : World) (M : List ME) (F : List Nat) : Prop where
 nodup : (bl M).Nodup
 apart : ∀ b ∈ bl M, b ∉ F
 holds : ∀ m ∈ M, m.holds w (bl M ++ F)
structure Fr (w0 : World) (N0 : List Nat) (w : World) (N : List Nat) : Prop where
 os : w.os = w0.os
 tape : w.tape = w0.tape
 output : w.output = w0.output
 size : w0.heap.size ≤ w.heap.size
 block : ∀ k, k < w0.heap.size → k ∉ N0 → w.heap[k]? = w0.heap[k]? ∧ k ∉ N
theorem Fr.refl (w : World) (N : List Nat) : Fr w N w N := ⟨rfl, rfl, rfl, Nat.le_refl _, fun _ _ h => ⟨rfl, h⟩⟩
structure Cx where
 P : Program
 n : Nat
 w0 : World
 N0 : List Nat
 F : List Nat
def look : List (Tmp × Bool × AV) → Tmp → Option (Bool × AV)
 | [], _ => none
 | (u, p) :: r, t => bif Nat.beq u t then some p else look r t
structure St (x : Cx) (L : List (Tmp × Bool × AV)) (M : List ME) (a : Act) (w : World) : Prop where
 defers : a.defers = []
 size : a.tmps.size = x.n
 slots : ∀ t g av, look L t = some (g, av) → (g = true → Rep w (bl M ++ x.F) av (a.tmps.getD t undef)) ∧ (g = false → a.tmps.getD t undef = undef)
 mem : MOk w M x.F
 fr : Fr x.w0 x.N0 w (bl M)
 old : ∀ b ∈ x.F, b < x.w0.heap.size
def W (x : Cx) (L : List (Tmp × Bool × AV)) (M : List ME) (R : Act → World → Prop) : Prop := ∀ a w, St x L M a w → R a w
theorem look_cons (u t : Tmp) (p : Bool × AV) (r : List (Tmp × Bool × AV)) : look ((u, p) :: r) t = if u = t then some p else look r t := by
 simp only [look]
 by_cases h : u = t
 ·subst h; simp
 ·have : Nat.beq u t = false := by
   cases hb : Nat.beq u t with
   | false => rfl
   | true => exact absurd (Nat.eq_of_beq_eq_true hb) h
  simp [this, h]
def Ov (g : Bool) (L : List (Tmp × Bool × AV)) : Operand → AV → Prop
 | .tmp t, av => ∃ g', look L t = some (g', av) ∧ (g = true → g' = true)
 | .const v, av => av = .lit v ∨ (∃ k, v = .slice none 0 0 ∧ av = .sl k [])
 | .func f, av => av = .lit (.func (.func f) #[] #[])
 | .global i, av => av = .lit (.pointer (some ⟨i, 0, none⟩))
section ov
variable {g : Bool} {L : List (Tmp × Bool × AV)}
theorem Ov.t {t : Tmp} {av : AV} (h : look L t = some (true, av)) : Ov g L (.tmp t) av := ⟨true, h, fun _ => rfl⟩
theorem Ov.c {t : Tmp} {av : AV} (h : look L t = some (g, av)) : Ov g L (.tmp t) av := ⟨g, h, fun h => h⟩
theorem Ov.i {t : Tmp} {av : AV} {g' : Bool} (h : look L t = some (g', av)) (hi : g = true → g' = true) : Ov g L (.tmp t) av := ⟨g', h, hi⟩
theorem Ov.k {v : Value} : Ov g L (.const v) (.lit v) := .inl rfl
theorem Ov.f {f : FuncId} : Ov g L (.func f) (.lit (.func (.func f) #[] #[])) := rfl
theorem Rep.nil (w : World) (N : List Nat) (k : Nat) : Rep w N (.sl k []) (.slice none 0 0) :=
 ⟨rfl, by simp only [RepC]; exact ⟨none, 0, rfl, Nat.le_refl _, by simp [maxLen], .inl trivial⟩⟩
theorem Ov.rep {x : Cx} {M : List ME} {o : Operand} {av : AV} (h : Ov g L o av) (hg : g = true) {a : Act} {w : World} (hs : St x L M a w) : Rep w (bl M ++ x.F) av (a.eval o) := by
 cases o with
 | tmp t =>
  obtain ⟨g', hl, hi⟩ := h
  exact (hs.slots t g' av hl).1 (hi hg)
 | const v =>
  rcases h with rfl | ⟨k, rfl, rfl⟩
  ·exact Rep.lit v
  ·exact Rep.nil _ _ _
 | func f => cases h; exact Rep.lit _
 | global i => cases h; exact Rep.lit _
theorem Ov.lit {x : Cx} {M : List ME} {o : Operand} {v : Value} (h : Ov g L o (.lit v)) (hg : g = true) {a : Act} {w : World} (hs : St x L M a w) : a.eval o = v :=
 Rep.lit_iff.1 (h.rep hg hs)
end ov
section put
variable {x : Cx} {L : List (Tmp × Bool × AV)} {M : List ME} {a : Act} {w : World}
theorem getD_put_same (a : Act) (d : Tmp) (v : Value) (h : d < a.tmps.size) : (a.put (some d) v).tmps.getD d undef = v := by
 simp [Act.put, Array.getD_eq_getD_getElem?, h]
theorem getD_put_other (a : Act) (d t : Tmp) (v : Value) (h : d ≠ t) : (a.put (some d) v).tmps.getD t undef = a.tmps.getD t undef := by
 simp [Act.put, Array.getD_eq_getD_getElem?, Array.getElem?_setIfInBounds, h]
theorem St.put (hs : St x L M a w) {d : Tmp} (hd : Nat.blt d x.n = true) (g : Bool) (av : AV) (v : Value) (h1 : g = true → Rep w (bl M ++ x.F) av v) (h0 : g = false → v = undef) :
 St x ((d, g, av) :: L) M (a.put (some d) v) w := by
 have hd' : d < a.tmps.size := by rw [hs.size]; simpa [Nat.blt_eq] using hd
 refine ⟨hs.defers, by simp [Act.put, hs.size], ?_, hs.mem, hs.fr, hs.old⟩
 intro t g' av' hl
 rw [look_cons] at hl
 by_cases e : d = t
 ·subst e
  rw [if_pos rfl] at hl
  cases hl
  rw [getD_put_same a d v hd']
  exact ⟨h1, h0⟩
 ·rw [if_neg e] at hl
  rw [getD_put_other a d t v e]
  exact hs.slots t g' av' hl
theorem St.world (hs : St x L M a w) {w' : World} {M' : List ME} (hk : Keep w (bl M ++ x.F) w' (bl M' ++ x.F)) (hm : MOk w' M' x.F) (hf : Fr x.w0 x.N0 w' (bl M')) : St x L M' a w' :=
 ⟨hs.defers, hs.size, fun t g av hl => ⟨fun hg => ((hs.slots t g av hl).1 hg).keep hk, (hs.slots t g av hl).2⟩, hm, hf, hs.old⟩
end put
/-! ### A region's operations -/
section regions
variable {x : Cx} {L : List (Tmp × Bool × AV)} {M : List ME} {ops : Array Oper} {Q : Exit → Act → World → Prop} {rest : List Oper}
def Ev (x : Cx) (g : Bool) (L : List (Tmp × Bool × AV)) (M : List ME) (op : Op) (ty : TypeId) (av : AV) : Prop :=
 ∀ a w, St x L M a w → g = true → ∃ v, (execOp a.eval ⟨none, op, ty, "", #[], none⟩).run x.P w = .ok (.value v) w ∧ Rep w (bl M ++ x.F) av v
theorem execOp_bare (ρ : Operand → Value) (d : Option Tmp) (op : Op) (ty : TypeId) (pos : String) (aft : Array Edge) (g : Option (Nat × Bool)) :
 execOp ρ ⟨d, op, ty, pos, aft, g⟩ = execOp ρ ⟨none, op, ty, "", #[], none⟩ := rfl
theorem wpList_cons_want {P : Program} {o : Oper} {a : Act} {w : World} (hw : Region.wanted o (yielded ops a.tmps) = true) (h : o.wp P a w (wpList P ops Q rest) Q) : wpList P ops Q (o :: rest) a w := by
 unfold wpList
 rw [if_pos hw]
 exact .inl h
theorem wpList_cons_skip {P : Program} {o : Oper} {a : Act} {w : World} (hw : Region.wanted o (yielded ops a.tmps) = false) (h : wpList P ops Q rest (a.put o.dst undef) w) : wpList P ops Q (o :: rest) a w := by
 unfold wpList
 rw [if_neg (by simp [hw])]
 exact h
theorem W.q {d : Tmp} {op : Op} {ty : TypeId} {pos : String} {aft : Array Edge} {av : AV} (he : Ev x true L M op ty av) (hd : Nat.blt d x.n = true)
 (next : W x ((d, true, av) :: L) M (wpList x.P ops Q rest)) : W x L M (wpList x.P ops Q (⟨some d, op, ty, pos, aft, none⟩ :: rest)) := by
 intro a w hs
 obtain ⟨v, hr, hv⟩ := he a w hs rfl
 refine wpList_cons_want (by simp [Region.wanted]) ?_
 unfold Oper.wp
 rw [execOp_bare, hr]
 exact next _ _ (hs.put hd true av v (fun _ => hv) (by simp))
theorem yielded_of {ops : Array Oper} {tmps : Array Value} {j : Nat} {t : Tmp} (hj : (ops[j]?).bind (·.dst) = some t) (b : Bool) (h : tmps.getD t undef = .bool b) : yielded ops tmps j = some b := by
 unfold yielded
 rw [hj]
 simp only [Option.bind_some]
 rw [Array.getD_eq_getD_getElem?] at h
 cases e : tmps[t]? with
 | none => rw [e] at h; simp [undef] at h
 | some v => rw [e] at h; simp at h; subst h; rfl
theorem yielded_undef {ops : Array Oper} {tmps : Array Value} {j : Nat} {t : Tmp} (hj : (ops[j]?).bind (·.dst) = some t) (h : tmps.getD t undef = undef) : yielded ops tmps j = none := by
 unfold yielded
 rw [hj]
 simp only [Option.bind_some]
 rw [Array.getD_eq_getD_getElem?] at h
 cases e : tmps[t]? with
 | none => rfl
 | some v => rw [e] at h; simp at h; subst h; rfl
theorem guard_of {d : Option Tmp} {op : Op} {ty : TypeId} {pos : String} {aft : Array Edge} {j : Nat} {want : Bool} {t : Tmp} {gb b : Bool} (hj : (ops[j]?).bind (·.dst) = some t) (hl : look L t = some (gb, .lit (.bool b)))
 {a : Act} {w : World} (hs : St x L M a w) : Region.wanted ⟨d, op, ty, pos, aft, some (j, want)⟩ (yielded ops a.tmps) = (gb && (b == want)) := by
 have h := hs.slots t gb _ hl
 cases gb with
 | true =>
  show (yielded ops a.tmps j == some want) = _
  rw [yielded_of hj b (Rep.lit_iff.1 (h.1 rfl))]
  cases b <;> cases want <;> rfl
 | false =>
  show (yielded ops a.tmps j == some want) = _
  rw [yielded_undef hj (h.2 rfl)]
  rfl
theorem W.qgg {d : Tmp} {op : Op} {ty : TypeId} {pos : String} {aft : Array Edge} {av : AV} {j : Nat} {want : Bool} {t : Tmp} {gb b G : Bool} (hj : (ops[j]?).bind (·.dst) = some t) (hl : look L t = some (gb, .lit (.bool b)))
 (hG : G = (gb && (b == want))) (he : Ev x G L M op ty av) (hd : Nat.blt d x.n = true)
 (next : W x ((d, G, av) :: L) M (wpList x.P ops Q rest)) : W x L M (wpList x.P ops Q (⟨some d, op, ty, pos, aft, some (j, want)⟩ :: rest)) := by
 intro a w hs
 have hw := guard_of (d := some d) (op := op) (ty := ty) (pos := pos) (aft := aft) (want := want) hj hl hs
 rw [← hG] at hw
 cases hGv : G with
 | true =>
  obtain ⟨v, hr, hv⟩ := he a w hs hGv
  refine wpList_cons_want (by rw [hw, hGv]) ?_
  unfold Oper.wp
  rw [execOp_bare, hr]
  have := next _ _ (hs.put hd G av v (fun _ => hv) (by simp [hGv]))
  exact this
 | false =>
  refine wpList_cons_skip (by rw [hw, hGv]) ?_
  exact next _ _ (hs.put hd G av undef (by simp [hGv]) (fun _ => rfl))
theorem W.qgT {d : Tmp} {op : Op} {ty : TypeId} {pos : String} {aft : Array Edge} {av : AV} {j : Nat} {t : Tmp} {b : Bool} (hj : (ops[j]?).bind (·.dst) = some t) (hl : look L t = some (true, .lit (.bool b)))
 (he : Ev x b L M op ty av) (hd : Nat.blt d x.n = true)
 (next : W x ((d, b, av) :: L) M (wpList x.P ops Q rest)) : W x L M (wpList x.P ops Q (⟨some d, op, ty, pos, aft, some (j, true)⟩ :: rest)) :=
 W.qgg hj hl (by simp) he hd next
theorem W.qgF {d : Tmp} {op : Op} {ty : TypeId} {pos : String} {aft : Array Edge} {av : AV} {j : Nat} {t : Tmp} {b : Bool} (hj : (ops[j]?).bind (·.dst) = some t) (hl : look L t = some (true, .lit (.bool b)))
 (he : Ev x (!b) L M op ty av) (hd : Nat.blt d x.n = true)
 (next : W x ((d, !b, av) :: L) M (wpList x.P ops Q rest)) : W x L M (wpList x.P ops Q (⟨some d, op, ty, pos, aft, some (j, false)⟩ :: rest)) :=
 W.qgg hj hl (by simp) he hd next
theorem W.qgT' {d : Tmp} {op : Op} {ty : TypeId} {pos : String} {aft : Array Edge} {av : AV} {j : Nat} {t : Tmp} {gb b : Bool} (hj : (ops[j]?).bind (·.dst) = some t) (hl : look L t = some (gb, .lit (.bool b)))
 (he : Ev x (gb && b) L M op ty av) (hd : Nat.blt d x.n = true)
 (next : W x ((d, gb && b, av) :: L) M (wpList x.P ops Q rest)) : W x L M (wpList x.P ops Q (⟨some d, op, ty, pos, aft, some (j, true)⟩ :: rest)) :=
 W.qgg hj hl (by simp) he hd next
theorem W.qgF' {d : Tmp} {op : Op} {ty : TypeId} {pos : String} {aft : Array Edge} {av : AV} {j : Nat} {t : Tmp} {gb b : Bool} (hj : (ops[j]?).bind (·.dst) = some t) (hl : look L t = some (gb, .lit (.bool b)))
 (he : Ev x (gb && !b) L M op ty av) (hd : Nat.blt d x.n = true)
 (next : W x ((d, gb && !b, av) :: L) M (wpList x.P ops Q rest)) : W x L M (wpList x.P ops Q (⟨some d, op, ty, pos, aft, some (j, false)⟩ :: rest)) :=
 W.qgg hj hl (by simp) he hd next
theorem W.gyes {d : Option Tmp} {op : Op} {ty : TypeId} {pos : String} {aft : Array Edge} {j : Nat} {want : Bool} {t : Tmp} (hj : (ops[j]?).bind (·.dst) = some t) (hl : look L t = some (true, .lit (.bool want)))
 (next : W x L M (wpList x.P ops Q (⟨d, op, ty, pos, aft, none⟩ :: rest))) : W x L M (wpList x.P ops Q (⟨d, op, ty, pos, aft, some (j, want)⟩ :: rest)) := by
 intro a w hs
 have hw := guard_of (d := d) (op := op) (ty := ty) (pos := pos) (aft := aft) (want := want) hj hl hs
 have h := next a w hs
 unfold wpList at h ⊢
 rw [if_pos (by rw [hw]; simp)]
 rw [if_pos (by simp [Region.wanted])] at h
 exact h
theorem W.r {id : Nat} {l : List Oper} (h : W x L M (wpList x.P l.toArray Q l)) : W x L M (Code.wp x.P (.region id l.toArray false) Q) :=
 fun a w hs => wp_region_lit (h a w hs)
theorem W.n (h : W x L M (Q .normal)) : W x L M (wpList x.P ops Q []) := fun a w hs => h a w hs
end regions
/-! ### Code -/
section code
variable {x : Cx} {L : List (Tmp × Bool × AV)} {M : List ME} {Q : Exit → Act → World → Prop}
theorem W.s {c d : Code} (h : W x L M (Code.wp x.P c (Exit.then (Code.wp x.P d Q) Q))) : W x L M (Code.wp x.P (.seq c d) Q) := fun a w hs => wp_seq (h a w hs)
theorem W.h {K : Act → World → Prop} (h : W x L M K) : W x L M (Exit.then K Q .normal) := h
theorem W.hr {K : Act → World → Prop} (h : W x L M (Q .ret)) : W x L M (Exit.then K Q .ret) := h
theorem W.he {K : Act → World → Prop} {id : Nat} (h : W x L M (Q (.exit id))) : W x L M (Exit.then K Q (.exit id)) := h
theorem W.bn {id : Nat} (h : W x L M (Q .normal)) : W x L M (Exit.inBlock id Q .normal) := h
theorem W.br {id : Nat} (h : W x L M (Q .ret)) : W x L M (Exit.inBlock id Q .ret) := h
theorem W.bh {id : Nat} (h : W x L M (Q .normal)) : W x L M (Exit.inBlock id Q (.exit id)) := fun a w hs => by simpa [Exit.inBlock] using h a w hs
theorem W.bm {id id' : Nat} (hne : Nat.beq id' id = false) (h : W x L M (Q (.exit id'))) : W x L M (Exit.inBlock id Q (.exit id')) := fun a w hs => by
 have : id' ≠ id := fun e => by subst e; simp at hne
 simpa [Exit.inBlock, this] using h a w hs
theorem W.k (h : W x L M (Q .normal)) : W x L M (Code.wp x.P .skip Q) := fun a w hs => wp_skip (h a w hs)
theorem W.ex {id : Nat} (h : W x L M (Q (.exit id))) : W x L M (Code.wp x.P (.exit id) Q) := fun a w hs => wp_exit (h a w hs)
theorem W.ret (h : W x L M (Q .ret)) : W x L M (Code.wp x.P .ret Q) := fun a w hs => wp_ret (h a w hs)
theorem W.b {id : Nat} {c : Code} (h : W x L M (Code.wp x.P c (Exit.inBlock id Q))) : W x L M (Code.wp x.P (.block id c) Q) := fun a w hs => wp_block (h a w hs)
theorem W.cond {c : Operand} {y z : Code} {b : Bool} (hc : Ov true L c (.lit (.bool b))) (ht : b = true → W x L M (Code.wp x.P y Q)) (hf : b = false → W x L M (Code.wp x.P z Q)) :
 W x L M (Code.wp x.P (.cond c y z) Q) := fun a w hs => by
 have h := hc.lit rfl hs
 cases b with
 | true => exact wp_cond_true h (ht rfl a w hs)
 | false => exact wp_cond_false h (hf rfl a w hs)
theorem W.condT {c : Operand} {y z : Code} (hc : Ov true L c (.lit (.bool true))) (ht : W x L M (Code.wp x.P y Q)) : W x L M (Code.wp x.P (.cond c y z) Q) :=
 W.cond hc (fun _ => ht) (fun h => by cases h)
theorem W.condF {c : Operand} {y z : Code} (hc : Ov true L c (.lit (.bool false))) (hf : W x L M (Code.wp x.P z Q)) : W x L M (Code.wp x.P (.cond c y z) Q) :=
 W.cond hc (fun h => by cases h) (fun _ => hf)
end code
/-! ### Less is known; a point that several ways come to; loops -/
def Sub (L : List (Tmp × Bool × AV)) : List (Tmp × Bool × AV) → Prop
 | [] => True
 | (t, p) :: r => look L t = some p ∧ Sub L r
section weaken
variable {x : Cx} {L L' : List (Tmp × Bool × AV)} {M M' D : List ME} {R : Act → World → Prop}
theorem Sub.look : ∀ {L' : List (Tmp × Bool × AV)}, Sub L L' → ∀ t p, look L' t = some p → look L t = some p
 | [], _, t, p, h => by cases h
 | (u, q) :: r, hs, t, p, h => by
  rw [look_cons] at h
  by_cases e : u = t
  ·subst e; rw [if_pos rfl] at h; cases h; exact hs.1
  ·rw [if_neg e] at h; exact Sub.look hs.2 t p h
theorem bl_append (M M' : List ME) : bl (M ++ M') = bl M ++ bl M' := by simp [bl]
theorem bl_perm {M M' : List ME} (h : List.Perm M M') : List.Perm (bl M) (bl M') := List.Perm.flatMap_right _ h
theorem ME.holds_keep {w w' : World} {N N' : List Nat} (hk : Keep w N w' N') {m : ME} (hb : ∀ b ∈ m.blks, w'.heap[b]? = w.heap[b]?) (h : m.holds w N) : m.holds w' N' := by
 cases m with
 | box b T cs =>
  obtain ⟨cur, hc, hr⟩ := h
  exact ⟨cur, (hb b (by simp [ME.blks])).trans hc, RepL.keep hk _ _ hr⟩
 | arr v T k es =>
  obtain ⟨a, cap, e, h1, h2, h3⟩ := h
  refine ⟨a, cap, e, h1, h2, ?_⟩
  rcases h3 with h3 | ⟨g, off, cur, lo, hi, ha, hc, hsz, hfr, he⟩
  ·exact .inl h3
  ·subst ha
   exact .inr ⟨g, off, cur, lo, hi, rfl, (hb g (by subst e; simp [ME.blks])).trans hc, hsz, hfr, RepE.keep hk _ _ _ he⟩
 | obj b o => exact ⟨(hb b (by simp [ME.blks])).trans h.1, h.2⟩
 | shr b T cs =>
  obtain ⟨hn, cur, hc, hr⟩ := h
  obtain ⟨hn', hc'⟩ := hk _ _ _ _ hn hc
  exact ⟨hn', cur, hc', RepL.keep hk _ _ hr⟩
theorem MOk.sub {w : World} {F : List Nat} (h : MOk w M F) (hp : List.Perm M (M' ++ D)) : MOk w M' F ∧ Keep w (bl M ++ F) w (bl M' ++ F) ∧ (∀ b, b ∈ bl M' → b ∈ bl M) := by
 have hpb := bl_perm hp
 rw [bl_append] at hpb
 have hsub : ∀ b, b ∈ bl M' → b ∈ bl M := fun b hb => hpb.mem_iff.2 (List.mem_append_left _ hb)
 have hk : Keep w (bl M ++ F) w (bl M' ++ F) := fun b c T fr hb hc => ⟨fun h' => hb (by
  rcases List.mem_append.1 h' with h' | h'
  ·exact List.mem_append_left _ (hsub b h')
  ·exact List.mem_append_right _ h'), hc⟩
 refine ⟨⟨?_, fun b hb => h.apart b (hsub b hb), ?_⟩, hk, hsub⟩
 ·exact (List.nodup_append.1 (hpb.nodup_iff.1 h.nodup)).1
 ·intro m hm
  exact ME.holds_keep hk (fun _ _ => rfl) (h.holds m (hp.mem_iff.2 (List.mem_append_left _ hm)))
theorem Fr.sub {w0 w : World} {N0 N N' : List Nat} (h : Fr w0 N0 w N) (hs : ∀ b, b ∈ N' → b ∈ N) : Fr w0 N0 w N' :=
 ⟨h.os, h.tape, h.output, h.size, fun k hk hn => ⟨(h.block k hk hn).1, fun h' => (h.block k hk hn).2 (hs k h')⟩⟩
theorem St.weaken {a : Act} {w : World} (hs : St x L M a w) (hL : Sub L L') (hM : List.Perm M (M' ++ D)) : St x L' M' a w := by
 obtain ⟨hm, hk, hsub⟩ := hs.mem.sub hM
 exact ⟨hs.defers, hs.size, fun t g av hl => ⟨fun hg => ((hs.slots t g av (hL.look t _ hl)).1 hg).keep hk, (hs.slots t g av (hL.look t _ hl)).2⟩, hm, hs.fr.sub hsub, hs.old⟩
theorem W.is {t : Tmp} {g : Bool} {av av' : AV} (h : look L t = some (g, av)) (e : av = av') (next : W x ((t, g, av') :: L) M R) : W x L M R := by
 subst e
 intro a w hs
 refine next a w ⟨hs.defers, hs.size, ?_, hs.mem, hs.fr, hs.old⟩
 intro u g' av' hl
 rw [look_cons] at hl
 by_cases e : t = u
 ·subst e; rw [if_pos rfl] at hl; cases hl; exact hs.slots t g av h
 ·rw [if_neg e] at hl; exact hs.slots u g' av' hl
def Reach {ι : Type} (x : Cx) (Lf : ι → List (Tmp × Bool × AV)) (Mf : ι → List ME) (Pf : ι → Prop) (a : Act) (w : World) : Prop := ∃ z, Pf z ∧ St x (Lf z) (Mf z) a w
theorem W.reach {ι : Type} {Lf : ι → List (Tmp × Bool × AV)} {Mf : ι → List ME} {Pf : ι → Prop} (z : ι) (hL : Sub L (Lf z)) (hM : List.Perm M (Mf z ++ D)) (hP : Pf z) : W x L M (Reach x Lf Mf Pf) :=
 fun a w hs => ⟨z, hP, hs.weaken hL hM⟩
theorem W.loop {ι : Type} {c : Code} {Q : Exit → Act → World → Prop} (Lf : ι → List (Tmp × Bool × AV)) (Mf : ι → List ME) (Pf : ι → Prop) (μ : ι → Nat) (z₀ : ι)
 (hL : Sub L (Lf z₀)) (hM : List.Perm M (Mf z₀ ++ D)) (hP : Pf z₀)
 (round : ∀ z, Pf z → W x (Lf z) (Mf z) (Code.wp x.P c (Exit.then (Reach x Lf Mf (fun y => Pf y ∧ μ y < μ z)) Q))) : W x L M (Code.wp x.P (.loop c) Q) := by
 intro a w hs b k cs
 have key : ∀ n z, μ z = n → Pf z → ∀ a w, St x (Lf z) (Mf z) a w →
  ∃ e a' w', Q e a' w' ∧ Arrives x.P (lone (b.at a (.code c :: .inLoop c :: k)) cs w) b k cs e a' w' := by
  intro n
  induction n using Nat.strongRecOn with
  | _ n ih =>
   intro z hz hPz a w hs
   obtain ⟨e, a₁, w₁, hq, harr⟩ := round z hPz a w hs b (.inLoop c :: k) cs
   cases e with
   | normal =>
    obtain ⟨y, ⟨hPy, hlt⟩, hsy⟩ := hq
    obtain ⟨e₂, a₂, w₂, hq₂, harr₂⟩ := ih (μ y) (hz ▸ hlt) y rfl hPy a₁ w₁ hsy
    exact ⟨e₂, a₂, w₂, hq₂, .of_steps (Steps.trans harr (.one step_inLoop)) harr₂⟩
   | exit id => exact ⟨_, a₁, w₁, hq, .pass (x := .inLoop c) rfl (fun _ _ => .inl (by simp)) harr⟩
   | goto l => exact ⟨_, a₁, w₁, hq, .pass (x := .inLoop c) rfl (fun _ _ => .inl (by simp)) harr⟩
   | ret => exact ⟨_, a₁, w₁, hq, .pass (x := .inLoop c) rfl (fun _ _ => .inl (by simp)) harr⟩
   | panic ch => exact ⟨_, a₁, w₁, hq, .pass (x := .inLoop c) rfl (fun _ _ => .inl (by simp)) harr⟩
   | outgrown => exact ⟨_, a₁, w₁, hq, .pass (x := .inLoop c) rfl (fun _ _ => .inl (by simp)) harr⟩
 obtain ⟨e, a', w', hq, harr⟩ := key _ z₀ rfl hP a w (hs.weaken hL hM)
 exact ⟨e, a', w', hq, .of_steps (.one step_loop) harr⟩
end weaken
end Go.Vl
end
section
namespace Go.Vl
def RetR (w0 : World) (N0 F : List Nat) (post : AV → List ME → Prop) (e : Ending) (w' : World) : Prop :=
 ∃ v r M', e = .returned v ∧ post r M' ∧ MOk w' M' F ∧ Rep w' (bl M' ++ F) r v ∧ Fr w0 N0 w' (bl M')
def CallOk (P : Program) (f : FuncId) : Prop := ∃ fn, P.funcs[f]? = some fn ∧ (fn.name == "runtime.NumGoroutine") = false ∧ fn.body.isNone = false
def FnC (P : Program) (f : FuncId) (args : List AV) (M0 : List ME) (post : AV → List ME → Prop) : Prop :=
 CallOk P f ∧ ∀ (w : World) (F : List Nat) (vs : List Value), (∀ b ∈ F, b < w.heap.size) → MOk w M0 F → RepT w (bl M0 ++ F) args vs → Calls P f vs.toArray w (RetR w (bl M0) F post)
abbrev FnP (P : Program) (f : FuncId) (args : List AV) (r : AV) : Prop := FnC P f args [] (fun r' M' => r' = r ∧ M' = [])
theorem FnC.mono {P : Program} {f : FuncId} {args : List AV} {M0 : List ME} {post post' : AV → List ME → Prop} (h : FnC P f args M0 post) (hp : ∀ r M', post r M' → post' r M') : FnC P f args M0 post' :=
 ⟨h.1, fun w F vs hF hm ha => (h.2 w F vs hF hm ha).mono fun e w' ⟨v, r, M', h1, h2, h3⟩ => ⟨v, r, M', h1, hp _ _ h2, h3⟩⟩
def argL : Nat → List AV → List (Tmp × Bool × AV)
 | _, [] => []
 | i, a :: r => (i, true, a) :: argL (i + 1) r
theorem look_argL : ∀ (args : List AV) (i t : Nat) (p : Bool × AV), look (argL i args) t = some p → ∃ j, t = i + j ∧ args[j]? = some p.2 ∧ p.1 = true
 | [], i, t, p, h => by cases h
 | a :: r, i, t, p, h => by
  rw [argL, look_cons] at h
  by_cases e : i = t
  ·rw [if_pos e] at h; cases h; exact ⟨0, by omega, rfl, rfl⟩
  ·rw [if_neg e] at h
   obtain ⟨j, h1, h2, h3⟩ := look_argL r (i + 1) t p h
   exact ⟨j + 1, by omega, by simpa using h2, h3⟩
theorem RepT.get {w : World} {N : List Nat} : ∀ {args : List AV} {vs : List Value} {j : Nat} {av : AV}, RepT w N args vs → args[j]? = some av → ∃ v, vs[j]? = some v ∧ Rep w N av v
 | [], vs, j, av, h, hj => by simp at hj
 | a :: r, vs, j, av, h, hj => by
  simp only [RepT] at h
  obtain ⟨v, vs', rfl, ⟨h1, h2⟩, h3⟩ := h
  cases j with
  | zero => simp at hj; subst hj; exact ⟨v, rfl, h1, h2⟩
  | succ j => simpa using RepT.get h3 (by simpa using hj)
theorem RepT.length {w : World} {N : List Nat} : ∀ {args : List AV} {vs : List Value}, RepT w N args vs → vs.length = args.length
 | [], vs, h => by simp only [RepT] at h; subst h; rfl
 | a :: r, vs, h => by
  simp only [RepT] at h
  obtain ⟨v, vs', rfl, _, h3⟩ := h
  simp [RepT.length h3]
theorem FnC.mk {P : Program} {f : FuncId} {fn : Func} {c : Code} {args : List AV} {M0 : List ME} {post : AV → List ME → Prop} {n : Nat} (hf : P.funcs[f]? = some fn) (hnm : (fn.name == "runtime.NumGoroutine") = false) (hb : fn.body = some c) (hn : fn.ntmps = n)
 (hlen : Nat.ble args.length n = true)
 (h : ∀ w0 F, W ⟨P, n, w0, bl M0, F⟩ (argL 0 args) M0 (Code.wp P c (bodyPost P fn (RetR w0 (bl M0) F post)))) : FnC P f args M0 post := by
 refine ⟨⟨fn, hf, hnm, by rw [hb]; rfl⟩, fun w F vs hF hm ha => ?_⟩
 refine calls_of_wp hf hb (h w F _ w ?_)
 have hl := ha.length
 have hle : args.length ≤ n := Nat.le_of_ble_eq_true hlen
 refine ⟨rfl, ?_, ?_, hm, Fr.refl _ _, hF⟩
 ·simp [hn, hl]; omega
 ·intro t g av hlk
  obtain ⟨j, rfl, h2, h3⟩ := look_argL args 0 t _ hlk
  obtain ⟨v, hv, hr⟩ := ha.get h2
  have hj : j < vs.length := by
   rcases Nat.lt_or_ge j vs.length with h | h
   ·exact h
   ·rw [List.getElem?_eq_none h] at hv; cases hv
  have e : ((vs.toArray ++ Array.replicate (fn.ntmps - vs.toArray.size) undef).getD (0 + j) undef) = v := by
   rw [Nat.zero_add, Array.getD_eq_getD_getElem?, Array.getElem?_append_left (by simpa using hj)]
   simp [hv]
  simp only at h3
  subst h3
  exact ⟨fun _ => by rw [e]; exact hr, fun h => by cases h⟩
section calls
variable {x : Cx} {L : List (Tmp × Bool × AV)} {M : List ME} {ops : Array Oper} {Q : Exit → Act → World → Prop} {rest : List Oper}
def ArgsOv (L : List (Tmp × Bool × AV)) : List Operand → List AV → Prop
 | [], [] => True
 | o :: os, a :: as_ => Ov true L o a ∧ ArgsOv L os as_
 | _, _ => False
theorem ArgsOv.rep {a : Act} {w : World} (hs : St x L M a w) : ∀ {os : List Operand} {avs : List AV}, ArgsOv L os avs → RepT w (bl M ++ x.F) avs (os.map a.eval)
 | [], [], _ => by simp [RepT]
 | o :: os, av :: as_, h => by
  simp only [RepT, List.map_cons]
  exact ⟨_, _, rfl, h.1.rep rfl hs, ArgsOv.rep hs h.2⟩
 | [], _ :: _, h => h.elim
 | _ :: _, [], h => h.elim
theorem RepT.append {w : World} {N : List Nat} : ∀ {as_ bs : List AV} {us vs : List Value}, RepT w N as_ us → RepT w N bs vs → RepT w N (as_ ++ bs) (us ++ vs)
 | [], bs, us, vs, h, h' => by simp only [RepT] at h; subst h; simpa using h'
 | a :: as_, bs, us, vs, h, h' => by
  simp only [RepT] at h
  obtain ⟨v, us', rfl, h1, h2⟩ := h
  simp only [List.cons_append, RepT]
  exact ⟨_, _, rfl, h1, RepT.append h2 h'⟩
theorem RepT.lits {w : World} {N : List Nat} : ∀ (vs : List Value), RepT w N (vs.map .lit) vs
 | [] => by simp [RepT]
 | v :: vs => by
  simp only [List.map_cons, RepT]
  exact ⟨_, _, rfl, Rep.lit v, RepT.lits vs⟩
theorem bl_sub_of_perm {M Min Mr : List ME} (hM : List.Perm M (Min ++ Mr)) : ∀ b, b ∈ bl M ↔ b ∈ bl Min ∨ b ∈ bl Mr := fun b => by
 rw [(bl_perm hM).mem_iff, bl_append, List.mem_append]
theorem heap_lt {w : World} {b : Nat} {o : Obj} (h : w.heap[b]? = some o) : b < w.heap.size := by
 rcases Nat.lt_or_ge b w.heap.size with h' | h'
 ·exact h'
 ·rw [Array.getElem?_eq_none h'] at h; cases h
theorem ME.blk_some {w : World} {N : List Nat} {m : ME} (h : m.holds w N) : ∀ b ∈ m.blks, b < w.heap.size := by
 intro b hb
 cases m with
 | box b' T cs =>
  obtain ⟨cur, hc, _⟩ := h
  simp [ME.blks] at hb; subst hb; exact heap_lt hc
 | arr v T k es =>
  obtain ⟨a, cap, e, h1, h2, h3⟩ := h
  rcases h3 with ⟨rfl, _⟩ | ⟨g, off, cur, lo, hi, rfl, hc, _⟩
  ·subst e; simp [ME.blks] at hb
  ·subst e; simp [ME.blks] at hb; subst hb; exact heap_lt hc
 | obj b' o =>
  simp [ME.blks] at hb; subst hb; exact heap_lt h.1
 | shr b' T cs => simp [ME.blks] at hb
theorem bl_lt {w : World} {M : List ME} {F : List Nat} (h : MOk w M F) : ∀ b ∈ bl M, b < w.heap.size := by
 intro b hb
 simp only [bl, List.mem_flatMap] at hb
 obtain ⟨m, hm, hb⟩ := hb
 exact ME.blk_some (h.holds m hm) b hb
theorem mem4 {b : Nat} {M' Mr : List ME} {F : List Nat} : b ∈ bl (M' ++ Mr) ++ F ↔ b ∈ bl M' ++ (bl Mr ++ F) := by
 rw [bl_append, List.append_assoc]
theorem St.ahead {a : Act} {w : World} {Min Mr : List ME} (hs : St x L M a w) (hM : List.Perm M (Min ++ Mr)) :
 (∀ b ∈ bl Mr ++ x.F, b < w.heap.size) ∧ MOk w Min (bl Mr ++ x.F) ∧ Keep w (bl M ++ x.F) w (bl Min ++ (bl Mr ++ x.F)) := by
 have hmem := bl_sub_of_perm hM
 have hnd : (bl Min ++ bl Mr).Nodup := by rw [← bl_append]; exact (bl_perm hM).nodup_iff.1 hs.mem.nodup
 obtain ⟨hn1, hn2, hn3⟩ := List.nodup_append.1 hnd
 have hk : Keep w (bl M ++ x.F) w (bl Min ++ (bl Mr ++ x.F)) := fun b c T fr hb hc => ⟨fun h => hb (by
  simp only [List.mem_append] at h ⊢
  rw [hmem b]
  rcases h with h | h | h <;> simp [h]), hc⟩
 refine ⟨?_, ⟨hn1, ?_, ?_⟩, hk⟩
 ·intro b hb
  rcases List.mem_append.1 hb with hb | hb
  ·exact bl_lt hs.mem b ((hmem b).2 (.inr hb))
  ·exact Nat.lt_of_lt_of_le (hs.old b hb) hs.fr.size
 ·intro b hb h
  rcases List.mem_append.1 h with h | h
  ·exact hn3 b hb b h rfl
  ·exact hs.mem.apart b ((hmem b).2 (.inl hb)) h
 ·intro m hm
  exact ME.holds_keep hk (fun _ _ => rfl) (hs.mem.holds m (hM.mem_iff.2 (List.mem_append_left _ hm)))
theorem St.back {a : Act} {w w' : World} {Min Mr M' : List ME} (hs : St x L M a w) (hM : List.Perm M (Min ++ Mr)) (hm' : MOk w' M' (bl Mr ++ x.F)) (hf : Fr w (bl Min) w' (bl M')) :
 St x L (M' ++ Mr) a w' := by
 have hmem := bl_sub_of_perm hM
 have hnd : (bl Min ++ bl Mr).Nodup := by rw [← bl_append]; exact (bl_perm hM).nodup_iff.1 hs.mem.nodup
 obtain ⟨hn1, hn2, hn3⟩ := List.nodup_append.1 hnd
 have hk : Keep w (bl M ++ x.F) w' (bl (M' ++ Mr) ++ x.F) := by
  intro b c T fr hb hc
  have h1 := hf.block b (heap_lt hc) (fun h => hb (List.mem_append_left _ ((hmem b).2 (.inl h))))
  refine ⟨?_, by rw [h1.1]; exact hc⟩
  rw [mem4]
  intro h
  simp only [List.mem_append] at h hb
  rw [hmem b] at hb
  rcases h with h | h | h
  ·exact h1.2 h
  ·exact hb (.inl (.inr h))
  ·exact hb (.inr h)
 have hdisj : ∀ b, b ∈ bl Mr → b ∉ bl Min ∧ b ∉ bl M' ∧ w'.heap[b]? = w.heap[b]? := by
  intro b hb
  have hni : b ∉ bl Min := fun h => hn3 b h b hb rfl
  have h1 := hf.block b (bl_lt hs.mem b ((hmem b).2 (.inr hb))) hni
  exact ⟨hni, h1.2, h1.1⟩
 refine hs.world hk ⟨?_, ?_, ?_⟩ ⟨hf.os.trans hs.fr.os, hf.tape.trans hs.fr.tape, hf.output.trans hs.fr.output, Nat.le_trans hs.fr.size hf.size, ?_⟩
 ·rw [bl_append, List.nodup_append]
  exact ⟨hm'.nodup, hn2, fun b hb c hc e => (hdisj c hc).2.1 (e ▸ hb)⟩
 ·intro b hb h
  rw [bl_append] at hb
  rcases List.mem_append.1 hb with hb | hb
  ·exact hm'.apart b hb (List.mem_append_right _ h)
  ·exact hs.mem.apart b ((hmem b).2 (.inr hb)) h
 ·intro m hm
  rcases List.mem_append.1 hm with hm | hm
  ·exact ME.holds_keep (fun b c T fr hb hc => ⟨fun h => hb (mem4.1 h), hc⟩) (fun _ _ => rfl) (hm'.holds m hm)
  ·refine ME.holds_keep hk ?_ (hs.mem.holds m (hM.mem_iff.2 (List.mem_append_right _ hm)))
   intro b hb
   exact (hdisj b (by simp only [bl, List.mem_flatMap]; exact ⟨m, hm, hb⟩)).2.2
 ·intro k hk hn
  have h1 := hs.fr.block k hk hn
  have h2 := hf.block k (Nat.lt_of_lt_of_le hk hs.fr.size) (fun h => h1.2 ((hmem k).2 (.inl h)))
  refine ⟨h2.1.trans h1.1, ?_⟩
  rw [bl_append, List.mem_append]
  rintro (h | h)
  ·exact h2.2 h
  ·exact h1.2 ((hmem k).2 (.inr h))
theorem W.callv {f : FuncId} {d : Tmp} {fo : Operand} {caps : List Value} {os : List Operand} {ats : Array TypeId} {ty : TypeId} {pos : String} {aft : Array Edge} {avs avs' : List AV} {Min Mr : List ME} {post : AV → List ME → Prop}
 (hc : FnC x.P f avs' Min post) (hfo : Ov true L fo (.lit (.func (.func f) #[] caps.toArray))) (ha : ArgsOv L os avs) (he : avs' = avs ++ caps.map .lit) (hM : List.Perm M (Min ++ Mr)) (hd : Nat.blt d x.n = true)
 (next : ∀ r M', post r M' → W x ((d, true, r) :: L) (M' ++ Mr) (wpList x.P ops Q rest)) :
 W x L M (wpList x.P ops Q (⟨some d, .call ⟨.value fo, os.toArray, ats⟩, ty, pos, aft, none⟩ :: rest)) := by
 subst he
 intro a w hs
 refine wpList_cons_want (by simp [Region.wanted]) ?_
 obtain ⟨⟨fn, hfn, hnm, hbd⟩, hcall⟩ := hc
 have hv := hfo.lit rfl hs
 have hr : (execOp a.eval ⟨some d, .call ⟨.value fo, os.toArray, ats⟩, ty, pos, aft, none⟩).run x.P w = .ok (.enter f (os.map a.eval ++ caps).toArray) w := by
  simp only [execOp, resolve, hv, Deferred.ofValue, Sem.run_bind, Sem.run_pure, Result.andThen_ok, invoke, callFunc, run_program, hfn, hnm, hbd]
  simp
 unfold Oper.wp
 rw [hr]
 obtain ⟨hF, hm0, hk0⟩ := hs.ahead hM
 have hargs := (ArgsOv.rep hs ha).append (RepT.lits (w := w) (N := bl M ++ x.F) caps)
 refine (hcall w (bl Mr ++ x.F) _ hF hm0 (RepT.keep hk0 _ _ hargs)).mono ?_
 rintro e w' ⟨v, r, M', rfl, hp, hm', hrep, hf⟩
 have hs' := hs.back hM hm' hf
 refine next r M' hp _ _ (hs'.put hd true r v (fun _ => hrep.keep ?_) (by simp))
 exact fun b c T fr hb hc => ⟨fun h => hb (mem4.1 h), hc⟩
theorem W.call {f : FuncId} {d : Tmp} {os : List Operand} {ats : Array TypeId} {ty : TypeId} {pos : String} {aft : Array Edge} {avs : List AV} {Min Mr : List ME} {post : AV → List ME → Prop}
 (hc : FnC x.P f avs Min post) (ha : ArgsOv L os avs) (hM : List.Perm M (Min ++ Mr)) (hd : Nat.blt d x.n = true)
 (next : ∀ r M', post r M' → W x ((d, true, r) :: L) (M' ++ Mr) (wpList x.P ops Q rest)) :
 W x L M (wpList x.P ops Q (⟨some d, .call ⟨.value (.func f), os.toArray, ats⟩, ty, pos, aft, none⟩ :: rest)) :=
 W.callv (caps := []) hc Ov.f ha (by simp) hM hd next
theorem W.callp {f : FuncId} {d : Tmp} {os : List Operand} {ats : Array TypeId} {ty : TypeId} {pos : String} {aft : Array Edge} {avs : List AV} {r : AV}
 (hc : FnP x.P f avs r) (ha : ArgsOv L os avs) (hd : Nat.blt d x.n = true)
 (next : W x ((d, true, r) :: L) M (wpList x.P ops Q rest)) :
 W x L M (wpList x.P ops Q (⟨some d, .call ⟨.value (.func f), os.toArray, ats⟩, ty, pos, aft, none⟩ :: rest)) :=
 W.call (Min := []) (Mr := M) hc ha (List.Perm.refl _) hd (by rintro _ _ ⟨rfl, rfl⟩; exact next)
end calls
/-! ### The end of a body -/
section ends
variable {x : Cx} {L : List (Tmp × Bool × AV)} {M M' D : List ME} {fn : Func} {post : AV → List ME → Prop}
def ResOv (P : Program) (L : List (Tmp × Bool × AV)) (M : List ME) : ResultVar → AV → Prop
 | .tmp t, av => look L t = some (true, av)
 | .cell t T, av => ∃ b U cs, look L t = some (true, .lit (.pointer (some ⟨b, 0, none⟩))) ∧ ME.box b U cs ∈ M ∧ av = .agg cs ∧ (isAgg T).run P = (fun w => .ok true w) ∧ (sizeOf T).run P = (fun w => .ok cs.length w)
def ResL (P : Program) (L : List (Tmp × Bool × AV)) (M : List ME) : List ResultVar → List AV → Prop
 | [], [] => True
 | r :: rs, a :: as_ => ResOv P L M r a ∧ ResL P L M rs as_
 | _, _ => False
theorem RepL.length {w : World} {N : List Nat} : ∀ {cs : List AV} {row : List Value}, RepL w N cs row → row.length = cs.length
 | [], row, h => by simp only [RepL] at h; subst h; rfl
 | c :: cs, row, h => by
  simp only [RepL] at h
  obtain ⟨v, vs, rfl, _, h⟩ := h
  simp [RepL.length h]
theorem cell_of {w : World} {b o : Nat} {cur : Array Value} {T : TypeId} {fr : Nat × Nat} (h : w.heap[b]? = some (.cells cur T fr)) : w.cell? ⟨b, o, none⟩ = cur[o]? := by
 simp [World.cell?, h]
theorem run_loadCellsFrom {P : Program} {w : World} {b off : Nat} {cur : Array Value} {T : TypeId} {fr : Nat × Nat} (h : w.heap[b]? = some (.cells cur T fr)) :
 ∀ (n i : Nat) (acc : Array Value), off + i + n ≤ cur.size → (loadCellsFrom ⟨b, off, none⟩ i n acc).run P w = .ok (acc ++ ((cur.toList.drop (off + i)).take n).toArray) w
 | 0, i, acc, _ => by simp [loadCellsFrom]
 | n + 1, i, acc, hl => by
  have hc : w.cell? ⟨b, off + i, none⟩ = some (cur[off + i]'(by omega)) := by rw [cell_of h]; simp
  have e : (cur.toList.drop (off + i)).take (n + 1) = cur[off + i]'(by omega) :: (cur.toList.drop (off + (i + 1))).take n := by
   have hlt : off + i < cur.toList.length := by simp; omega
   rw [List.drop_eq_getElem_cons hlt, List.take_succ_cons]
   simp [Nat.add_assoc]
  simp only [loadCellsFrom, Sem.run_bind, run_load, Addr.add_lit, hc, Result.andThen_ok]
  rw [run_loadCellsFrom h n (i + 1) _ (by omega), e]
  simp
theorem run_loadCells {P : Program} {w : World} {b off : Nat} {cur : Array Value} {T : TypeId} {fr : Nat × Nat} (h : w.heap[b]? = some (.cells cur T fr)) (n : Nat) (hl : off + n ≤ cur.size) :
 (loadCells ⟨b, off, none⟩ n).run P w = .ok ((cur.toList.drop off).take n).toArray w := by
 unfold loadCells
 rw [run_loadCellsFrom h n 0 #[] (by omega)]
 simp
def resOf (tmps : Array Value) : ResultVar → Sem Value
 | .tmp t => pure (tmps.getD t undef)
 | .cell a t => do loadVar t (← asAddr (tmps.getD a undef))
def resV : List AV → AV
 | [a] => a
 | as_ => .tup as_
theorem results_eq (fn : Func) (tmps : Array Value) : results fn tmps = (do let vs ← fn.results.mapM (resOf tmps); pure (if h : vs.size = 1 then vs[0] else .tuple vs)) := rfl
theorem ResOv.run {a : Act} {w : World} {av : AV} {rv : ResultVar} (hs : St x L M a w) (h : ResOv x.P L M rv av) :
 ∃ v, (resOf a.tmps rv).run x.P w = .ok v w ∧ Rep w (bl M ++ x.F) av v := by
 cases rv with
 | tmp t => exact ⟨_, rfl, (hs.slots t true av h).1 rfl⟩
 | cell t T =>
  obtain ⟨b, U, cs, h1, h2, rfl, h3, h4⟩ := h
  have hp := Rep.lit_iff.1 ((hs.slots t true _ h1).1 rfl)
  obtain ⟨cur, hc, hr⟩ := hs.mem.holds _ h2
  have hlen := hr.length
  refine ⟨.agg cur, ?_, rfl, ?_⟩
  ·have hld := run_loadCells (P := x.P) (off := 0) hc cs.length (by simp at hlen; omega)
   have e3 := congrFun h3 w
   have e4 := congrFun h4 w
   simp only [resOf]
   rw [hp]
   simp only [asAddr, Sem.run_bind, Sem.run_pure, Result.andThen_ok, loadVar, e3, e4, if_true, hld]
   congr 2
   simp at hlen
   rw [← hlen, List.drop_zero, List.take_of_length_le (by simp)]
  ·simpa only [RepC, Value.cells] using hr
theorem results_run {a : Act} {w : World} (hs : St x L M a w) : ∀ {rs : List ResultVar} {avs : List AV}, ResL x.P L M rs avs →
 ∃ vs, (rs.mapM (resOf a.tmps)).run x.P w = .ok vs w ∧ RepT w (bl M ++ x.F) avs vs
 | [], [], _ => ⟨[], by simp, by simp [RepT]⟩
 | r :: rs, av :: avs, h => by
  obtain ⟨v, hv, hR⟩ := ResOv.run hs h.1
  obtain ⟨vs, hvs, hRs⟩ := results_run hs h.2
  exact ⟨v :: vs, by simp [List.mapM_cons, hv, hvs], by simp only [RepT]; exact ⟨v, vs, rfl, hR, hRs⟩⟩
 | [], _ :: _, h => h.elim
 | _ :: _, [], h => h.elim
theorem RepT.res {w : World} {N : List Nat} : ∀ {avs : List AV} {vs : List Value}, RepT w N avs vs → Rep w N (resV avs) (if h : vs.length = 1 then vs[0] else .tuple vs.toArray)
 | [], vs, h => by
  have h' := h
  simp only [RepT] at h
  subst h
  exact ⟨rfl, by simp only [resV, RepC]; exact ⟨#[], by simp [Value.cells], h'⟩⟩
 | [a], vs, h => by
  simp only [RepT] at h
  obtain ⟨v, vs', rfl, h1, rfl⟩ := h
  exact h1
 | a :: b :: as_, vs, h => by
  have h' := h
  have hlen := h.length
  have e : (if h : vs.length = 1 then vs[0] else Value.tuple vs.toArray) = .tuple vs.toArray := by
   rw [dif_neg (by rw [hlen]; simp)]
  rw [e]
  exact ⟨rfl, by simp only [resV, RepC]; exact ⟨vs.toArray, rfl, by simpa using h'⟩⟩
theorem W.rets (e : Exit) (he : e = .ret ∨ e = .normal) {rs : List ResultVar} {avs : List AV} {r : AV} (hres : fn.results = rs.toArray) (hr : ResL x.P L M rs avs) (hr1 : r = resV avs)
 (hM : List.Perm M (M' ++ D)) (hp : post r M') : W x L M (bodyPost x.P fn (RetR x.w0 x.N0 x.F post) e) := by
 intro a w hs
 obtain ⟨vs, hvs, hRs⟩ := results_run hs hr
 have hrun : (results fn a.tmps).run x.P w = .ok (if h : vs.length = 1 then vs[0] else .tuple vs.toArray) w := by
  rw [results_eq, hres, List.mapM_toArray]
  simp [hvs]
 obtain ⟨hm, hk, hsub⟩ := hs.mem.sub hM
 have hpost : RetR x.w0 x.N0 x.F post (.returned (if h : vs.length = 1 then vs[0] else .tuple vs.toArray)) w := by
  refine ⟨_, r, M', rfl, hp, hm, Rep.keep hk ?_, hs.fr.sub hsub⟩
  subst hr1
  exact RepT.res hRs
 rcases he with rfl | rfl
 ·exact ⟨hs.defers, _, hrun, hpost⟩
 ·exact ⟨hs.defers, _, hrun, hpost⟩
theorem W.retn {rs : List ResultVar} {avs : List AV} {r : AV} (hres : fn.results = rs.toArray) (hr : ResL x.P L M rs avs) (hr1 : r = resV avs)
 (hM : List.Perm M (M' ++ D)) (hp : post r M') : W x L M (bodyPost x.P fn (RetR x.w0 x.N0 x.F post) .ret) := W.rets .ret (.inl rfl) hres hr hr1 hM hp
theorem W.endn {rs : List ResultVar} {avs : List AV} {r : AV} (hres : fn.results = rs.toArray) (hr : ResL x.P L M rs avs) (hr1 : r = resV avs)
 (hM : List.Perm M (M' ++ D)) (hp : post r M') : W x L M (bodyPost x.P fn (RetR x.w0 x.N0 x.F post) .normal) := W.rets .normal (.inr rfl) hres hr hr1 hM hp
end ends
end Go.Vl
end
section
namespace Go.Vl
abbrev AV.str (l : List UInt8) : AV := .lit (.string ⟨l.toArray⟩)
abbrev AV.int (n : Int) : AV := .lit (.int .i64 n)
abbrev AV.bool (b : Bool) : AV := .lit (.bool b)
abbrev AV.u8 (b : UInt8) : AV := .lit (.int .u8 (b.toNat : Int))
def Ty (P : Program) (T : TypeId) (k bytes : Nat) (z : Value) : Prop := ∃ i, P.info? T = some i ∧ i.size = k ∧ i.bytes = bytes ∧ i.zero = some z
theorem Ty.of {P : Program} {T : TypeId} {k bytes : Nat} {z : Value} (h : (P.info? T).map (fun i => (i.size, i.bytes, i.zero)) = some (k, bytes, some z)) : Ty P T k bytes z := by
 cases e : P.info? T with
 | none => rw [e] at h; cases h
 | some i =>
  rw [e] at h
  simp only [Option.map_some, Option.some.injEq, Prod.mk.injEq] at h
  exact ⟨i, e, h.1, h.2.1, h.2.2⟩
theorem Ty.size {P : Program} {T : TypeId} {k bytes : Nat} {z : Value} (h : Ty P T k bytes z) (w : World) : (sizeOf T).run P w = .ok k w := by
 obtain ⟨i, h1, h2, _, _⟩ := h
 simp [sizeOf, typeInfo, h1, h2]
theorem Ty.zero {P : Program} {T : TypeId} {k bytes : Nat} {z : Value} (h : Ty P T k bytes z) (w : World) : (zeroValue T).run P w = .ok z w := by
 obtain ⟨i, h1, _, _, h2⟩ := h
 simp [zeroValue, typeInfo, h1, h2]
def IsAgg (P : Program) (T : TypeId) (b : Bool) : Prop := ∃ d, P.underlying T = some d ∧ b = (match d with | .struct _ => true | .array _ _ => true | _ => false)
theorem IsAgg.run {P : Program} {T : TypeId} {b : Bool} (h : IsAgg P T b) (w : World) : (isAgg T).run P w = .ok b w := by
 obtain ⟨d, h1, rfl⟩ := h
 unfold isAgg
 simp only [Sem.run_bind, run_underlying h1, Result.andThen_ok]
 cases d <;> rfl
def FieldAt (P : Program) (S : TypeId) (f off size : Nat) (agg : Bool) : Prop :=
 ∃ fields fld, P.underlying S = some (.struct fields) ∧ fields[f]? = some fld ∧ fld.offset = off ∧ (∀ w, (sizeOf fld.type).run P w = .ok size w) ∧ IsAgg P fld.type agg ∧ size ≠ 0
section ev
variable {x : Cx} {g : Bool} {L : List (Tmp × Bool × AV)} {M : List ME} {ty : TypeId}
theorem Ev.move {o : Operand} {av : AV} (h : Ov g L o av) : Ev x g L M (.move o) ty av := fun a w hs hg => ⟨_, rfl, h.rep hg hs⟩
theorem Ev.assign {o : Operand} {av : AV} (h : Ov g L o av) : Ev x g L M (.assign o) ty av := fun a w hs hg => ⟨_, rfl, h.rep hg hs⟩
theorem Ev.pure {op : Op} {v : Value} (h : ∀ a w, St x L M a w → g = true → (execOp a.eval ⟨none, op, ty, "", #[], none⟩).run x.P w = .ok (.value v) w) : Ev x g L M op ty (.lit v) :=
 fun a w hs hg => ⟨v, h a w hs hg, Rep.lit v⟩
theorem Ev.and {c t : Operand} {p q : Bool} (h1 : Ov g L c (.lit (.bool p))) (h2 : ∃ u b, t = .tmp u ∧ look L u = some (b, .lit (.bool q)) ∧ (g = true → p = true → b = true)) :
 Ev x g L M (.pick c t (.const (.bool false))) ty (.lit (.bool (p && q))) := Ev.pure fun a w hs hg => by
 have e1 := h1.lit hg hs
 obtain ⟨u, b, rfl, hl, hb⟩ := h2
 cases p with
 | false =>
  simp only [execOp, e1, asBool, Sem.run_bind, Sem.run_pure, Result.andThen_ok]
  rfl
 | true =>
  have e2 : a.eval (.tmp u) = .bool q := Rep.lit_iff.1 ((hs.slots u b _ hl).1 (hb hg rfl))
  simp [execOp, e1, asBool, e2]
theorem Ev.or {c t : Operand} {p q : Bool} (h1 : Ov g L c (.lit (.bool p))) (h2 : ∃ u b, t = .tmp u ∧ look L u = some (b, .lit (.bool q)) ∧ (g = true → p = false → b = true)) :
 Ev x g L M (.pick c (.const (.bool true)) t) ty (.lit (.bool (p || q))) := Ev.pure fun a w hs hg => by
 have e1 := h1.lit hg hs
 obtain ⟨u, b, rfl, hl, hb⟩ := h2
 cases p with
 | true =>
  simp only [execOp, e1, asBool, Sem.run_bind, Sem.run_pure, Result.andThen_ok]
  rfl
 | false =>
  have e2 : a.eval (.tmp u) = .bool q := Rep.lit_iff.1 ((hs.slots u b _ hl).1 (hb hg rfl))
  simp [execOp, e1, asBool, e2]
theorem W.mv {ops : Array Oper} {Q : Exit → Act → World → Prop} {rest : List Oper} {d t : Tmp} {pos : String} {aft : Array Edge} {av : AV} (h : look L t = some (true, av)) (hd : Nat.blt d x.n = true) (next : W x ((d, true, av) :: L) M (wpList x.P ops Q rest)) : W x L M (wpList x.P ops Q (⟨some d, .move (.tmp t), ty, pos, aft, none⟩ :: rest)) := W.q (.move (.t h)) hd next
theorem W.asg {ops : Array Oper} {Q : Exit → Act → World → Prop} {rest : List Oper} {d t : Tmp} {pos : String} {aft : Array Edge} {av : AV} (h : look L t = some (true, av)) (hd : Nat.blt d x.n = true) (next : W x ((d, true, av) :: L) M (wpList x.P ops Q rest)) : W x L M (wpList x.P ops Q (⟨some d, .assign (.tmp t), ty, pos, aft, none⟩ :: rest)) := W.q (.assign (.t h)) hd next
theorem W.isb {R : Act → World → Prop} (t : Tmp) (b' : Bool) {g b : Bool} (h : look L t = some (g, .lit (.bool b))) (e : b = b') (next : W x ((t, g, .lit (.bool b')) :: L) M R) : W x L M R := W.is h (by rw [e]) next
/-! integers -/
section ints
variable {T T' : TypeId} {o1 o2 : Operand} {k : IntKind} {m n : Int}
theorem run_bin {op : BinOp} {r : Value} {a : Act} {w : World} (e1 : a.eval o1 = .int k m) (e2 : a.eval o2 = .int k n) (hr : (binOp op T (.int k m) (.int k n)).run x.P w = .ok r w) :
 (execOp a.eval ⟨none, .binOp op T o1 o2 T', ty, "", #[], none⟩).run x.P w = .ok (.value r) w := by
 simp only [execOp, e1, e2, eqGuard_at_int, Sem.run_bind, Sem.run_pure, Result.andThen_ok, hr]
theorem Ev.arith {op : BinOp} {r : Value} (h1 : Ov g L o1 (.lit (.int k m))) (h2 : Ov g L o2 (.lit (.int k n))) (hr : ∀ w, (binOp op T (.int k m) (.int k n)).run x.P w = .ok r w) :
 Ev x g L M (.binOp op T o1 o2 T') ty (.lit r) := Ev.pure fun a w hs hg => run_bin (h1.lit hg hs) (h2.lit hg hs) (hr w)
theorem Ev.add (h1 : Ov g L o1 (.lit (.int .i64 m))) (h2 : Ov g L o2 (.lit (.int .i64 n))) (hb : g = true → -9223372036854775808 ≤ m + n ∧ m + n ≤ 9223372036854775807) :
 Ev x g L M (.binOp .add T o1 o2 T') ty (.lit (.int .i64 (m + n))) := Ev.pure fun a w hs hg => run_bin (h1.lit hg hs) (h2.lit hg hs) (by
  simp only [binOp_add, Op.intArith, Sem.run_pure, IntWalk.i64_in _ (hb hg)])
theorem Ev.sub (h1 : Ov g L o1 (.lit (.int .i64 m))) (h2 : Ov g L o2 (.lit (.int .i64 n))) (hb : g = true → -9223372036854775808 ≤ m - n ∧ m - n ≤ 9223372036854775807) :
 Ev x g L M (.binOp .sub T o1 o2 T') ty (.lit (.int .i64 (m - n))) := Ev.pure fun a w hs hg => run_bin (h1.lit hg hs) (h2.lit hg hs) (by
  simp only [binOp_sub, Op.intArith, Sem.run_pure, IntWalk.i64_in _ (hb hg)])
theorem Ev.addw (h1 : Ov g L o1 (.lit (.int k m))) (h2 : Ov g L o2 (.lit (.int k n))) : Ev x g L M (.binOp .add T o1 o2 T') ty (.lit (.int k (k.wrap (m + n)))) :=
 Ev.arith h1 h2 fun w => by simp only [binOp_add, Op.intArith, Sem.run_pure]
theorem Ev.subw (h1 : Ov g L o1 (.lit (.int k m))) (h2 : Ov g L o2 (.lit (.int k n))) : Ev x g L M (.binOp .sub T o1 o2 T') ty (.lit (.int k (k.wrap (m - n)))) :=
 Ev.arith h1 h2 fun w => by simp only [binOp_sub, Op.intArith, Sem.run_pure]
theorem Ev.rem (h1 : Ov g L o1 (.lit (.int k m))) (h2 : Ov g L o2 (.lit (.int k n))) (hn : g = true → n ≠ 0) : Ev x g L M (.binOp .rem T o1 o2 T') ty (.lit (.int k (m.tmod n))) :=
 Ev.pure fun a w hs hg => run_bin (h1.lit hg hs) (h2.lit hg hs) (by simp only [binOp_rem, Op.intDiv, if_neg (hn hg), Sem.run_pure])
theorem Ev.eqi (h1 : Ov g L o1 (.lit (.int k m))) (h2 : Ov g L o2 (.lit (.int k n))) : Ev x g L M (.binOp .eql T o1 o2 T') ty (.lit (.bool (m == n))) :=
 Ev.arith h1 h2 fun w => by simp only [binOp_eql, Sem.run_pure]
theorem Ev.nei (h1 : Ov g L o1 (.lit (.int k m))) (h2 : Ov g L o2 (.lit (.int k n))) : Ev x g L M (.binOp .neq T o1 o2 T') ty (.lit (.bool (m != n))) :=
 Ev.arith h1 h2 fun w => by simp only [binOp_neq, Sem.run_pure]
theorem Ev.lti (h1 : Ov g L o1 (.lit (.int k m))) (h2 : Ov g L o2 (.lit (.int k n))) : Ev x g L M (.binOp .lss T o1 o2 T') ty (.lit (.bool (decide (m < n)))) :=
 Ev.arith h1 h2 fun w => by simp only [binOp_lss, Sem.run_pure]
theorem Ev.lei (h1 : Ov g L o1 (.lit (.int k m))) (h2 : Ov g L o2 (.lit (.int k n))) : Ev x g L M (.binOp .leq T o1 o2 T') ty (.lit (.bool (decide (m ≤ n)))) :=
 Ev.arith h1 h2 fun w => by simp only [binOp_leq, Sem.run_pure]
theorem Ev.gti (h1 : Ov g L o1 (.lit (.int k m))) (h2 : Ov g L o2 (.lit (.int k n))) : Ev x g L M (.binOp .gtr T o1 o2 T') ty (.lit (.bool (decide (n < m)))) :=
 Ev.arith h1 h2 fun w => by simp only [binOp_gtr, Sem.run_pure]
theorem Ev.gei (h1 : Ov g L o1 (.lit (.int k m))) (h2 : Ov g L o2 (.lit (.int k n))) : Ev x g L M (.binOp .geq T o1 o2 T') ty (.lit (.bool (decide (n ≤ m)))) :=
 Ev.arith h1 h2 fun w => by simp only [binOp_geq, Sem.run_pure]
theorem Ev.conv (h1 : Ov g L o1 (.lit (.int k n))) (hs : ∃ d, x.P.underlying T = some d) {k' : IntKind} (hd : x.P.underlying T' = some (.int k')) : Ev x g L M (.convert T T' o1) ty (.lit (.int k' (k'.wrap n))) :=
 Ev.pure fun a w hst hg => by
  obtain ⟨d, hs⟩ := hs
  simp [execOp, h1.lit hg hst, convert, run_underlying hs, run_underlying hd, Conv.intToInt]
theorem Ev.conv64 (h1 : Ov g L o1 (.lit (.int k n))) (hs : ∃ d, x.P.underlying T = some d) (hd : x.P.underlying T' = some (.int .i64)) (hb : g = true → -9223372036854775808 ≤ n ∧ n ≤ 9223372036854775807) : Ev x g L M (.convert T T' o1) ty (.lit (.int .i64 n)) :=
 Ev.pure fun a w hst hg => by
  obtain ⟨d, hs⟩ := hs
  simp [execOp, h1.lit hg hst, convert, run_underlying hs, run_underlying hd, Conv.intToInt, IntWalk.i64_in _ (hb hg)]
theorem Ev.not {p : Bool} (h1 : Ov g L o1 (.lit (.bool p))) : Ev x g L M (.unOp .not T o1) ty (.lit (.bool (!p))) :=
 Ev.pure fun a w hst hg => by simp [execOp, h1.lit hg hst, Op.unary]
theorem run_equalIn_bool {P : Program} (d : Nat) {T : TypeId} (hT : P.underlying T = some .bool) (p q : Bool) (w : World) : (Op.equalIn (d + 1) T (.bool p) (.bool q)).run P w = .ok (p == q) w := by
 simp [Op.equalIn, run_underlying hT]
theorem run_equal_bool {P : Program} {T : TypeId} (hT : P.underlying T = some .bool) (p q : Bool) (w : World) : (Op.equal T (.bool p) (.bool q)).run P w = .ok (p == q) w := run_equalIn_bool 9999 hT p q w
theorem binOp_eqb (T : TypeId) (p q : Bool) : binOp .eql T (.bool p) (.bool q) = (do pure (.bool (← Op.equal T (.bool p) (.bool q)))) := rfl
theorem Ev.eqb {p q : Bool} (h1 : Ov g L o1 (.lit (.bool p))) (h2 : Ov g L o2 (.lit (.bool q))) (hT : x.P.underlying T = some .bool) : Ev x g L M (.binOp .eql T o1 o2 T') ty (.lit (.bool (p == q))) :=
 Ev.pure fun a w hst hg => by
  simp only [execOp, h1.lit hg hst, h2.lit hg hst, eqGuard_at_bool, binOp_eqb, Sem.run_bind, Sem.run_pure, Result.andThen_ok, run_equal_bool hT]
end ints
/-! strings -/
section strs
variable {T T' : TypeId} {o1 o2 : Operand} {l m : List UInt8}
theorem size_mk (l : List UInt8) : (ByteArray.mk l.toArray).size = l.length := by simp [ByteArray.size]
theorem Ev.lens (h1 : Ov g L o1 (.lit (.string ⟨l.toArray⟩))) (hT : x.P.underlying T = some .string) : Ev x g L M (.call ⟨.builtin .len, #[o1], #[T]⟩) ty (.lit (.int .i64 (l.length : Int))) :=
 Ev.pure fun a w hst hg => by
  simp [execOp, resolve, invoke, builtin, h1.lit hg hst, Builtin.len_, run_underlying hT, goInt, size_mk]
theorem run_str {op : BinOp} {r : Value} {a : Act} {w : World} {s t : ByteArray} (e1 : a.eval o1 = .string s) (e2 : a.eval o2 = .string t) (hr : (Op.stringOp op s t).run x.P w = .ok r w) (ho : ∀ s t, binOp op T (.string s) (.string t) = Op.stringOp op s t) :
 (execOp a.eval ⟨none, .binOp op T o1 o2 T', ty, "", #[], none⟩).run x.P w = .ok (.value r) w := by
 simp only [execOp, e1, e2, eqGuard_at_string, Sem.run_bind, Sem.run_pure, Result.andThen_ok, ho, hr]
theorem Ev.eqs (h1 : Ov g L o1 (.lit (.string ⟨l.toArray⟩))) (h2 : Ov g L o2 (.lit (.string ⟨m.toArray⟩))) : Ev x g L M (.binOp .eql T o1 o2 T') ty (.lit (.bool (l == m))) :=
 Ev.pure fun a w hst hg => run_str (h1.lit hg hst) (h2.lit hg hst) (by simp [Op.stringOp, ByteArray.toList_mk]) (fun _ _ => rfl)
theorem Ev.nes (h1 : Ov g L o1 (.lit (.string ⟨l.toArray⟩))) (h2 : Ov g L o2 (.lit (.string ⟨m.toArray⟩))) : Ev x g L M (.binOp .neq T o1 o2 T') ty (.lit (.bool (!(l == m)))) :=
 Ev.pure fun a w hst hg => run_str (h1.lit hg hst) (h2.lit hg hst) (by simp [Op.stringOp, ByteArray.toList_mk]) (fun _ _ => rfl)
theorem Ev.cat (h1 : Ov g L o1 (.lit (.string ⟨l.toArray⟩))) (h2 : Ov g L o2 (.lit (.string ⟨m.toArray⟩))) (hb : g = true → l.length + m.length ≤ 9223372036854775807) : Ev x g L M (.binOp .add T o1 o2 T') ty (.lit (.string ⟨(l ++ m).toArray⟩)) :=
 Ev.pure fun a w hst hg => run_str (h1.lit hg hst) (h2.lit hg hst) (by
  have h := hb hg
  have hn : ¬ ((((ByteArray.mk l.toArray).size + (ByteArray.mk m.toArray).size : Nat) : Int) > IntKind.i64.max) := by rw [size_mk, size_mk, IntKind.max_i64]; omega
  have e : (ByteArray.mk l.toArray) ++ (ByteArray.mk m.toArray) = ByteArray.mk (l ++ m).toArray := by
   apply ByteArray.ext
   simp
  simp only [Op.stringOp, if_neg hn, Sem.run_pure, e]) (fun _ _ => rfl)
theorem get_mk (l : List UInt8) (i : Nat) : (ByteArray.mk l.toArray)[i]? = l[i]? := by
 rcases Nat.lt_or_ge i l.length with h | h
 ·rw [List.getElem?_eq_getElem h, getElem?_pos _ _ (by rw [size_mk]; exact h)]; rfl
 ·rw [List.getElem?_eq_none h, getElem?_neg _ _ (by rw [size_mk]; omega)]
theorem Ev.ats {i : Int} {b : UInt8} {k : IntKind} (h1 : Ov g L o1 (.lit (.string ⟨l.toArray⟩))) (h2 : Ov g L o2 (.lit (.int k i))) (hT : x.P.underlying T = some .string) (hb : g = true → 0 ≤ i ∧ l[i.toNat]? = some b) :
 Ev x g L M (.index T o1 o2) ty (.lit (.int .u8 (b.toNat : Int))) :=
 Ev.pure fun a w hst hg => by
  obtain ⟨h0, hi⟩ := hb hg
  simp [execOp, h1.lit hg hst, h2.lit hg hst, Instr.index, asIntOf, run_underlying hT, h0, get_mk, hi]
theorem Ev.ats' {i : Int} {k : IntKind} (h1 : Ov g L o1 (.lit (.string ⟨l.toArray⟩))) (h2 : Ov g L o2 (.lit (.int k i))) (hT : x.P.underlying T = some .string) (hb : g = true → 0 ≤ i ∧ i < l.length) :
 Ev x g L M (.index T o1 o2) ty (.lit (.int .u8 ((l.getD i.toNat 0).toNat : Int))) := by
 cases hg : g with
 | false => exact fun a w hst h => by cases h
 | true =>
  subst hg
  obtain ⟨h0, hi⟩ := hb rfl
  refine Ev.ats h1 h2 hT (fun _ => ⟨h0, ?_⟩)
  rw [List.getD_eq_getElem?_getD, List.getElem?_eq_getElem (by omega)]
  rfl
theorem extract_mk (l : List UInt8) (a b : Nat) : (ByteArray.mk l.toArray).extract a b = ⟨((l.take b).drop a).toArray⟩ := by
 apply ByteArray.ext
 apply Array.toList_inj.1
 rw [Lib.extract_data, List.drop_take]
def BndOv (g : Bool) (L : List (Tmp × Bool × AV)) (dflt : Int) : Option Operand → Int → Prop
 | none, n => n = dflt
 | some o, n => Ov g L o (.lit (.int .i64 n))
theorem run_bounds {isS : Bool} {len cap : Nat} {lo hi : Option Operand} {l h : Int} {a : Act} {w : World} (hst : St x L M a w) (hg : g = true) (hlo : BndOv g L 0 lo l) (hhi : BndOv g L len hi h) (h0 : 0 ≤ l) (h1 : l ≤ h) (h2 : h ≤ len) (h3 : len ≤ cap) :
 (Instr.sliceBounds isS len cap (lo.map a.eval) (hi.map a.eval) none).run x.P w = .ok (l.toNat, h.toNat, cap) w := by
 have hb : ∀ (n : Int) (y : Nat) c, 0 ≤ n → n ≤ y → (Instr.sliceBound (.int .i64 n) y c).run x.P w = .ok n.toNat w := fun n y c hn hy => by
  simp [Instr.sliceBound, asIntOf, hn, hy]
 unfold Instr.sliceBounds
 cases lo with
 | none =>
  simp only [BndOv] at hlo
  subst hlo
  cases hi with
  | none =>
   simp only [BndOv] at hhi
   subst hhi
   simp
  | some o =>
   have e := hhi.lit hg hst
   simp only [Option.map_none, Option.map_some, e, Sem.run_bind, Sem.run_pure, Result.andThen_ok]
   rw [hb _ _ _ (by omega) (by omega)]
   simp
 | some o' =>
  have e' := hlo.lit hg hst
  cases hi with
  | none =>
   simp only [BndOv] at hhi
   subst hhi
   simp only [Option.map_none, Option.map_some, e', Sem.run_bind, Sem.run_pure, Result.andThen_ok]
   rw [hb _ _ _ (by omega) (by omega)]
   simp
  | some o =>
   have e := hhi.lit hg hst
   simp only [Option.map_some, e, e', Sem.run_bind, Sem.run_pure, Result.andThen_ok]
   rw [hb _ _ _ (by omega) (by omega)]
   simp only [Result.andThen_ok]
   rw [hb _ _ _ (by omega) (by omega)]
   simp
theorem Ev.subs {lo hi : Option Operand} {i j : Int} (h1 : Ov g L o1 (.lit (.string ⟨l.toArray⟩))) (hT : x.P.underlying T = some .string) (hlo : BndOv g L 0 lo i) (hhi : BndOv g L (l.length : Int) hi j) (hb : g = true → 0 ≤ i ∧ i ≤ j ∧ j ≤ l.length) :
 Ev x g L M (.slice T o1 lo hi none) ty (.lit (.string ⟨((l.take j.toNat).drop i.toNat).toArray⟩)) :=
 Ev.pure fun a w hst hg => by
  obtain ⟨b1, b2, b3⟩ := hb hg
  have hr := run_bounds (isS := false) (cap := l.length) hst hg hlo hhi b1 b2 b3 (Nat.le_refl _)
  have e : (Instr.sliceAt T (.string ⟨l.toArray⟩) (lo.map a.eval) (hi.map a.eval) none) = Instr.sliceAt T (.string ⟨l.toArray⟩) (lo.map a.eval) (hi.map a.eval) none := rfl
  simp only [execOp, h1.lit hg hst, Option.map_none, Instr.sliceAt, Instr.slice, Sem.run_bind, run_underlying hT, Result.andThen_ok, size_mk, hr, Option.isSome_none, Bool.false_eq_true, if_false, Sem.run_pure, extract_mk]
end strs
/-! tuples, structs, slices -/
section aggs
variable {T T' : TypeId} {o1 o2 : Operand}
theorem RepC.cell_of_sh {w : World} {N : List Nat} {c : AV} {v : Value} (hc : c.sh = 0) (hv : shV v = 0) (h : RepC w N c [v]) : Rep w N c v := by
 refine ⟨by rw [hc, hv], ?_⟩
 have : v.cells.toList = [v] := by cases v <;> first | rfl | simp [shV] at hv
 rw [this]; exact h
theorem cells_of_sh {v : Value} (hv : shV v = 0) : v.cells.toList = [v] := by cases v <;> first | rfl | simp [shV] at hv
theorem RepT.get' {w : World} {N : List Nat} {avs : List AV} {vs : Array Value} {i : Nat} {av : AV} (h : RepT w N avs vs.toList) (hi : avs[i]? = some av) : ∃ v, vs[i]? = some v ∧ Rep w N av v := by
 obtain ⟨v, h1, h2⟩ := RepT.get h hi
 exact ⟨v, by simpa using h1, h2⟩
theorem Rep.tup_inv {w : World} {N : List Nat} {avs : List AV} {v : Value} (h : Rep w N (.tup avs) v) : ∃ us, v = .tuple us ∧ RepT w N avs us.toList := by
 obtain ⟨h1, h2⟩ := h
 simp only [AV.sh, RepC] at h1 h2
 obtain ⟨us, e, ht⟩ := h2
 cases v <;> simp [shV] at h1
 simp [Value.cells] at e
 subst e
 exact ⟨_, rfl, ht⟩
theorem Rep.agg_inv {w : World} {N : List Nat} {cs : List AV} {v : Value} (h : Rep w N (.agg cs) v) : ∃ us, v = .agg us ∧ RepL w N cs us.toList := by
 obtain ⟨h1, h2⟩ := h
 simp only [AV.sh, RepC] at h1 h2
 cases v <;> simp [shV] at h1
 exact ⟨_, rfl, h2⟩
theorem Rep.sl_inv {w : World} {N : List Nat} {k : Nat} {es : List AV} {v : Value} (h : Rep w N (.sl k es) v) : ∃ a cap, v = .slice a es.length cap ∧ es.length ≤ cap ∧ cap ≤ maxLen ∧
 (es = [] ∨ ∃ b off cur T fr, a = some ⟨b, off, none⟩ ∧ b ∉ N ∧ w.heap[b]? = some (.cells cur T fr) ∧ RepE w N k es (cur.toList.drop off)) := by
 obtain ⟨h1, h2⟩ := h
 simp only [AV.sh, RepC] at h1 h2
 obtain ⟨a, cap, e, h3⟩ := h2
 rw [cells_of_sh h1.symm] at e
 cases e
 exact ⟨a, cap, rfl, h3⟩
theorem Rep.eptr_inv {w : World} {N : List Nat} {cs : List AV} {v : Value} (h : Rep w N (.eptr cs) v) : ∃ b off cur T fr, v = .pointer (some ⟨b, off, none⟩) ∧ b ∉ N ∧ w.heap[b]? = some (.cells cur T fr) ∧
 RepL w N cs ((cur.toList.drop off).take cs.length) := by
 obtain ⟨h1, h2⟩ := h
 simp only [AV.sh, RepC] at h1 h2
 obtain ⟨b, off, cur, T, fr, e, h3⟩ := h2
 rw [cells_of_sh h1.symm] at e
 cases e
 exact ⟨b, off, cur, T, fr, rfl, h3⟩
theorem Rep.aptr_inv {w : World} {N : List Nat} {u : Value} {j : Nat} {v : Value} (h : Rep w N (.aptr u j) v) : ∃ g off n cap, u = .slice (some ⟨g, off, none⟩) n cap ∧ v = .pointer (some ⟨g, off + j, none⟩) := by
 obtain ⟨h1, h2⟩ := h
 simp only [AV.sh, RepC] at h1 h2
 obtain ⟨g, off, n, cap, rfl, e⟩ := h2
 rw [cells_of_sh h1.symm] at e
 cases e
 exact ⟨g, off, n, cap, rfl, rfl⟩
theorem Rep.slI {w : World} {N : List Nat} {k : Nat} {es : List AV} {a : Option Addr} {cap : Nat} (h1 : es.length ≤ cap) (h2 : cap ≤ maxLen)
 (h : es = [] ∨ ∃ b off cur T fr, a = some ⟨b, off, none⟩ ∧ b ∉ N ∧ w.heap[b]? = some (.cells cur T fr) ∧ RepE w N k es (cur.toList.drop off)) : Rep w N (.sl k es) (.slice a es.length cap) :=
 ⟨rfl, by simp only [RepC]; exact ⟨a, cap, rfl, h1, h2, h⟩⟩
theorem Rep.eptrI {w : World} {N : List Nat} {cs : List AV} {b off : Nat} {cur : Array Value} {T : TypeId} {fr : Nat × Nat} (hb : b ∉ N) (hc : w.heap[b]? = some (.cells cur T fr)) (hl : RepL w N cs ((cur.toList.drop off).take cs.length)) :
 Rep w N (.eptr cs) (.pointer (some ⟨b, off, none⟩)) := ⟨rfl, by simp only [RepC]; exact ⟨b, off, cur, T, fr, rfl, hb, hc, hl⟩⟩
theorem Ev.extract {i : Nat} {avs : List AV} {av : AV} (h1 : Ov g L o1 (.tup avs)) (hi : avs[i]? = some av) : Ev x g L M (.extract o1 i) ty av := fun a w hs hg => by
 obtain ⟨us, e, ht⟩ := (h1.rep hg hs).tup_inv
 obtain ⟨v, hv, hr⟩ := RepT.get' ht hi
 exact ⟨v, by simp [execOp, e, Instr.extract, hv], hr⟩
def LitsOv (g : Bool) (L : List (Tmp × Bool × AV)) : List Operand → List Value → Prop
 | [], [] => True
 | o :: os, v :: vs => Ov g L o (.lit v) ∧ LitsOv g L os vs
 | _, _ => False
theorem LitsOv.eval {a : Act} {w : World} (hs : St x L M a w) (hg : g = true) : ∀ {os : List Operand} {vs : List Value}, LitsOv g L os vs → os.map a.eval = vs
 | [], [], _ => rfl
 | o :: os, v :: vs, h => by simp [h.1.lit hg hs, LitsOv.eval hs hg h.2]
 | [], _ :: _, h => h.elim
 | _ :: _, [], h => h.elim
theorem Ev.mkfn {fn : Fn} {caps : List Operand} {vs : List Value} (h : LitsOv g L caps vs) : Ev x g L M (.makeFunc fn #[] caps.toArray) ty (.lit (.func fn #[] vs.toArray)) := Ev.pure fun a w hs hg => by
 have := h.eval hs hg
 simp [execOp, Instr.makeFunc, ← this]
theorem Ev.lensl {k E : Nat} {es : List AV} (h1 : Ov g L o1 (.sl k es)) (hT : x.P.underlying T = some (.slice E)) : Ev x g L M (.call ⟨.builtin .len, #[o1], #[T]⟩) ty (.lit (.int .i64 (es.length : Int))) := fun a w hs hg => by
 obtain ⟨ad, cap, e, _⟩ := (h1.rep hg hs).sl_inv
 exact ⟨_, by simp [execOp, resolve, invoke, builtin, e, Builtin.len_, run_underlying hT, goInt], Rep.lit _⟩
theorem Ev.lenar {i : Nat} {v : Value} {U k E : Nat} {es : List AV} (h1 : Ov g L o1 (.lit v)) (hM : M[i]? = some (.arr v U k es)) (hT : x.P.underlying T = some (.slice E)) : Ev x g L M (.call ⟨.builtin .len, #[o1], #[T]⟩) ty (.lit (.int .i64 (es.length : Int))) := fun a w hs hg => by
 obtain ⟨ad, cap, e, _⟩ := hs.mem.holds _ (List.mem_of_getElem? hM)
 have e1 := h1.lit hg hs
 rw [e] at e1
 exact ⟨_, by simp [execOp, resolve, invoke, builtin, e1, Builtin.len_, run_underlying hT, goInt], Rep.lit _⟩
theorem RepE.drop {w : World} {N : List Nat} {k : Nat} : ∀ {es : List AV} {row : List Value} (n : Nat), RepE w N k es row → n ≤ es.length → RepE w N k (es.drop n) (row.drop (n * k))
 | es, row, 0, h, _ => by simpa using h
 | [], row, n + 1, h, hn => by simp at hn
 | e :: es, row, n + 1, h, hn => by
  simp only [RepE] at h
  have := RepE.drop n h.2.2 (by simpa using hn)
  rw [List.drop_drop] at this
  simpa [Nat.add_mul, Nat.add_comm] using this
theorem RepE.take {w : World} {N : List Nat} {k : Nat} : ∀ {es : List AV} {row : List Value} (n : Nat), RepE w N k es row → RepE w N k (es.take n) row
 | es, row, 0, h => by simp [RepE]
 | [], row, n + 1, h => by simp [RepE]
 | e :: es, row, n + 1, h => by
  simp only [RepE, List.take_succ_cons] at h ⊢
  exact ⟨h.1, h.2.1, RepE.take n h.2.2⟩
theorem RepE.len {w : World} {N : List Nat} {k : Nat} : ∀ {es : List AV} {row : List Value}, RepE w N k es row → es.length * k ≤ row.length
 | [], row, h => by simp
 | e :: es, row, h => by
  simp only [RepE] at h
  have := RepE.len h.2.2
  simp at this
  simp [Nat.add_mul]; omega
theorem RepE.get {w : World} {N : List Nat} {k : Nat} {es : List AV} {row : List Value} {i : Nat} {e : AV} (h : RepE w N k es row) (hi : es[i]? = some e) : k ≤ (row.drop (i * k)).length ∧ RepC w N e ((row.drop (i * k)).take k) := by
 have hlt : i < es.length := by
  rcases Nat.lt_or_ge i es.length with h' | h'
  ·exact h'
  ·rw [List.getElem?_eq_none h'] at hi; cases hi
 have hd := RepE.drop i h (by omega)
 rw [List.drop_eq_getElem_cons hlt] at hd
 simp only [RepE] at hd
 rw [List.getElem?_eq_getElem hlt] at hi
 cases hi
 exact ⟨hd.1, hd.2.1⟩
def AV.okc : AV → Bool
 | .lit u => shV u == 0
 | .tup _ => false
 | _ => true
theorem RepC.cells {w : World} {N : List Nat} {e : AV} {row : List Value} (ho : e.okc = true) (h : RepC w N e row) : RepL w N e.cells row := by
 have hone : ∀ {e : AV}, e.sh = 0 → e.cells = [e] → (∃ v, row = [v] ∧ shV v = 0) → RepC w N e row → RepL w N e.cells row := by
  intro e h1 h2 h3 h4
  obtain ⟨v, rfl, hv⟩ := h3
  rw [h2]
  simp only [RepL]
  exact ⟨v, [], rfl, ⟨h1, hv, h4⟩, rfl⟩
 cases e with
 | lit u =>
  simp only [AV.okc, beq_iff_eq] at ho
  refine hone (by simpa [AV.sh] using ho) ?_ ?_ h
  ·cases u <;> first | rfl | simp [shV] at ho
  ·simp only [RepC] at h; rw [h, cells_of_sh ho]; exact ⟨u, rfl, ho⟩
 | agg cs => simpa only [RepC, AV.cells] using h
 | tup vs => simp [AV.okc] at ho
 | sl k es => exact hone rfl rfl (by simp only [RepC] at h; obtain ⟨a, cap, e, _⟩ := h; exact ⟨_, e, rfl⟩) h
 | eptr cs => exact hone rfl rfl (by simp only [RepC] at h; obtain ⟨b, off, cur, T, fr, e, _⟩ := h; exact ⟨_, e, rfl⟩) h
 | aptr v j => exact hone rfl rfl (by simp only [RepC] at h; obtain ⟨g, off, n, cap, _, e⟩ := h; exact ⟨_, e, rfl⟩) h
theorem Rep.toL {w : World} {N : List Nat} {e : AV} {v : Value} (ho : e.okc = true) (h : Rep w N e v) : RepL w N e.cells v.cells.toList := RepC.cells ho h.2
theorem Ev.at {k E : Nat} {es : List AV} {i : Int} {e : AV} {ki : IntKind} {bytes : Nat} {z : Value} (h1 : Ov g L o1 (.sl k es)) (h2 : Ov g L o2 (.lit (.int ki i))) (hT : x.P.underlying T = some (.slice E)) (hE : Ty x.P E k bytes z)
 (hi : g = true → 0 ≤ i ∧ es[i.toNat]? = some e) (ho : e.okc = true) (hk : e.cells.length = k) : Ev x g L M (.indexAddr T o1 o2) ty (.eptr e.cells) := fun a w hs hg => by
 obtain ⟨ad, cap, ev, h3, h4, h5⟩ := (h1.rep hg hs).sl_inv
 obtain ⟨hi0, hi1⟩ := hi hg
 have hlt : i.toNat < es.length := by
  rcases Nat.lt_or_ge i.toNat es.length with h' | h'
  ·exact h'
  ·rw [List.getElem?_eq_none h'] at hi1; cases hi1
 rcases h5 with rfl | ⟨b, off, cur, U, fr, rfl, hb, hc, hr⟩
 ·simp at hlt
 ·obtain ⟨hg1, hg2⟩ := hr.get hi1
  have hlt' : i < es.length := by omega
  refine ⟨.pointer (some ⟨b, off + i.toNat * k, none⟩), ?_, Rep.eptrI hb hc ?_⟩
  ·simp [execOp, ev, h2.lit hg hs, Instr.indexAt, asIntOf, run_underlying hT, hi0, hlt', hE.size, Addr.add_lit]
  ·rw [hk, ← List.drop_drop]; exact RepC.cells ho hg2
theorem RepL.drop {w : World} {N : List Nat} : ∀ {cs : List AV} {row : List Value} (n : Nat), RepL w N cs row → RepL w N (cs.drop n) (row.drop n)
 | cs, row, 0, h => by simpa using h
 | [], row, n + 1, h => by simp only [RepL] at h; subst h; simp [RepL]
 | c :: cs, row, n + 1, h => by
  simp only [RepL] at h
  obtain ⟨v, vs, rfl, _, h⟩ := h
  simpa using RepL.drop n h
theorem RepL.take {w : World} {N : List Nat} : ∀ {cs : List AV} {row : List Value} (n : Nat), RepL w N cs row → RepL w N (cs.take n) (row.take n)
 | cs, row, 0, h => by simp [RepL]
 | [], row, n + 1, h => by simp only [RepL] at h; subst h; simp [RepL]
 | c :: cs, row, n + 1, h => by
  simp only [RepL] at h
  obtain ⟨v, vs, rfl, h1, h⟩ := h
  simp only [List.take_succ_cons, RepL]
  exact ⟨v, _, rfl, h1, RepL.take n h⟩
theorem RepL.get {w : World} {N : List Nat} {cs : List AV} {row : List Value} {i : Nat} {c : AV} (h : RepL w N cs row) (hi : cs[i]? = some c) : ∃ v, row[i]? = some v ∧ Rep w N c v := by
 have hlt : i < cs.length := by
  rcases Nat.lt_or_ge i cs.length with h' | h'
  ·exact h'
  ·rw [List.getElem?_eq_none h'] at hi; cases hi
 have hd := RepL.drop i h
 rw [List.drop_eq_getElem_cons hlt] at hd
 simp only [RepL] at hd
 obtain ⟨v, vs, e, ⟨h1, h2, h3⟩, _⟩ := hd
 rw [List.getElem?_eq_getElem hlt] at hi
 cases hi
 refine ⟨v, ?_, RepC.cell_of_sh h1 h2 h3⟩
 have := congrArg (·[0]?) e
 simpa using this
theorem Ev.fae {f off size : Nat} {ag : Bool} {cs : List AV} (h1 : Ov g L o1 (.eptr cs)) (hf : FieldAt x.P T f off size ag) (hl : Nat.ble off cs.length = true) : Ev x g L M (.fieldAddr T o1 f) ty (.eptr (cs.drop off)) := fun a w hs hg => by
 obtain ⟨b, o, cur, U, fr, e, hb, hc, hr⟩ := (h1.rep hg hs).eptr_inv
 obtain ⟨fields, fld, hT, hfl, rfl, hsz, _, hne⟩ := hf
 refine ⟨.pointer (some ⟨b, o + fld.offset, none⟩), ?_, Rep.eptrI hb hc ?_⟩
 ·simp [execOp, e, Instr.fieldAt, run_underlying hT, hfl, Instr.sureAddr, fieldPlace, hsz, hne, Addr.add_lit]
 ·have := RepL.drop fld.offset hr
  rw [List.drop_take, List.drop_drop] at this
  rw [List.length_drop]
  exact this
theorem Ev.fab {f off size b o : Nat} {ag : Bool} (h1 : Ov g L o1 (.lit (.pointer (some ⟨b, o, none⟩)))) (hf : FieldAt x.P T f off size ag) : Ev x g L M (.fieldAddr T o1 f) ty (.lit (.pointer (some ⟨b, o + off, none⟩))) := Ev.pure fun a w hs hg => by
 obtain ⟨fields, fld, hT, hfl, rfl, hsz, _, hne⟩ := hf
 simp [execOp, h1.lit hg hs, Instr.fieldAt, run_underlying hT, hfl, Instr.sureAddr, fieldPlace, hsz, hne, Addr.add_lit]
theorem run_load1 {w : World} {b o : Nat} {cur : Array Value} {U : TypeId} {fr : Nat × Nat} {v : Value} (hT : IsAgg x.P T false) (hc : w.heap[b]? = some (.cells cur U fr)) (hv : cur[o]? = some v) {a : Act} (e : a.eval o1 = .pointer (some ⟨b, o, none⟩)) :
 (execOp a.eval ⟨none, .load T o1, ty, "", #[], none⟩).run x.P w = .ok (.value v) w := by
 have hcell : w.cell? ⟨b, o, none⟩ = some v := by rw [cell_of hc]; exact hv
 simp [execOp, e, Instr.loadAt, Instr.sureAddr, loadVar, hT.run, hcell]
theorem run_loadn {w : World} {b o k bytes : Nat} {z : Value} {cur : Array Value} {U : TypeId} {fr : Nat × Nat} (hT : IsAgg x.P T true) (hk : Ty x.P T k bytes z) (hc : w.heap[b]? = some (.cells cur U fr)) (hle : o + k ≤ cur.size) {a : Act} (e : a.eval o1 = .pointer (some ⟨b, o, none⟩)) :
 (execOp a.eval ⟨none, .load T o1, ty, "", #[], none⟩).run x.P w = .ok (.value (.agg ((cur.toList.drop o).take k).toArray)) w := by
 have := run_loadCells (P := x.P) (off := o) hc k hle
 simp [execOp, e, Instr.loadAt, Instr.sureAddr, loadVar, hT.run, hk.size, this]
theorem Ev.lde1 {c : AV} {cs : List AV} (h1 : Ov g L o1 (.eptr (c :: cs))) (hT : IsAgg x.P T false) : Ev x g L M (.load T o1) ty c := fun a w hs hg => by
 obtain ⟨b, o, cur, U, fr, e, hb, hc, hr⟩ := (h1.rep hg hs).eptr_inv
 obtain ⟨v, hv, hrep⟩ := RepL.get (i := 0) (c := c) hr rfl
 refine ⟨v, run_load1 hT hc ?_ e, hrep⟩
 simpa using hv
theorem Ev.lden {k bytes : Nat} {z : Value} {cs : List AV} (h1 : Ov g L o1 (.eptr cs)) (hT : IsAgg x.P T true) (hk : Ty x.P T k bytes z) (hl : Nat.ble k cs.length = true) (hk0 : Nat.ble 1 k = true) : Ev x g L M (.load T o1) ty (.agg (cs.take k)) := fun a w hs hg => by
 obtain ⟨b, o, cur, U, fr, e, hb, hc, hr⟩ := (h1.rep hg hs).eptr_inv
 have hl' : k ≤ cs.length := Nat.le_of_ble_eq_true hl
 have hk0' := Nat.le_of_ble_eq_true hk0
 have hlen := hr.length
 simp at hlen
 have ht := RepL.take k hr
 rw [List.take_take, Nat.min_eq_left hl'] at ht
 refine ⟨_, run_loadn hT hk hc (by omega) e, rfl, ?_⟩
 simpa only [RepC, Value.cells] using ht
theorem box_at {w : World} {N : List Nat} {F : List Nat} (hm : MOk w M F) {i b U : Nat} {cs : List AV} (hM : M[i]? = some (.box b U cs)) : ∃ cur, w.heap[b]? = some (.cells cur U (0, 0)) ∧ RepL w (bl M ++ F) cs cur.toList :=
 hm.holds _ (List.mem_of_getElem? hM)
theorem Ev.ldb1 (i : Nat) {b o U : Nat} {cs : List AV} {c : AV} (h1 : Ov g L o1 (.lit (.pointer (some ⟨b, o, none⟩)))) (hM : M[i]? = some (.box b U cs)) (hT : IsAgg x.P T false) (hc : cs[o]? = some c) : Ev x g L M (.load T o1) ty c := fun a w hs hg => by
 obtain ⟨cur, hcur, hr⟩ := box_at (N := []) hs.mem hM
 obtain ⟨v, hv, hrep⟩ := RepL.get hr hc
 exact ⟨v, run_load1 hT hcur (by simpa using hv) (h1.lit hg hs), hrep⟩
theorem Ev.ldbn (i : Nat) {b o U k bytes : Nat} {z : Value} {cs : List AV} (h1 : Ov g L o1 (.lit (.pointer (some ⟨b, o, none⟩)))) (hM : M[i]? = some (.box b U cs)) (hT : IsAgg x.P T true) (hk : Ty x.P T k bytes z) (hl : Nat.ble (o + k) cs.length = true) :
 Ev x g L M (.load T o1) ty (.agg ((cs.drop o).take k)) := fun a w hs hg => by
 obtain ⟨cur, hcur, hr⟩ := box_at (N := []) hs.mem hM
 have hlen := hr.length
 have hl' := Nat.le_of_ble_eq_true hl
 simp at hlen
 refine ⟨_, run_loadn hT hk hcur (by omega) (h1.lit hg hs), rfl, ?_⟩
 have := RepL.take k (RepL.drop o hr)
 simpa only [RepC, Value.cells] using this
theorem Ev.subsl {k E bytes : Nat} {z : Value} {es : List AV} {lo hi : Option Operand} {i j : Int} (h1 : Ov g L o1 (.sl k es)) (hT : x.P.underlying T = some (.slice E)) (hE : Ty x.P E k bytes z) (hlo : BndOv g L 0 lo i) (hhi : BndOv g L (es.length : Int) hi j)
 (hb : g = true → 0 ≤ i ∧ i ≤ j ∧ j ≤ es.length) : Ev x g L M (.slice T o1 lo hi none) ty (.sl k ((es.take j.toNat).drop i.toNat)) := fun a w hs hg => by
 obtain ⟨ad, cap, ev, h3, h4, h5⟩ := (h1.rep hg hs).sl_inv
 obtain ⟨b1, b2, b3⟩ := hb hg
 have hr := run_bounds (isS := true) (len := es.length) (cap := cap) hs hg hlo hhi b1 b2 b3 h3
 have hlen : ((es.take j.toNat).drop i.toNat).length = j.toNat - i.toNat := by simp; omega
 refine ⟨.slice (if cap = i.toNat then ad else ad.map (·.add (i.toNat * k))) (j.toNat - i.toNat) (cap - i.toNat), ?_, ?_⟩
 ·simp only [execOp, ev, Option.map_none, Instr.sliceAt, Instr.slice, Sem.run_bind, run_underlying hT, Result.andThen_ok, hr, hE.size, Sem.run_pure]
 ·rw [← hlen]
  refine Rep.slI (by rw [hlen]; omega) (by omega) ?_
  rcases h5 with rfl | ⟨b, off, cur, U, fr, rfl, hbN, hc, hrE⟩
  ·left; simp
  ·by_cases hz : cap = i.toNat
   ·left
    apply List.eq_nil_of_length_eq_zero
    rw [hlen]; omega
   ·right
    rw [if_neg hz]
    refine ⟨b, off + i.toNat * k, cur, U, fr, ?_, hbN, hc, ?_⟩
    ·simp [Addr.add_lit]
    ·have := (hrE.take j.toNat).drop i.toNat (by simp; omega)
     rw [List.drop_drop] at this
     exact this
end aggs
end ev
end Go.Vl
end
section
namespace Go.Vl
open Go.RowKit (Below)
theorem MOk.nil (w : World) (F : List Nat) : MOk w [] F := ⟨by simp [bl], by simp [bl], by simp⟩
theorem RepT.one {W : World} {N : List Nat} {a : AV} {as_ : List AV} {v : Value} {vs : List Value} (h : Rep W N a v) (h' : RepT W N as_ vs) : RepT W N (a :: as_) (v :: vs) := by
 simp only [RepT]
 exact ⟨v, vs, rfl, h, h'⟩
theorem RepT.zero {W : World} {N : List Nat} : RepT W N [] [] := by simp [RepT]
theorem Rep.slice1 {W : World} {N : List Nat} {a : Option Addr} {len cap : Nat} {es : List AV} (hlen : es.length = len) (hlc : len ≤ cap) (hcm : cap ≤ maxLen)
 (h : len = 0 ∨ ∃ x : Addr, a = some x ∧ x.block ∉ N ∧ ∀ i, i < len → ∃ v, W.cell? (x.add i) = some v ∧ shV v = 0 ∧ ∃ e, es[i]? = some e ∧ e.sh = 0 ∧ RepC W N e [v]) : Rep W N (.sl 1 es) (.slice a len cap) := by
 subst hlen
 refine Rep.slI hlc hcm ?_
 rcases h with h | ⟨⟨b, off, spot⟩, rfl, hb, hc⟩
 ·exact .inl (List.eq_nil_of_length_eq_zero h)
 ·by_cases h0 : es.length = 0
  ·exact .inl (List.eq_nil_of_length_eq_zero h0)
  ·right
   obtain ⟨v0, hv0, _⟩ := hc 0 (by omega)
   have hsp : spot = none := by
    simp only [Addr.add, if_true] at hv0
    unfold World.cell? at hv0
    split at hv0
    ·split at hv0
     ·cases hv0
     ·rename_i hs; simpa using hs
    ·cases hv0
   subst hsp
   have hblk : ∃ cur T fr, W.heap[b]? = some (.cells cur T fr) := by
    simp only [Addr.add, if_true] at hv0
    unfold World.cell? at hv0
    split at hv0
    ·rename_i c T fr hh; exact ⟨c, T, fr, hh⟩
    ·cases hv0
   obtain ⟨cur, T, fr, hcur⟩ := hblk
   refine ⟨b, off, cur, T, fr, rfl, hb, hcur, ?_⟩
   have key : ∀ (n : Nat) (es' : List AV), es'.length = n → (∃ k, es' = es.drop k ∧ k + n = es.length) → ∀ k, k + n = es.length → es' = es.drop k → RepE W N 1 es' (cur.toList.drop (off + k)) := by
    intro n
    induction n with
    | zero => intro es' hl _ k _ _; have := List.eq_nil_of_length_eq_zero hl; subst this; simp [RepE]
    | succ n ih =>
     intro es' hl _ k hk he
     obtain ⟨v, hv, hsv, e, hee, hse, hr⟩ := hc k (by omega)
     rw [Addr.add_lit, cell_of hcur] at hv
     have hlt : off + k < cur.toList.length := by
      rcases Nat.lt_or_ge (off + k) cur.size with h' | h'
      ·simpa using h'
      ·rw [Array.getElem?_eq_none h'] at hv; cases hv
     have hke : k < es.length := by omega
     have hd : es.drop k = e :: es.drop (k + 1) := by
      rw [List.drop_eq_getElem_cons hke]
      rw [List.getElem?_eq_getElem hke] at hee
      cases hee; rfl
     have hrow : cur.toList.drop (off + k) = v :: cur.toList.drop (off + (k + 1)) := by
      rw [List.drop_eq_getElem_cons hlt, ← Nat.add_assoc]
      congr 1
      have : cur.toList[off + k]? = some v := by simpa using hv
      rw [List.getElem?_eq_getElem hlt] at this
      exact Option.some.inj this
     rw [he, hd, hrow]
     simp only [RepE]
     refine ⟨by simp, by simpa using hr, ?_⟩
     exact ih _ (by rw [List.length_drop]; omega) ⟨k + 1, rfl, by omega⟩ (k + 1) (by omega) rfl
   have := key es.length es rfl ⟨0, by simp, by omega⟩ 0 (by omega) (by simp)
   simpa using this
end Go.Vl
end
section
namespace Go.Proofs.YtphlkdbglpcikaaGreatDoor.Bulk
variable {H : Type}
theorem pos (d : DataW H) : 0 < Rows.uptoBulk d := by
 rcases d with l | _ | d | ⟨elems, spare⟩ | parts | ⟨t, d⟩ | entries | h
 ·cases l <;> simp [Rows.uptoBulk]
 all_goals simp [Rows.uptoBulk]
theorem count (l : List (DataW H)) : l.length ≤ Rows.uptoBulkAll l := by
 induction l with
 | nil => exact Nat.zero_le _
 | cons d r ih =>
  have := pos d
  rw [Rows.uptoBulkAll, List.length_cons]
  omega
theorem le (l : List (DataW H)) (h : Rows.uptoSmall H l = true) : Rows.uptoBulkAll l ≤ 1048576 := by
 unfold Rows.uptoSmall at h
 exact of_decide_eq_true h
theorem slice (elems spare : List (DataW H)) : Rows.uptoBulk (.slice elems spare) = Rows.uptoBulkAll elems + Rows.uptoBulkAll spare + 1 := by rw [Rows.uptoBulk]
end Go.Proofs.YtphlkdbglpcikaaGreatDoor.Bulk
end
section
namespace Go.Proofs.YtphlkdbglpcikaaGreatDoor.Ints
open Go.Vl
theorem ints_rep {H : Type} {P : Program} {enc : TypeId × Value → H} {w : World} {base : Nat} {spare : Nat → Bool} {held : Bool} {T E fuel : Nat} {a : Option Addr} {len cap : Nat} {d : DataW H} {p : List MemPlace}
 (hT : P.underlying T = some (.slice E)) (hE : P.underlying E = some (.int .i64)) (hc : P.cellsOf E = 1) (h : DataW.trod enc P w base spare held fuel T [.slice a len cap] = some (d, p)) :
 ∃ l : List Int, l.length < Rows.uptoBulk d ∧ Rep w [] (.sl 1 (l.map AV.int)) (.slice a len cap) ∧ ∀ z ∈ l, -9223372036854775808 ≤ z ∧ z ≤ 9223372036854775807 := by
 rcases ChangeShapes.open_ints hT hE hc h with ⟨hcs, hx⟩ | ⟨a', len', cap', zs, hcs, hb, hl, hm, hlen, hx, hcell, hwf⟩
 ·cases hcs
  exact ⟨[], Bulk.pos _, Rep.slice1 rfl (Nat.zero_le _) (Nat.zero_le _) (.inl rfl), by simp⟩
 ·cases hcs
  cases hx
  have hz : len ≤ zs.length := by rw [hlen]; split <;> omega
  have hll : (zs.take len).length = len := by rw [List.length_take]; omega
  refine ⟨zs.take len, ?_, Rep.slice1 (by rw [List.length_map, hll]) hl hm (.inr ⟨a', rfl, by simp, fun i hi => ?_⟩), fun z hz => ?_⟩
  ·have h1 := Bulk.count (ChangeShapes.lits (H := H) .i64 (zs.take len))
   rw [ChangeShapes.lits, List.length_map] at h1
   rw [Bulk.slice]
   unfold ChangeShapes.lits at *
   omega
  ·refine ⟨_, hcell i (by omega), rfl, AV.int (zs.getD i 0), ?_, rfl, by simp only [RepC]; rfl⟩
   rw [List.getElem?_map, List.getElem?_take, if_pos hi, List.getD_eq_getElem?_getD, List.getElem?_eq_getElem (by omega)]; rfl
  ·have := hwf z (List.mem_of_mem_take hz)
   simpa [Lit.wf, IntKind.min, IntKind.max, IntKind.signed, IntKind.bits] using this
end Go.Proofs.YtphlkdbglpcikaaGreatDoor.Ints
end
section
namespace Go.Vl
section mem
variable {x : Cx} {L : List (Tmp × Bool × AV)} {M : List ME} {ops : Array Oper} {Q : Exit → Act → World → Prop} {rest : List Oper} {ty : TypeId} {pos : String} {aft : Array Edge}
theorem W.opv {ι : Type} {d : Tmp} {op : Op} (Mf : ι → List ME) (af : ι → AV) (hd : Nat.blt d x.n = true)
 (step : ∀ a w, St x L M a w → ∃ v w' z, (execOp a.eval ⟨none, op, ty, "", #[], none⟩).run x.P w = .ok (.value v) w' ∧ St x L (Mf z) a w' ∧ Rep w' (bl (Mf z) ++ x.F) (af z) v)
 (next : ∀ z, W x ((d, true, af z) :: L) (Mf z) (wpList x.P ops Q rest)) : W x L M (wpList x.P ops Q (⟨some d, op, ty, pos, aft, none⟩ :: rest)) := by
 intro a w hs
 obtain ⟨v, w', z, hr, hs', hv⟩ := step a w hs
 refine wpList_cons_want (by simp [Region.wanted]) ?_
 unfold Oper.wp
 rw [execOp_bare, hr]
 exact next z _ _ (hs'.put hd true _ v (fun _ => hv) (by simp))
theorem W.opu {ι : Type} {op : Op} (Mf : ι → List ME)
 (step : ∀ a w, St x L M a w → ∃ w' z, (execOp a.eval ⟨none, op, ty, "", #[], none⟩).run x.P w = .ok .skip w' ∧ St x L (Mf z) a w')
 (next : ∀ z, W x L (Mf z) (wpList x.P ops Q rest)) : W x L M (wpList x.P ops Q (⟨none, op, ty, pos, aft, none⟩ :: rest)) := by
 intro a w hs
 obtain ⟨w', z, hr, hs'⟩ := step a w hs
 refine wpList_cons_want (by simp [Region.wanted]) ?_
 unfold Oper.wp
 rw [execOp_bare, hr]
 exact next z _ _ hs'
theorem alloc_new (w : World) (o : Obj) : (w.alloc o).heap[w.heap.size]? = some o := by
 show (w.heap.push o)[w.heap.size]? = _
 simp
theorem alloc_old (w : World) (o : Obj) {k : Nat} (h : k < w.heap.size) : (w.alloc o).heap[k]? = w.heap[k]? := by
 show (w.heap.push o)[k]? = _
 rw [Array.getElem?_push, if_neg (by omega)]
theorem nl_lt {a : Act} {w : World} (hs : St x L M a w) : ∀ b ∈ bl M ++ x.F, b < w.heap.size := by
 intro b hb
 rcases List.mem_append.1 hb with hb | hb
 ·exact bl_lt hs.mem b hb
 ·exact Nat.lt_of_lt_of_le (hs.old b hb) hs.fr.size
theorem St.alloc {a : Act} {w : World} (hs : St x L M a w) (o : Obj) (m : ME) (hb : m.blks = [w.heap.size]) (hm : ∀ N, (∀ b, b ∈ N ↔ b = w.heap.size ∨ b ∈ bl M ++ x.F) → m.holds (w.alloc o) N) :
 St x L (m :: M) a (w.alloc o) := by
 have hbl : bl (m :: M) = w.heap.size :: bl M := by simp [bl, hb]
 have hlt := nl_lt hs
 have hk : Keep w (bl M ++ x.F) (w.alloc o) (bl (m :: M) ++ x.F) := by
  intro b c T fr hn hc
  have hb' := heap_lt hc
  refine ⟨?_, by rw [alloc_old w o hb']; exact hc⟩
  rw [hbl, List.cons_append, List.mem_cons]
  rintro (h | h)
  ·omega
  ·exact hn h
 refine hs.world hk ⟨?_, ?_, ?_⟩ ⟨hs.fr.os, hs.fr.tape, hs.fr.output, ?_, ?_⟩
 ·rw [hbl, List.nodup_cons]
  exact ⟨fun h => by have := bl_lt hs.mem _ h; omega, hs.mem.nodup⟩
 ·intro b hb' hF
  rw [hbl, List.mem_cons] at hb'
  rcases hb' with rfl | hb'
  ·have := hs.old _ hF; have := hs.fr.size; omega
  ·exact hs.mem.apart b hb' hF
 ·intro m' hm'
  rcases List.mem_cons.1 hm' with rfl | hm'
  ·exact hm _ (fun b => by rw [hbl, List.cons_append, List.mem_cons])
  ·refine ME.holds_keep hk ?_ (hs.mem.holds m' hm')
   intro b hb'
   exact alloc_old w o (ME.blk_some (hs.mem.holds m' hm') b hb')
 ·rw [World.size_alloc]; have := hs.fr.size; omega
 ·intro k hk' hn
  have h1 := hs.fr.block k hk' hn
  have hkw : k < w.heap.size := Nat.lt_of_lt_of_le hk' hs.fr.size
  refine ⟨by rw [alloc_old w o hkw]; exact h1.1, ?_⟩
  rw [hbl, List.mem_cons]
  rintro (h | h)
  ·omega
  ·exact h1.2 h
theorem St.allocI {a : Act} {w : World} (hs : St x L M a w) (o : Obj) : St x L M a (w.alloc o) ∧ Keep w (bl M ++ x.F) (w.alloc o) (bl M ++ x.F) ∧ w.heap.size ∉ bl M ++ x.F := by
 have hlt := nl_lt hs
 have hk : Keep w (bl M ++ x.F) (w.alloc o) (bl M ++ x.F) := fun b c T fr hn hc => ⟨hn, by rw [alloc_old w o (heap_lt hc)]; exact hc⟩
 refine ⟨hs.world hk ⟨hs.mem.nodup, hs.mem.apart, ?_⟩ ⟨hs.fr.os, hs.fr.tape, hs.fr.output, ?_, ?_⟩, hk, fun h => by have := hlt _ h; omega⟩
 ·intro m hm
  refine ME.holds_keep hk ?_ (hs.mem.holds m hm)
  intro b hb
  exact alloc_old w o (ME.blk_some (hs.mem.holds m hm) b hb)
 ·rw [World.size_alloc]; have := hs.fr.size; omega
 ·intro k hk' hn
  have h1 := hs.fr.block k hk' hn
  exact ⟨by rw [alloc_old w o (Nat.lt_of_lt_of_le hk' hs.fr.size)]; exact h1.1, h1.2⟩
theorem St.same {a : Act} {w w' : World} (hs : St x L M a w) (hh : w'.heap = w.heap) (h1 : w'.os = w.os) (h2 : w'.tape = w.tape) (h3 : w'.output = w.output) : St x L M a w' := by
 have hk : Keep w (bl M ++ x.F) w' (bl M ++ x.F) := fun b c T fr hn hc => ⟨hn, by rw [hh]; exact hc⟩
 refine hs.world hk ⟨hs.mem.nodup, hs.mem.apart, ?_⟩ ⟨h1.trans hs.fr.os, h2.trans hs.fr.tape, h3.trans hs.fr.output, by rw [hh]; exact hs.fr.size, by rw [hh]; exact hs.fr.block⟩
 intro m hm
 exact ME.holds_keep hk (fun b _ => by rw [hh]) (hs.mem.holds m hm)
/-! ### variables with an address -/
theorem W.alloc {d : Tmp} {T : TypeId} {k bytes : Nat} {z : Value} (hT : Ty x.P T k bytes z) (hz : z.cells.toList.all (fun v => shV v == 0) = true) (hd : Nat.blt d x.n = true)
 (next : ∀ b, W x ((d, true, .lit (.pointer (some ⟨b, 0, none⟩))) :: L) (.box b T (z.cells.toList.map .lit) :: M) (wpList x.P ops Q rest)) :
 W x L M (wpList x.P ops Q (⟨some d, .alloc T, ty, pos, aft, none⟩ :: rest)) := by
 refine W.opv (ι := Nat) (fun b => .box b T (z.cells.toList.map .lit) :: M) (fun b => .lit (.pointer (some ⟨b, 0, none⟩))) hd ?_ next; intro a w hs
 refine ⟨.pointer (some ⟨w.heap.size, 0, none⟩), w.alloc (.cells z.cells T), w.heap.size, ?_, ?_, Rep.lit _⟩
 ·have := hT.zero w
  simp [execOp, Instr.alloc, this, newVar, newRow]
 ·refine hs.alloc _ _ rfl ?_
  intro N hN
  refine ⟨z.cells, alloc_new _ _, ?_⟩
  generalize z.cells.toList = l at hz
  induction l with
  | nil => simp [RepL]
  | cons v l ih =>
   simp only [List.all_cons, Bool.and_eq_true, beq_iff_eq] at hz
   simp only [List.map_cons, RepL]
   exact ⟨v, l, rfl, ⟨hz.1, hz.1, by simp only [RepC, cells_of_sh hz.1]⟩, ih hz.2⟩
theorem W.box {d : Tmp} {T : TypeId} {o : Operand} {av : AV} (h1 : Ov true L o av) (ho : av.okc = true) (hd : Nat.blt d x.n = true)
 (next : ∀ b, W x ((d, true, .lit (.pointer (some ⟨b, 0, none⟩))) :: L) (.box b T av.cells :: M) (wpList x.P ops Q rest)) :
 W x L M (wpList x.P ops Q (⟨some d, .box T o, ty, pos, aft, none⟩ :: rest)) := by
 refine W.opv (ι := Nat) (fun b => .box b T av.cells :: M) (fun b => .lit (.pointer (some ⟨b, 0, none⟩))) hd ?_ next; intro a w hs
 have hr := h1.rep rfl hs
 refine ⟨.pointer (some ⟨w.heap.size, 0, none⟩), w.alloc (.cells (a.eval o).cells T), w.heap.size, ?_, ?_, Rep.lit _⟩
 ·simp [execOp, Instr.box, newVar, newRow]
 ·refine hs.alloc _ _ rfl ?_
  intro N hN
  refine ⟨_, alloc_new _ _, RepL.keep ?_ _ _ (hr.toL ho)⟩
  intro b c T fr hn hc
  refine ⟨fun h => ?_, by rw [alloc_old _ _ (heap_lt hc)]; exact hc⟩
  rcases (hN b).1 h with h | h
  ·have := heap_lt hc; omega
  ·exact hn h
def wr (cur : Array Value) (off : Nat) (news : List Value) : Array Value := (cur.toList.take off ++ news ++ cur.toList.drop (off + news.length)).toArray
theorem wr_nil (cur : Array Value) (off : Nat) : wr cur off [] = cur := by simp [wr]
theorem wr_size (cur : Array Value) (off : Nat) (news : List Value) (h : off + news.length ≤ cur.size) : (wr cur off news).size = cur.size := by
 simp [wr]; omega
theorem wr_cons (cur : Array Value) (off : Nat) (v : Value) (news : List Value) (h : off + (news.length + 1) ≤ cur.size) : wr (cur.setIfInBounds off v) (off + 1) news = wr cur off (v :: news) := by
 have hlt : off < cur.toList.length := by simp; omega
 unfold wr
 congr 1
 rw [Array.toList_setIfInBounds, List.set_eq_take_append_cons_drop, if_pos hlt]
 have hl : (cur.toList.take off).length = off := by simp; omega
 have e1 : (cur.toList.take off ++ v :: cur.toList.drop (off + 1)).take (off + 1) = cur.toList.take off ++ [v] := by
  rw [List.take_append, hl, List.take_of_length_le (by omega)]
  simp
 have e2 : (cur.toList.take off ++ v :: cur.toList.drop (off + 1)).drop (off + 1 + news.length) = cur.toList.drop (off + (news.length + 1)) := by
  rw [List.drop_append, hl, List.drop_of_length_le (by omega), List.nil_append, show off + 1 + news.length - off = news.length + 1 from by omega, List.drop_succ_cons, List.drop_drop]
  congr 1; omega
 rw [e1, e2]
 simp [List.append_assoc]
theorem run_store1 {P : Program} {w : World} {g o : Nat} {cur : Array Value} {T : TypeId} {lo hi : Nat} {v : Value} (h : w.heap[g]? = some (.cells cur T (lo, hi))) (ho : o < cur.size) (hf : hi ≤ lo ∨ o < lo) (hv : shV v = 0) :
 (store ⟨g, o, none⟩ v).run P w = .ok () { w with heap := w.heap.setIfInBounds g (.cells (cur.setIfInBounds o v) T (lo, hi)) } := by
 have hc : w.cell? ⟨g, o, none⟩ = some (cur[o]'ho) := by rw [cell_of h]; simp [ho]
 have hfr : w.frozen? ⟨g, o, none⟩ = false := by
  simp only [World.frozen?, h]
  rcases hf with hf | hf
  ·simp; omega
  ·simp; omega
 have h1 : v.oneCell' = true := by cases v <;> first | rfl | simp [shV] at hv
 rw [run_store P w _ v _ h1]
 simp only [stored, hc, hfr]
 simp only [Bool.false_eq_true, if_false, World.setCell]
 congr 2
 apply Array.ext_getElem?
 intro i
 rw [Array.getElem?_modify, Array.getElem?_setIfInBounds]
 by_cases e : g = i
 ·subst e
  have hlt := heap_lt h
  rw [if_pos rfl, h, if_pos rfl, if_pos hlt]
  rfl
 ·rw [if_neg e, if_neg e]
theorem run_storeCells {P : Program} {g off : Nat} {T : TypeId} {lo hi : Nat} : ∀ (news : List Value) (i : Nat) (cur : Array Value) (w : World), w.heap[g]? = some (.cells cur T (lo, hi)) → off + i + news.length ≤ cur.size →
 (hi ≤ lo ∨ off + i + news.length ≤ lo) → (∀ v ∈ news, shV v = 0) → (storeCells ⟨g, off, none⟩ news i).run P w = .ok () { w with heap := w.heap.setIfInBounds g (.cells (wr cur (off + i) news) T (lo, hi)) }
 | [], i, cur, w, h, _, _, _ => by
  have e : w.heap.setIfInBounds g (.cells cur T (lo, hi)) = w.heap := by
   apply Array.ext_getElem?
   intro j
   rw [Array.getElem?_setIfInBounds]
   by_cases e : g = j
   ·subst e; rw [if_pos rfl, if_pos (heap_lt h), h]
   ·rw [if_neg e]
  simp [storeCells, wr_nil, e]
 | v :: news, i, cur, w, h, hl, hf, hv => by
  simp only [List.length_cons] at hl hf
  have h1 := run_store1 (P := P) (w := w) (v := v) h (o := off + i) (by omega) (by omega) (hv v (by simp))
  have hlt := heap_lt h
  have h2 := run_storeCells (P := P) (g := g) (T := T) (lo := lo) (hi := hi) (off := off) news (i + 1) (cur.setIfInBounds (off + i) v) { w with heap := w.heap.setIfInBounds g (.cells (cur.setIfInBounds (off + i) v) T (lo, hi)) }
   (by simp [hlt]) (by simp; omega) (by omega) (fun u hu => hv u (by simp [hu]))
  simp only [storeCells, Sem.run_bind, Addr.add_lit, h1, Result.andThen_ok, h2]
  rw [show off + (i + 1) = off + i + 1 from by omega, wr_cons cur (off + i) v news (by omega)]
  congr 2
  apply Array.ext_getElem?
  intro j
  simp only [Array.getElem?_setIfInBounds, Array.size_setIfInBounds]
  by_cases e : g = j
  ·subst e; simp [hlt]
  ·simp [e]
theorem St.write {a : Act} {w : World} (hs : St x L M a w) {i : Nat} {m m' : ME} {g : Nat} {o : Obj} (hM : M[i]? = some m) (hg : m.blks = [g]) (hg' : m'.blks = [g])
 (hm' : ∀ w', (∀ b, b ≠ g → w'.heap[b]? = w.heap[b]?) → w'.heap[g]? = some o → Keep w (bl M ++ x.F) w' (bl M ++ x.F) → m'.holds w' (bl M ++ x.F)) :
 St x L (M.set i m') a { w with heap := w.heap.setIfInBounds g o } := by
 have hlt : i < M.length := by
  rcases Nat.lt_or_ge i M.length with h | h
  ·exact h
  ·rw [List.getElem?_eq_none h] at hM; cases hM
 have hmem : m ∈ M := List.mem_of_getElem? hM
 have hgM : g ∈ bl M := by simp only [bl, List.mem_flatMap]; exact ⟨m, hmem, by simp [hg]⟩
 have hgw : g < w.heap.size := bl_lt hs.mem g hgM
 have hsplit : M = M.take i ++ m :: M.drop (i + 1) := by
  have := List.getElem?_eq_some_iff.1 hM
  obtain ⟨h1, h2⟩ := this
  rw [← h2]; simp
 have hset : M.set i m' = M.take i ++ m' :: M.drop (i + 1) := by rw [List.set_eq_take_append_cons_drop, if_pos hlt]
 have hbl : bl (M.set i m') = bl M := by
  rw [hset]
  conv => rhs; rw [hsplit]
  simp [bl, hg, hg']
 have hother : ∀ b, b ≠ g → ({ w with heap := w.heap.setIfInBounds g o } : World).heap[b]? = w.heap[b]? := fun b hb => by
  show (w.heap.setIfInBounds g o)[b]? = _
  rw [Array.getElem?_setIfInBounds, if_neg (fun e => hb e.symm)]
 have hnew : ({ w with heap := w.heap.setIfInBounds g o } : World).heap[g]? = some o := by
  show (w.heap.setIfInBounds g o)[g]? = _
  rw [Array.getElem?_setIfInBounds, if_pos rfl, if_pos hgw]
 have hk0 : Keep w (bl M ++ x.F) { w with heap := w.heap.setIfInBounds g o } (bl M ++ x.F) := by
  intro b c T fr hn hc
  refine ⟨hn, ?_⟩
  rw [hother b (fun e => hn (by subst e; exact List.mem_append_left _ hgM))]
  exact hc
 have hk : Keep w (bl M ++ x.F) { w with heap := w.heap.setIfInBounds g o } (bl (M.set i m') ++ x.F) := by rw [hbl]; exact hk0
 refine hs.world hk ⟨by rw [hbl]; exact hs.mem.nodup, by rw [hbl]; exact hs.mem.apart, ?_⟩ ⟨hs.fr.os, hs.fr.tape, hs.fr.output, ?_, ?_⟩
 ·rw [hbl]
  intro m₁ hm₁
  rcases List.mem_or_eq_of_mem_set hm₁ with h | h
  ·
   rw [hset] at hm₁
   rcases List.mem_append.1 hm₁ with h1 | h1
   ·refine ME.holds_keep hk0 ?_ (hs.mem.holds m₁ h)
    intro b hb
    refine hother b ?_
    rintro rfl
    have hnd := hs.mem.nodup
    rw [hsplit] at hnd
    simp only [bl, List.flatMap_append, List.flatMap_cons, hg] at hnd
    exact (List.nodup_append.1 hnd).2.2 b (by simp only [List.mem_flatMap]; exact ⟨m₁, h1, hb⟩) b (by simp) rfl
   ·rcases List.mem_cons.1 h1 with rfl | h1
    ·exact hm' _ hother hnew hk0
    ·refine ME.holds_keep hk0 ?_ (hs.mem.holds m₁ h)
     intro b hb
     refine hother b ?_
     rintro rfl
     have hnd := hs.mem.nodup
     rw [hsplit] at hnd
     simp only [bl, List.flatMap_append, List.flatMap_cons, hg] at hnd
     have h2 := (List.nodup_append.1 hnd).2.1
     simp only [List.cons_append, List.nil_append, List.nodup_cons] at h2
     exact h2.1 (by simp only [List.mem_flatMap]; exact ⟨m₁, h1, hb⟩)
  ·rw [h]; exact hm' _ hother hnew hk0
 ·simpa using hs.fr.size
 ·intro k hk' hn
  have h1 := hs.fr.block k hk' hn
  rw [hbl]
  refine ⟨?_, h1.2⟩
  rw [hother k (fun e => h1.2 (e ▸ hgM))]
  exact h1.1
theorem RepL.append {w : World} {N : List Nat} : ∀ {cs ds : List AV} {r s : List Value}, RepL w N cs r → RepL w N ds s → RepL w N (cs ++ ds) (r ++ s)
 | [], ds, r, s, h, h' => by simp only [RepL] at h; subst h; simpa using h'
 | c :: cs, ds, r, s, h, h' => by
  simp only [RepL] at h
  obtain ⟨v, vs, rfl, h1, h2⟩ := h
  simp only [List.cons_append, RepL]
  exact ⟨v, _, rfl, h1, RepL.append h2 h'⟩
theorem RepL.sh {w : World} {N : List Nat} : ∀ {cs : List AV} {r : List Value}, RepL w N cs r → ∀ v ∈ r, shV v = 0
 | [], r, h => by simp only [RepL] at h; subst h; simp
 | c :: cs, r, h => by
  simp only [RepL] at h
  obtain ⟨v, vs, rfl, h1, h2⟩ := h
  intro u hu
  rcases List.mem_cons.1 hu with rfl | hu
  ·exact h1.2.1
  ·exact RepL.sh h2 u hu
def splice (cs : List AV) (o : Nat) (new : List AV) : List AV := cs.take o ++ new ++ cs.drop (o + new.length)
theorem RepL.splice {w : World} {N : List Nat} {cs new : List AV} {cur : Array Value} {news : List Value} {o : Nat} (h : RepL w N cs cur.toList) (hn : RepL w N new news) : RepL w N (splice cs o new) (wr cur o news).toList := by
 unfold Vl.splice wr
 rw [List.toList_toArray, hn.length]
 exact ((h.take o).append hn).append (h.drop _)
theorem W.stb (i : Nat) {b o U T k bytes : Nat} {z : Value} {o1 o2 : Operand} {cs : List AV} {av : AV} (h1 : Ov true L o1 (.lit (.pointer (some ⟨b, o, none⟩)))) (h2 : Ov true L o2 av) (hM : M[i]? = some (.box b U cs)) (hT : Ty x.P T k bytes z)
 (ho : av.okc = true) (hk : av.cells.length = k) (hl : Nat.ble (o + k) cs.length = true)
 (next : W x L (M.set i (.box b U (splice cs o av.cells))) (wpList x.P ops Q rest)) :
 W x L M (wpList x.P ops Q (⟨none, .store T o1 o2, ty, pos, aft, none⟩ :: rest)) := by
 refine W.opu (ι := Unit) (fun _ => M.set i (.box b U (splice cs o av.cells))) ?_ (fun _ => next); intro a w hs
 have hr := h2.rep rfl hs
 have hrl := hr.toL ho
 have hlen := hrl.length
 obtain ⟨cur, hc, hcs⟩ := box_at (N := []) hs.mem hM
 have hcl := hcs.length
 have hl' := Nat.le_of_ble_eq_true hl
 simp at hlen hcl
 have hst := run_storeCells (P := x.P) (g := b) (off := o) (T := U) (lo := 0) (hi := 0) (a.eval o2).cells.toList 0 cur w hc (by simp; omega) (.inl (Nat.le_refl _)) hrl.sh
 refine ⟨{ w with heap := w.heap.setIfInBounds b (.cells (wr cur o (a.eval o2).cells.toList) U (0, 0)) }, (), ?_, ?_⟩
 ·have hne : ¬ ((a.eval o2).cells.size ≠ k) := by omega
  simp only [execOp, h1.lit rfl hs, Instr.storeAt, Instr.sureAddr, storeVar, Sem.run_bind, Sem.run_pure, Result.andThen_ok, hT.size, if_neg hne, hst, Nat.add_zero]
 ·refine hs.write hM rfl rfl ?_
  intro w' hother hnew hk'
  exact ⟨_, hnew, (RepL.keep hk' _ _ hcs).splice (RepL.keep hk' _ _ hrl)⟩
/-! ### rows that are built -/
def PartsOv (L : List (Tmp × Bool × AV)) (k : Nat) : Nat → List (Nat × Operand) → List AV → Prop
 | _, [], [] => True
 | i, (j, o) :: ps, a :: as_ => j = i ∧ Ov true L o a ∧ a.okc = true ∧ a.cells.length = k ∧ PartsOv L k (i + 1) ps as_
 | _, _, _ => False
theorem foldl_set (new : List Value) : ∀ (off j : Nat) (cells : Array Value), off + j + new.length ≤ cells.size →
 (new.zipIdx j).foldl (fun cs (c, j) => cs.setIfInBounds (off + j) c) cells = wr cells (off + j) new := by
 induction new with
 | nil => intro off j cells h; simp [wr_nil]
 | cons v new ih =>
  intro off j cells h
  simp only [List.length_cons] at h
  rw [List.zipIdx_cons, List.foldl_cons]
  rw [ih off (j + 1) (cells.setIfInBounds (off + j) v) (by simp; omega)]
  exact wr_cons cells (off + j) v new (by omega)
theorem RepE.of_parts {w : World} {a : Act} (hs : St x L M a w) {k : Nat} : ∀ {i : Nat} {ps : List (Nat × Operand)} {es : List AV} {cells : Array Value}, PartsOv L k i ps es → (i + es.length) * k ≤ cells.size →
 ∃ cells', Instr.fill (fun i => some (i * k, k)) cells (ps.map fun (i, o) => (i, a.eval o)) = some cells' ∧ cells'.size = cells.size ∧ cells'.toList.take (i * k) = cells.toList.take (i * k) ∧
  RepE w (bl M ++ x.F) k es (cells'.toList.drop (i * k))
 | i, [], [], cells, _, _ => ⟨cells, rfl, rfl, rfl, by simp [RepE]⟩
 | i, (j, o) :: ps, e :: es, cells, h, hsz => by
  obtain ⟨rfl, h1, ho, hk, h2⟩ := h
  have hr := h1.rep rfl hs
  have hrl := hr.toL ho
  have hlen : (a.eval o).cells.size = k := by have := hrl.length; simp at this; omega
  simp only [List.length_cons] at hsz
  have hmul : (j + (es.length + 1)) * k = j * k + (es.length * k + k) := by rw [Nat.add_mul, Nat.add_mul, Nat.one_mul]
  have hmul2 : (j + 1 + es.length) * k = j * k + (es.length * k + k) := by rw [Nat.add_mul, Nat.add_mul, Nat.one_mul]; omega
  have hfold := foldl_set (a.eval o).cells.toList (j * k) 0 cells (by simp [hlen]; omega)
  rw [Nat.add_zero] at hfold
  have hw1 : (wr cells (j * k) (a.eval o).cells.toList).size = cells.size := wr_size _ _ _ (by simp [hlen]; omega)
  obtain ⟨cells', hf, hsz', htk, hE⟩ := RepE.of_parts hs (cells := wr cells (j * k) (a.eval o).cells.toList) h2 (by rw [hw1, hmul2]; omega)
  have hjk : (j + 1) * k = j * k + k := by rw [Nat.add_mul, Nat.one_mul]
  have htk1 : cells'.toList.take (j * k + k) = cells.toList.take (j * k) ++ (a.eval o).cells.toList := by
   rw [← hjk, htk, hjk]
   simp only [wr, List.toList_toArray]
   rw [List.take_append_of_le_length (by simp [hlen]; omega), List.take_of_length_le (by simp [hlen]; omega)]
  refine ⟨cells', ?_, hsz'.trans hw1, ?_, ?_⟩
  ·have hne : ¬ ((a.eval o).cells.size ≠ k ∨ j * k + (a.eval o).cells.size > cells.size) := by rw [hlen]; omega
   simp only [List.map_cons, Instr.fill]
   have e1 : ((a.eval o).cells.size != k || decide (j * k + (a.eval o).cells.size > cells.size)) = false := by
    rw [hlen]; simp; omega
   rw [if_neg (by simpa using hne)]
   rw [← hf]
   congr 1
   rw [← hfold]
   rw [← Array.foldl_toList, Array.toList_zipIdx]
  ·have := congrArg (List.take (j * k)) htk1
   rw [List.take_take, Nat.min_eq_left (by omega), List.take_append_of_le_length (by simp; omega), List.take_take, Nat.min_self] at this
   exact this
  ·simp only [RepE]
   have hd : cells'.toList.drop (j * k) = (a.eval o).cells.toList ++ cells'.toList.drop ((j + 1) * k) := by
    have e1 := List.take_append_drop (j * k + k) cells'.toList
    rw [htk1, List.append_assoc] at e1
    have e2 := congrArg (List.drop (j * k)) e1
    rw [List.drop_append_of_le_length (by simp; omega), List.drop_of_length_le (by simp; omega), List.nil_append] at e2
    rw [← e2, hjk]
   rw [hd]
   refine ⟨by simp [hlen], ?_, ?_⟩
   ·rw [List.take_append_of_le_length (by simp [hlen]), List.take_of_length_le (by simp [hlen])]
    exact hr.2
   ·rw [List.drop_append_of_le_length (by simp [hlen]), List.drop_of_length_le (by simp [hlen]), List.nil_append]
    exact hE
 | _, [], _ :: _, _, h, _ => h.elim
 | _, _ :: _, [], _, h, _ => h.elim
theorem run_buildSlice {a : Act} {w : World} (hs : St x L M a w) {T E k bytes n : Nat} {z : Value} {ps : List (Nat × Operand)} {es : List AV} (hT : x.P.underlying T = some (.slice E)) (hE : Ty x.P E k bytes z) (hp : PartsOv L k 0 ps es) (hn : n = es.length) (hb : n * k ≤ 16777216) :
 ∃ cells, (execOp a.eval ⟨none, .buildSlice T n ps.toArray, ty, "", #[], none⟩).run x.P w = .ok (.value (.slice (some ⟨w.heap.size, 0, none⟩) n n)) (w.alloc (.cells cells E)) ∧ cells.size = n * k ∧ RepE w (bl M ++ x.F) k es cells.toList := by
 have key : ∀ zc : Array Value, ∃ cells', Instr.fill (fun i => some (i * k, k)) ((Array.range (n * k)).map (zc[· % zc.size]!)) (ps.toArray.map fun p => (p.1, a.eval p.2)).toList = some cells' ∧ cells'.size = n * k ∧ RepE w (bl M ++ x.F) k es cells'.toList := by
  intro zc
  obtain ⟨cells', hf, hsz, _, hrE⟩ := RepE.of_parts hs (cells := (Array.range (n * k)).map (zc[· % zc.size]!)) hp (by simp [hn])
  exact ⟨cells', by rw [← hf]; congr 1; simp, by simpa using hsz, by simpa using hrE⟩
 by_cases h0 : n * k = 0
 ·obtain ⟨cells', hf, hsz, hrE⟩ := key #[]
  refine ⟨cells', ?_, hsz, hrE⟩
  simp only [execOp, Instr.buildSlice, Sem.run_bind, run_underlying hT, Result.andThen_ok, hE.size, if_neg (show ¬ n * k > 2 ^ 24 by omega), Sem.run_pure, if_pos h0]
  rw [hf]
  simp [newRow]
 ·obtain ⟨cells', hf, hsz, hrE⟩ := key z.cells
  refine ⟨cells', ?_, hsz, hrE⟩
  simp only [execOp, Instr.buildSlice, Sem.run_bind, run_underlying hT, Result.andThen_ok, hE.size, hE.zero, if_neg (show ¬ n * k > 2 ^ 24 by omega), Sem.run_pure, if_neg h0]
  rw [hf]
  simp [newRow]
theorem W.bs {d : Tmp} {T E k bytes n : Nat} {z : Value} {ps : List (Nat × Operand)} {es : List AV} (hT : x.P.underlying T = some (.slice E)) (hE : Ty x.P E k bytes z) (hp : PartsOv L k 0 ps es) (hn : n = es.length) (hb : n * k ≤ 16777216) (hk1 : Nat.ble 1 k = true) (hd : Nat.blt d x.n = true)
 (next : W x ((d, true, .sl k es) :: L) M (wpList x.P ops Q rest)) : W x L M (wpList x.P ops Q (⟨some d, .buildSlice T n ps.toArray, ty, pos, aft, none⟩ :: rest)) := by
 refine W.opv (ι := Unit) (fun _ => M) (fun _ => .sl k es) hd ?_ (fun _ => next); intro a w hs
 obtain ⟨cells, hr, hsz, hrE⟩ := run_buildSlice (ty := ty) hs hT hE hp hn hb
 obtain ⟨hs', hk, hnew⟩ := hs.allocI (.cells cells E)
 refine ⟨_, _, (), hr, hs', ?_⟩
 rw [hn]
 refine Rep.slI (Nat.le_refl _) ?_ (.inr ⟨w.heap.size, 0, cells, E, (0, 0), rfl, hnew, alloc_new _ _, RepE.keep hk _ _ _ (by simpa using hrE)⟩)
 have : es.length ≤ n * k := by rw [hn]; exact Nat.le_mul_of_pos_right _ (Nat.le_of_ble_eq_true hk1)
 simp only [maxLen]; omega
theorem W.bso {d : Tmp} {T E k bytes n : Nat} {z : Value} {ps : List (Nat × Operand)} {es : List AV} (hT : x.P.underlying T = some (.slice E)) (hE : Ty x.P E k bytes z) (hp : PartsOv L k 0 ps es) (hn : n = es.length) (hb : n * k ≤ 16777216) (hk1 : Nat.ble 1 k = true) (hd : Nat.blt d x.n = true)
 (next : ∀ v, W x ((d, true, .lit v) :: L) (.arr v E k es :: M) (wpList x.P ops Q rest)) : W x L M (wpList x.P ops Q (⟨some d, .buildSlice T n ps.toArray, ty, pos, aft, none⟩ :: rest)) := by
 refine W.opv (ι := Value) (fun v => .arr v E k es :: M) (fun v => .lit v) hd ?_ next; intro a w hs
 obtain ⟨cells, hr, hsz, hrE⟩ := run_buildSlice (ty := ty) hs hT hE hp hn hb
 refine ⟨_, _, .slice (some ⟨w.heap.size, 0, none⟩) n n, hr, ?_, Rep.lit _⟩
 refine hs.alloc _ _ rfl ?_
 intro N hN
 have hle : es.length ≤ n * k := by rw [hn]; exact Nat.le_mul_of_pos_right _ (Nat.le_of_ble_eq_true hk1)
 refine ⟨some ⟨w.heap.size, 0, none⟩, n, by rw [hn], by omega, by simp only [maxLen]; omega, .inr ⟨w.heap.size, 0, cells, 0, 0, rfl, alloc_new _ _, by omega, .inl (Nat.le_refl _), ?_⟩⟩
 refine RepE.keep ?_ _ _ _ (by simpa using hrE)
 intro b c T fr hn hc
 refine ⟨fun h => ?_, by rw [alloc_old _ _ (heap_lt hc)]; exact hc⟩
 rcases (hN b).1 h with h | h
 ·have := heap_lt hc; omega
 ·exact hn h
end mem
end Go.Vl
end
