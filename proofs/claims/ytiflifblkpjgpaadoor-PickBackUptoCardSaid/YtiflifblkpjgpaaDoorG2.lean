/-
  Merged: Str Style Bld Tree Walk CallG Pick Expr ExprL ExprR ExprP PkB Base WName WCheckB WPicksB WBld WStr WTextB WTextT ShelfB Shelf Low WCutB Rnd.
-/
import Derived.Test.YtiflifblkpjgpaaDoorG1
import Derived.Laws.StructEq
import Derived.Lib.Builder
import Derived.Lib.UnsafeStr
import Derived.Laws.Pointers
import Derived.Laws.Externs
import Derived.Laws.Cover3
import Derived.Lib.Join
import Derived.Lib.Bytealg
import Derived.Lib.Strings
import Derived.Test.YtiflifblkpjgpaaDoorRows
import Derived.Below
import Derived.Shelf.Strings.Builder1
import Derived.Shelf.Small.Wraps
import Derived.Shelf.Strings.BuilderF
import Derived.Shelf.Strings.BuilderK
import Derived.Shelf.Strings.Search1
import Derived.Shelf.Strings.Search2
import Derived.Shelf.Strings.Search3
import Derived.Shelf.Strings.Cut
import Derived.Shelf.LaysM
import Derived.Shelf.Strings.Shaped
import Derived.Shelf.Strings.Prefix
import Derived.Shelf.Unicode.Decode
import Derived.Shelf.Unicode.DecodeSlow
import Derived.Shelf.Unicode.DecodeAny
import Derived.Test.YtiflifblkpjgpaaDoorProg
import Derived.RangeFuncRecord
import Derived.RangeFuncCalls
import Derived.TacticsIn

section
set_option linter.unusedVariables false
set_option linter.unusedSimpArgs false
set_option linter.unusedSectionVars false
namespace Go.Vl
open Go Go.Sem
variable {x : Cx} {g : Bool} {L : List (Tmp × Bool × AV)} {M : List ME} {ty : TypeId}

def PlacesAt (P : Program) : List Field → List (Nat × Nat) → Prop
  | [], [] => True
  | f :: fs, (o, k) :: ps => f.offset = o ∧ (∀ w, (sizeOf f.type).run P w = .ok k w) ∧ PlacesAt P fs ps
  | _, _ => False
def StructAt (P : Program) (T : TypeId) (pl : List (Nat × Nat)) : Prop := ∃ fields : List Field, P.underlying T = some (.struct fields.toArray) ∧ PlacesAt P fields pl
theorem PlacesAt.run {P : Program} : ∀ {fs : List Field} {ps : List (Nat × Nat)}, PlacesAt P fs ps → ∀ w, (fs.mapM (fun (f : Field) => (do Pure.pure (f.offset, ← sizeOf f.type) : Sem (Nat × Nat)))).run P w = .ok ps w
  | [], [], _, w => by simp
  | f :: fs, (o, k) :: ps, h, w => by
    obtain ⟨rfl, h1, h2⟩ := h
    rw [List.mapM_cons]
    simp only [Sem.run_bind, h1, Result.andThen_ok, Sem.run_pure, h2.run w]
  | [], _ :: _, h, _ => h.elim
  | _ :: _, [], h, _ => h.elim

def BuildOv (g : Bool) (L : List (Tmp × Bool × AV)) (pl : List (Nat × Nat)) : List (Nat × Operand) → List AV → List AV → Prop
  | [], cs, res => cs = res
  | (f, o) :: ps, cs, res => ∃ off k av, pl[f]? = some (off, k) ∧ Ov g L o av ∧ av.okc = true ∧ av.cells.length = k ∧ Nat.ble (off + k) cs.length = true ∧ BuildOv g L pl ps (Vl.splice cs off av.cells) res

theorem BuildOv.run {a : Act} {w : World} (hs : St x L M a w) {pl : List (Nat × Nat)} : ∀ {ps : List (Nat × Operand)} {cs res : List AV} {cells : Array Value}, BuildOv true L pl ps cs res → RepL w (bl M ++ x.F) cs cells.toList →
    ∃ cells', Instr.fill (pl.toArray[·]?) cells (ps.map fun (i, o) => (i, a.eval o)) = some cells' ∧ RepL w (bl M ++ x.F) res cells'.toList
  | [], cs, res, cells, h, hr => by
    have h' : cs = res := h
    subst h'
    exact ⟨cells, rfl, hr⟩
  | (f, o) :: ps, cs, res, cells, h, hr => by
    obtain ⟨off, k, av, h1, h2, ho, hk, hl, h3⟩ := h
    have hv := h2.rep rfl hs
    have hvl := hv.toL ho
    have hlen : (a.eval o).cells.size = k := by have := hvl.length; simp at this; omega
    have hcl := hr.length
    have hl' := Nat.le_of_ble_eq_true hl
    simp at hcl
    have hfold := foldl_set (a.eval o).cells.toList off 0 cells (by simp [hlen]; omega)
    rw [Nat.add_zero] at hfold
    obtain ⟨cells', hf, hres⟩ := BuildOv.run hs (cells := wr cells off (a.eval o).cells.toList) h3 (hr.splice hvl)
    refine ⟨cells', ?_, hres⟩
    have hpl : (pl.toArray[f]? : Option (Nat × Nat)) = some (off, k) := by simpa using h1
    simp only [List.map_cons, Instr.fill, hpl]
    have hne : ¬ ((a.eval o).cells.size ≠ k ∨ off + (a.eval o).cells.size > cells.size) := by rw [hlen]; omega
    rw [if_neg (by simpa using hne)]
    rw [← hf]
    congr 1
    rw [← hfold]
    rw [← Array.foldl_toList, Array.toList_zipIdx]

theorem RepL.lits {w : World} {N : List Nat} : ∀ (vs : List Value), vs.all (fun v => shV v == 0) = true → RepL w N (vs.map .lit) vs
  | [], _ => by simp [RepL]
  | v :: vs, h => by
    simp only [List.all_cons, Bool.and_eq_true, beq_iff_eq] at h
    simp only [List.map_cons, RepL]
    refine ⟨v, vs, rfl, ⟨h.1, h.1, ?_⟩, RepL.lits vs h.2⟩
    simp only [RepC]
    cases v <;> first | rfl | (simp [shV] at h)

theorem Ev.build {T k bytes : Nat} {z : Value} {pl : List (Nat × Nat)} {ps : List (Nat × Operand)} {res : List AV} (hT : Ty x.P T k bytes z) (hst : StructAt x.P T pl) (hz : z.cells.toList.all (fun v => shV v == 0) = true)
    (hb : g = true → BuildOv true L pl ps (z.cells.toList.map .lit) res) : Ev x g L M (.build T ps.toArray) ty (.agg res) := fun a w hs hg => by
  obtain ⟨fields, hT', hp⟩ := hst
  obtain ⟨cells', hf, hres⟩ := BuildOv.run hs (cells := z.cells) (hb hg) (RepL.lits _ hz)
  have hf' : Instr.fill (pl.toArray[·]?) z.cells (ps.toArray.map fun p => (p.1, a.eval p.2)).toList = some cells' := by rw [← hf]; congr 1; simp
  refine ⟨.agg cells', ?_, rfl, by simp only [RepC]; exact hres⟩
  have hm : (fields.toArray.mapM (fun (f : Field) => (do Pure.pure (f.offset, ← sizeOf f.type) : Sem (Nat × Nat)))).run x.P w = .ok pl.toArray w := by
    rw [List.mapM_toArray]
    have h2 := hp.run w
    generalize (fields.mapM (fun (f : Field) => (do Pure.pure (f.offset, ← sizeOf f.type) : Sem (Nat × Nat)))) = m at h2 ⊢
    simp [h2]
  simp only [execOp, Instr.build, Sem.run_bind, hT.zero, run_underlying hT', Result.andThen_ok, hm]
  rw [hf']
  simp

theorem Ev.max {o1 o2 : Operand} {T T' : TypeId} {ki : IntKind} {p q : Int} (h1 : Ov g L o1 (.lit (.int ki p))) (h2 : Ov g L o2 (.lit (.int ki q))) : Ev x g L M (.call ⟨.builtin .max, #[o1, o2], #[T, T']⟩) ty (.lit (.int ki (if q > p then q else p))) := Ev.pure fun a w hs hg => by
  simp [execOp, resolve, invoke, builtin, h1.lit hg hs, h2.lit hg hs, Builtin.max_, Builtin.max2]

/-- a struct of two strings -/
def Str2 (P : Program) (T : TypeId) : Prop := ∃ f1 f2 : Field, P.underlying T = some (.struct (P.fieldsOf T)) ∧ (P.fieldsOf T).toList = [f1, f2] ∧ P.stoodInHeld T = false ∧ P.eqGuardType P.depth T = false ∧
  f1.name ≠ "_" ∧ f2.name ≠ "_" ∧ f1.offset = 0 ∧ f2.offset = 1 ∧ P.underlying f1.type = some .string ∧ P.underlying f2.type = some .string
theorem Str2.of {P : Program} {T : TypeId} {f1 f2 : Field} (hU : P.underlying T = some (.struct #[f1, f2])) (hp : P.stoodInHeld T = false) (hm : P.eqGuardType P.depth T = false) (n1 : f1.name ≠ "_") (n2 : f2.name ≠ "_") (k1 : f1.offset = 0) (k2 : f2.offset = 1)
    (u1 : P.underlying f1.type = some .string) (u2 : P.underlying f2.type = some .string) : Str2 P T := by
  have h : P.fieldsOf T = #[f1, f2] := by rw [Program.fieldsOf, hU]
  exact ⟨f1, f2, by rw [h, hU], by rw [h], hp, hm, n1, n2, k1, k2, u1, u2⟩
theorem run_part_str {P : Program} {T : TypeId} {w : World} {cs : Array Value} {o : Nat} {v : Value} (hT : P.underlying T = some .string) (hv : cs[o]? = some v) : (part T cs o).run P w = .ok v w := by
  have := IsAgg.run (P := P) (T := T) (b := false) ⟨_, hT, rfl⟩ w
  simp [part, this, hv]
end Go.Vl
end

section
set_option linter.unusedVariables false
set_option linter.unusedSimpArgs false
namespace Go.Vl
abbrev Dc := List UInt8 × List UInt8
abbrev dav (d : Dc) : AV := .agg [.str d.1, .str d.2]
theorem getD_mapG {α : Type} (f : α → AV) (z : α) (l : List α) (i : Nat) (h : i < l.length) : (l.map f)[i]? = some (f (l.getD i z)) := by
  rw [List.getD_eq_getElem?_getD, List.getElem?_map, List.getElem?_eq_getElem h]; rfl
theorem getD_memG {α : Type} (z : α) (l : List α) (i : Nat) (h : i < l.length) : l.getD i z ∈ l := by
  rw [List.getD_eq_getElem?_getD, List.getElem?_eq_getElem h]; exact List.getElem_mem h
theorem take_getDG {α : Type} (z : α) (l : List α) (i : Nat) (h : i < l.length) : l.take (i + 1) = l.take i ++ [l.getD i z] := by
  rw [List.take_add_one, List.getD_eq_getElem?_getD, List.getElem?_eq_getElem h]; rfl
theorem pick_mod (l : List (List UInt8)) (z : Int) (n : Nat) (h : l.length = n) (hn : 0 < n) : ∃ s ∈ l, (l.map AV.str)[(z % (n : Int)).toNat]? = some (.str s) := by
  have h1 := Int.emod_nonneg z (show (n : Int) ≠ 0 by omega)
  have h2 := Int.emod_lt_of_pos z (show (0 : Int) < n by omega)
  exact ⟨_, getD_memG [] l _ (by omega), getD_mapG AV.str [] l _ (by omega)⟩
theorem any_take_false {α : Type} (p : α → Bool) (l : List α) (h : ∀ d ∈ l, p d = false) : l.any p = false := by
  rw [List.any_eq_false]; intro d hd; rw [h d hd]; simp
def only (ns : List (List UInt8)) : List Dc → List Dc
  | [] => []
  | d :: t => if (ns.any fun s => d.1 == s) && !(t.any fun e => e.1 == d.1) then d :: only ns t else only ns t
abbrev nmc : List UInt8 := [99, 111, 108, 111, 114]
abbrev nma : List UInt8 := [97, 45, 98]
abbrev nms : List (List UInt8) := [nmc, nma]
end Go.Vl
end

section
set_option linter.unusedVariables false
set_option linter.unusedSimpArgs false
set_option linter.unusedSectionVars false
namespace Go.Vl
open Go Go.Sem
section ev
variable {x : Cx} {g : Bool} {L : List (Tmp × Bool × AV)} {M : List ME} {ty : TypeId} {T T' : TypeId} {o1 o2 : Operand}

theorem Ev.nilc {a : Addr} (h1 : Ov g L o1 (.lit (.pointer (some a)))) : Ev x g L M (.nilCheck o1) ty (.lit (.pointer (some a))) := Ev.pure fun ac w hs hg => by
  simp [execOp, h1.lit hg hs]
theorem Ev.eqpn {p : Option Addr} {te : TypeId} (h1 : Ov g L o1 (.lit (.pointer p))) (hT : x.P.underlying T = some (.pointer te)) : Ev x g L M (.binOp .eql T o1 (.const (.pointer none)) T') ty (.lit (.bool p.isNone)) := Ev.pure fun ac w hs hg => by
  have hp : x.P.underlying T = some (.pointer (x.P.pointee T)) := by rw [hT]; simp [Program.pointee, hT]
  have hv : ac.eval (.const (.pointer none)) = .pointer none := rfl
  simp only [execOp, h1.lit hg hs, hv, eqGuard_at_pointer, Sem.run_bind, Sem.run_pure, Result.andThen_ok, run_eql_pointer_nil w T p hp]
theorem Ev.nep {a : Addr} {te k bytes : Nat} {z : Value} (h1 : Ov g L o1 (.lit (.pointer (some a)))) (h2 : Ov g L o2 (.lit (.pointer (some a)))) (hT : x.P.underlying T = some (.pointer te)) (hE : Ty x.P te k bytes z) :
    Ev x g L M (.binOp .neq T o1 o2 T') ty (.lit (.bool false)) := Ev.pure fun ac w hs hg => by
  obtain ⟨j, hj, _⟩ := hE
  simp only [execOp, h1.lit hg hs, h2.lit hg hs, eqGuard_at_pointer, Sem.run_bind, Sem.run_pure, Result.andThen_ok, Lib.run_neq_ptr_same w a hT hj]
theorem Ev.touns (i : Nat) {b U te k bytes : Nat} {z : Value} {c : AV} {cs : List AV} (h1 : Ov g L o1 (.lit (.pointer (some ⟨b, 0, none⟩)))) (hM : M[i]? = some (.box b U (c :: cs))) (hT : x.P.underlying T = some (.pointer te)) (hT' : x.P.underlying T' = some .unsafePointer) (hE : Ty x.P te (k + 1) bytes z) :
    Ev x g L M (.convert T T' o1) ty (.lit (.pointer (some ⟨b, 0, none⟩))) := Ev.pure fun ac w hs hg => by
  obtain ⟨j, hj, hk, _⟩ := hE
  obtain ⟨cur, hc, hcs⟩ := box_at (N := []) hs.mem hM
  have hl := hcs.length
  simp at hl
  simp only [execOp, h1.lit hg hs]
  simp [Lib.run_to_unsafe (P := x.P) w ⟨b, 0, none⟩ hT hT' hj (by omega) (e := U) (cells := cur.size) (by simp [World.shape?, hc]) (by show 0 < cur.size; omega)]
theorem Ev.fromuns (i : Nat) {b U te : Nat} {k bytes : Nat} {z : Value} {cs : List AV} (h1 : Ov g L o1 (.lit (.pointer (some ⟨b, 0, none⟩)))) (hM : M[i]? = some (.box b U cs)) (hT : x.P.underlying T = some .unsafePointer) (hT' : x.P.underlying T' = some (.pointer te)) (hE : Ty x.P te k bytes z)
    (hl : liesAt x.P x.P.depth U (cs.length / x.P.cellsOf U) 0 te 1 = true) : Ev x g L M (.convert T T' o1) ty (.lit (.pointer (some ⟨b, 0, none⟩))) := Ev.pure fun ac w hs hg => by
  obtain ⟨j, hj, hk, _⟩ := hE
  obtain ⟨cur, hc, hcs⟩ := box_at (N := []) hs.mem hM
  have hl' := hcs.length
  simp at hl'
  simp only [execOp, h1.lit hg hs]
  simp [Lib.run_from_unsafe (P := x.P) w ⟨b, 0, none⟩ hT hT' hj (e := U) (cells := cur.size) (by simp [World.shape?, hc]) (by rw [← hl'] at hl; exact hl)]
theorem Ev.noesc {f : FuncId} {fn : Func} {ats : Array TypeId} {av : AV} (hf : x.P.funcs[f]? = some fn) (hnm : (fn.name == "runtime.NumGoroutine") = false) (hb : fn.body.isNone = true) (hn : Extern.findNext fn = none) (he : Extern.find fn = some Extern.AbiNoEscape.same) (h1 : Ov g L o1 av) :
    Ev x g L M (.call ⟨.value (.func f), #[o1], ats⟩) ty av := fun a w hs hg => by
  have hv : a.eval (.func f) = .func (.func f) #[] #[] := rfl
  refine ⟨a.eval o1, ?_, h1.rep hg hs⟩
  have h := run_callFunc_extern hf hnm hb hn he #[a.eval o1] w
  rw [Lib.run_noEscape] at h
  simp only [execOp, resolve, hv, Deferred.ofValue, Sem.run_bind, Sem.run_pure, Result.andThen_ok, invoke]
  simp [h]
/-- the address of a row's first element -/
def dataOf : Value → Value
  | .slice a _ _ => .pointer a
  | v => v
def deadOf : Value → Value
  | .slice (some ⟨g, _, _⟩) _ _ => .slice (some ⟨g, 0, none⟩) 0 0
  | v => v
theorem Ev.usd {i : Nat} {v : Value} {U k : Nat} {es : List AV} (h1 : Ov g L o1 (.lit v)) (hM : M[i]? = some (.arr v U k es)) (hv : v = .slice none 0 0 ∨ es ≠ []) : Ev x g L M (.call ⟨.builtin .unsafeSliceData, #[o1], #[T]⟩) ty (.lit (dataOf v)) := Ev.pure fun ac w hs hg => by
  obtain ⟨ad, cap, e, h2, h3, _⟩ := hs.mem.holds _ (List.mem_of_getElem? hM)
  have e1 := h1.lit hg hs
  rw [e] at e1
  subst e
  cases ad with
  | none =>
    have h := Lib.run_unsafeSliceData_nil (P := x.P) w #[T] ty es.length cap
    simp [execOp, resolve, invoke, builtin, e1, h, dataOf]
  | some a =>
    have hc : cap ≠ 0 := by
      rcases hv with hv | hv
      · cases hv
      · have : es.length ≠ 0 := fun h => hv (List.eq_nil_of_length_eq_zero h)
        omega
    have h := Lib.run_unsafeSliceData_row (P := x.P) w #[T] ty a es.length cap hc
    simp [execOp, resolve, invoke, builtin, e1, h, dataOf]
end ev

theorem liesAt_off {P : Program} {e : TypeId} (hc : P.cellsOf e = 1) (count off n : Nat) (hn : off + n ≤ count) : liesAt P P.depth e count off e n = true := by
  have hd : P.depth = (2 * (P.types.size + Made.depth) + 1) + 1 := rfl
  rw [hd]
  simp only [liesAt, Bool.or_eq_true]
  left
  rw [hd]
  simp [rowAt, hc, hn, sameLayout]
  exact .inl (Nat.mod_one off)
theorem run_ustr {P : Program} (w : World) (pt it ty e : TypeId) (hp : P.underlying pt = some (.pointer e)) (hc : P.cellsOf e = 1) (g off cells : Nat) (hsh : w.shape? g = some (e, cells)) (l : List UInt8) (h0 : l ≠ []) (hn : off + l.length ≤ cells) (h63 : l.length ≤ 9223372036854775807)
    (hcell : ∀ j x, l[j]? = some x → w.cell? ((⟨g, off, none⟩ : Addr).add j) = some (.int .u8 x.toNat)) :
    (Builtin.unsafeString_ #[pt, it] ty #[.pointer (some ⟨g, off, none⟩), .int .i64 l.length]).run P w = .ok (.string ⟨l.toArray⟩) (w.freeze ⟨g, off, none⟩ l.length) := by
  have hl : l.length ≠ 0 := by simpa using h0
  have hlb := Lib.run_loadBytes (P := P) w l ⟨g, off, none⟩ .empty hcell
  have hlies := liesAt_off (P := P) hc (cells / P.cellsOf e) off l.length (by rw [hc]; simpa using hn)
  have h63' : ¬ (9223372036854775807 : Int) < (l.length : Int) := by omega
  have hdef : Builtin.unsafeString_ #[pt, it] ty #[.pointer (some ⟨g, off, none⟩), .int .i64 l.length] =
      (do
        let n ← asInt (.int .i64 l.length)
        if n < 0 then runtimePanic (.error "unsafe.String: len out of range")
        if n > IntKind.i64.max then unsupported (.unsafePointer "String: a length above the largest int")
        if n = 0 then Pure.pure (.string .empty)
        else if ← variablesAt ⟨g, off, none⟩ (← elemOf pt) n.toNat then do
          let s ← loadBytes ⟨g, off, none⟩ .empty n.toNat
          Go.freeze ⟨g, off, none⟩ n.toNat
          Pure.pure (.string s)
        else unsupported (.unsafePointer "String: not so many bytes at ptr")) := rfl
  rw [hdef]
  have hmax : IntKind.i64.max = 9223372036854775807 := rfl
  have hneg : ¬ (l.length : Int) < 0 := by omega
  simp [asInt, asIntOf, hmax, h63', hneg, hl, variablesAt, hsh, elemOf, run_underlying hp, hlies, hlb]
theorem u8_cells {w : World} {N : List Nat} : ∀ {l : List UInt8} {row : List Value}, RepE w N 1 (l.map AV.u8) row → ∀ (j : Nat) (y : UInt8), l[j]? = some y → row[j]? = some (.int .u8 y.toNat)
  | [], _, _, j, y, h => by simp at h
  | b :: l, row, hr, j, y, h => by
    simp only [List.map_cons, RepE] at hr
    obtain ⟨h1, h2, h3⟩ := hr
    cases row with
    | nil => simp at h1
    | cons v row =>
      cases j with
      | zero =>
        simp at h; subst h
        simp only [RepC] at h2
        have h2' : [v] = [Value.int .u8 (b.toNat : Int)] := h2
        simp only [List.getElem?_cons_zero, Option.some.injEq]
        exact (List.cons.inj h2').1
      | succ j =>
        have := u8_cells h3 j y (by simpa using h)
        simpa using this
theorem set_same {α : Type} {l : List α} {i : Nat} {a : α} (h : l[i]? = some a) : l.set i a = l := by
  apply List.ext_getElem?
  intro j
  rw [List.getElem?_set]
  split
  · rename_i e; subst e
    split
    · exact h.symm
    · rename_i hl; rw [List.getElem?_eq_none (by omega)] at h; cases h
  · rfl
theorem freeze_set {w : World} {g off n lo hi : Nat} {cur : Array Value} {T : TypeId} (h : w.heap[g]? = some (.cells cur T (lo, hi))) (hn : n ≠ 0) :
    w.freeze ⟨g, off, none⟩ n = { w with heap := w.heap.setIfInBounds g (.cells cur T (if lo == hi then (off, off + n) else (min lo off, max hi (off + n)))) } := by
  unfold World.freeze
  rw [if_neg hn]
  congr 1
  apply Array.ext_getElem?
  intro j
  rw [Array.getElem?_modify, Array.getElem?_setIfInBounds]
  have hlt : g < w.heap.size := heap_lt h
  split
  · rename_i e; subst e
    rw [h]
    simp [hlt]
  · rfl
/-- what an own row's slice is -/
theorem W.arr_inv {x : Cx} {L : List (Tmp × Bool × AV)} {M : List ME} {R : Act → World → Prop} (i : Nat) {v : Value} {U k : Nat} {es : List AV} (hM : M[i]? = some (.arr v U k es)) (h : ∀ a n c, v = .slice a n c → W x L M R) : W x L M R := fun a w hs => by
  obtain ⟨ad, cap, e, _⟩ := hs.mem.holds _ (List.mem_of_getElem? hM)
  exact h _ _ _ e a w hs
section str
variable {x : Cx} {L : List (Tmp × Bool × AV)} {M : List ME} {ty : TypeId} {T1 T2 : TypeId} {o1 o2 : Operand} {ops : Array Oper} {Q : Exit → Act → World → Prop} {rest : List Oper} {pos : String} {aft : Array Edge}
theorem W.ustr (i : Nat) {d : Tmp} {v : Value} {U : TypeId} {l : List UInt8} (h1 : Ov true L o1 (.lit (dataOf v))) (h2 : Ov true L o2 (.lit (.int .i64 (l.length : Int)))) (hM : M[i]? = some (.arr v U 1 (l.map AV.u8))) (hv : v = .slice none 0 0 ∨ l ≠ [])
    (hT : x.P.underlying T1 = some (.pointer U)) (hc : x.P.cellsOf U = 1) (hl : l.length ≤ 9223372036854775807) (hd : Nat.blt d x.n = true)
    (next : W x ((d, true, .str l) :: L) (M.set i (.arr (deadOf v) U 1 [])) (wpList x.P ops Q rest)) :
    W x L M (wpList x.P ops Q (⟨some d, .call ⟨.builtin .unsafeString, #[o1, o2], #[T1, T2]⟩, ty, pos, aft, none⟩ :: rest)) := by
  refine W.opv (ι := Unit) (fun _ => M.set i (.arr (deadOf v) U 1 [])) (fun _ => .str l) hd ?_ (fun _ => next)
  intro a w hs
  have e1 := h1.lit rfl hs
  have e2 := h2.lit rfl hs
  by_cases hl0 : l = []
  · subst hl0
    obtain rfl : v = .slice none 0 0 := by
      rcases hv with h | h
      · exact h
      · exact absurd rfl h
    refine ⟨.string ⟨[].toArray⟩, w, (), ?_, ?_, Rep.lit _⟩
    · have h := Lib.run_unsafeString_none (P := x.P) w T1 T2 ty none
      simp only [List.length_nil] at e2
      have e1' : a.eval o1 = .pointer none := e1
      simp [execOp, resolve, invoke, builtin, e1', e2]
      exact congrArg (fun r => Result.andThen r _) h
    · rw [show M.set i (.arr (deadOf (.slice none 0 0)) U 1 []) = M from set_same hM]
      exact hs
  · obtain ⟨ad, cap, e, hlc, hcm, hcase⟩ := hs.mem.holds _ (List.mem_of_getElem? hM)
    rw [List.length_map] at e hlc
    have hln : l.length ≠ 0 := fun h => hl0 (List.eq_nil_of_length_eq_zero h)
    rcases hcase with ⟨_, h0⟩ | ⟨g, off, cur, lo, hi, rfl, hg, hsz, hfr, hrE⟩
    · omega
    · subst e
      have e1' : a.eval o1 = .pointer (some ⟨g, off, none⟩) := e1
      have hcell : ∀ j y, l[j]? = some y → w.cell? ((⟨g, off, none⟩ : Addr).add j) = some (.int .u8 y.toNat) := by
        intro j y hj
        rw [Addr.add_lit, cell_of hg]
        have := u8_cells hrE j y hj
        rw [List.getElem?_drop] at this
        simpa using this
      have hrun := run_ustr (P := x.P) w T1 T2 ty U hT hc g off cur.size (by simp [World.shape?, hg]) l hl0 (by omega) hl hcell
      rw [freeze_set hg hln] at hrun
      refine ⟨.string ⟨l.toArray⟩, { w with heap := w.heap.setIfInBounds g (.cells cur U (if lo == hi then (off, off + l.length) else (min lo off, max hi (off + l.length)))) }, (), ?_, ?_, Rep.lit _⟩
      · simp [execOp, resolve, invoke, builtin, e1', e2, hrun]
      · refine hs.write hM rfl rfl ?_
        intro w' hother hnew hk
        exact ⟨some ⟨g, 0, none⟩, 0, rfl, Nat.le_refl _, by simp [maxLen], .inr ⟨g, 0, cur, _, _, rfl, hnew, by omega, .inr (by omega), by simp [RepE]⟩⟩
end str
end Go.Vl
end

section
set_option linter.unusedVariables false
set_option linter.unusedSimpArgs false
namespace Go.Vl
open Go Go.Sem
inductive Nd where
  | mk (name : List UInt8) (attrs : List Dc) (text : List UInt8) (parts : List Nd)
namespace Nd
def name : Nd → List UInt8 | mk n _ _ _ => n
def attrs : Nd → List Dc | mk _ a _ _ => a
def text : Nd → List UInt8 | mk _ _ t _ => t
def parts : Nd → List Nd | mk _ _ _ p => p
mutual
def av : Nd → AV
  | mk n a t p => .agg [.str n, .sl 2 (a.map dav), .str t, .sl 4 (avs p)]
def avs : List Nd → List AV
  | [] => []
  | d :: l => av d :: avs l
end
mutual
def sz : Nd → Nat
  | mk _ a _ p => 1 + a.length + szs p
def szs : List Nd → Nat
  | [] => 0
  | d :: l => sz d + szs l
end
theorem avs_map (l : List Nd) : avs l = l.map av := by
  induction l with
  | nil => rfl
  | cons d l ih => rw [avs, ih]; rfl
abbrev avx (d : Nd) : AV := .agg [.str d.name, .sl 2 (d.attrs.map dav), .str d.text, .sl 4 (d.parts.map av)]
theorem av_eq (d : Nd) : d.av = avx d := by
  cases d with | mk n a t p => rw [av, avs_map]; rfl
theorem sz_eq (d : Nd) : d.sz = 1 + d.attrs.length + szs d.parts := by cases d; rfl
theorem szs_append (l m : List Nd) : szs (l ++ m) = szs l + szs m := by
  induction l with
  | nil => simp [szs]
  | cons d l ih => rw [List.cons_append, szs, szs, ih]; omega
theorem szs_len (l : List Nd) : l.length ≤ szs l := by
  induction l with
  | nil => simp [szs]
  | cons d l ih => rw [szs, List.length_cons, sz_eq]; omega
theorem szs_mem {l : List Nd} {d : Nd} (h : d ∈ l) : d.sz ≤ szs l := by
  induction l with
  | nil => cases h
  | cons e l ih =>
    rw [szs]
    rcases List.mem_cons.1 h with rfl | h
    · omega
    · have := ih h; omega
mutual
def cnt : Nd → Nat
  | mk _ _ _ p => 1 + cnts p
def cnts : List Nd → Nat
  | [] => 0
  | d :: l => cnt d + cnts l
end
mutual
theorem cnt_le : ∀ d : Nd, d.cnt ≤ d.sz
  | mk _ a _ p => by have := cnts_le p; simp only [cnt, sz]; omega
theorem cnts_le : ∀ l : List Nd, cnts l ≤ szs l
  | [] => Nat.le_refl _
  | d :: l => by have := cnt_le d; have := cnts_le l; simp only [cnts, szs]; omega
end
mutual
def pths : Nd → List (List Int)
  | mk _ _ _ p => pthsFrom 0 p
def pthsFrom : Nat → List Nd → List (List Int)
  | _, [] => []
  | k, d :: l => [(k : Int)] :: ((pths d).map ((k : Int) :: ·) ++ pthsFrom (k + 1) l)
end
theorem pths_eq (d : Nd) : d.pths = pthsFrom 0 d.parts := by cases d; rfl
mutual
theorem pths_len : ∀ d : Nd, d.pths.length + 1 = d.cnt
  | mk _ _ _ p => by have := pthsFrom_len p 0; simp only [pths, cnt]; omega
theorem pthsFrom_len : ∀ (l : List Nd) (k : Nat), (pthsFrom k l).length = cnts l
  | [], _ => rfl
  | d :: l, k => by have h1 := pths_len d; have h2 := pthsFrom_len l (k + 1); simp only [pthsFrom, cnts, List.length_cons, List.length_append, List.length_map]; omega
end
mutual
theorem pths_deep : ∀ (d : Nd) (p : List Int), p ∈ d.pths → p.length < d.sz
  | mk _ a _ q, p, h => by have := pthsFrom_deep q 0 p h; simp only [sz]; omega
theorem pthsFrom_deep : ∀ (l : List Nd) (k : Nat) (p : List Int), p ∈ pthsFrom k l → p.length ≤ szs l
  | [], _, _, h => by simp [pthsFrom] at h
  | d :: l, k, p, h => by
    simp only [pthsFrom, List.mem_cons, List.mem_append, List.mem_map] at h
    have h1 := sz_eq d
    rcases h with rfl | ⟨q, hq, rfl⟩ | h
    · simp only [szs, List.length_singleton]; omega
    · have := pths_deep d q hq; simp only [szs, List.length_cons]; omega
    · have := pthsFrom_deep l (k + 1) p h; simp only [szs]; omega
end
def dflt : Nd := mk [] [] [] []
theorem at_av (l : List Nd) (i : Nat) (h : i < l.length) : (l.map av)[i]? = some (avx (l.getD i dflt)) := by
  rw [← av_eq]; exact getD_mapG av dflt l i h
theorem map_snoc (l : List Nd) (d : Nd) : (l ++ [d]).map av = l.map av ++ [avx d] := by rw [List.map_append, ← av_eq]; rfl
theorem take_snoc (l : List Nd) (i : Nat) (h : i < l.length) : (l.take (i + 1)).map av = (l.take i).map av ++ [avx (l.getD i dflt)] := by
  rw [take_getDG dflt l i h, map_snoc]
theorem okc_avs (l : List Nd) : ∀ e ∈ l.map av, e.okc = true ∧ e.cells.length = 4 := by
  intro e he
  obtain ⟨d, _, rfl⟩ := List.mem_map.1 he
  rw [av_eq]; exact ⟨rfl, rfl⟩
end Nd
end Go.Vl
end

section
set_option linter.unusedVariables false
set_option linter.unusedSimpArgs false
namespace Go.Vl
/-- nil stands for the row of no element -/
def NilL : List AV → List AV → Prop
  | [], [] => True
  | a :: as_, b :: bs => (a = b ∨ (a = .lit (.slice none 0 0) ∧ ∃ k, b = .sl k [])) ∧ NilL as_ bs
  | _, _ => False
theorem NilL.rep {w : World} {N : List Nat} : ∀ {as_ bs : List AV} {row : List Value}, NilL as_ bs → RepL w N as_ row → RepL w N bs row
  | [], [], _, _, hr => hr
  | a :: as_, b :: bs, row, h, hr => by
    simp only [RepL] at hr ⊢
    obtain ⟨v, vs, e, ⟨h1, h2, h3⟩, h4⟩ := hr
    refine ⟨v, vs, e, ?_, NilL.rep h.2 h4⟩
    rcases h.1 with rfl | ⟨rfl, k, rfl⟩
    · exact ⟨h1, h2, h3⟩
    · have hv0 : [v] = (Value.slice none 0 0).cells.toList := by simpa only [RepC] using h3
      have hv : [v] = [Value.slice none 0 0] := hv0
      obtain rfl := (List.cons.inj hv).1
      exact ⟨rfl, rfl, by simp only [RepC]; exact ⟨none, 0, rfl, Nat.le_refl _, by simp [maxLen], .inl trivial⟩⟩
  | [], _ :: _, _, h, _ => h.elim
  | _ :: _, [], _, h, _ => h.elim
namespace Nd
/-- path p leads to d -/
def atP : List Nd → List Int → Nd → Prop
  | _, [], _ => False
  | l, k :: p, d => ∃ i : Nat, k = (i : Int) ∧ i < l.length ∧ ((p = [] ∧ l.getD i dflt = d) ∨ (p ≠ [] ∧ atP (l.getD i dflt).parts p d))
theorem mem_paths : ∀ (l : List Nd) (k : Nat) (p : List Int), p ∈ pthsFrom k l → ∃ (i : Nat) (r : List Int), p = ((k + i : Nat) : Int) :: r ∧ i < l.length ∧ (r = [] ∨ r ∈ pthsFrom 0 (l.getD i dflt).parts)
  | [], k, p, h => by simp [pthsFrom] at h
  | d :: l, k, p, h => by
    simp only [pthsFrom, List.mem_cons, List.mem_append, List.mem_map] at h
    rcases h with rfl | ⟨q, hq, rfl⟩ | h
    · exact ⟨0, [], by simp, by simp, .inl rfl⟩
    · exact ⟨0, q, by simp, by simp, .inr (by rw [pths_eq] at hq; exact hq)⟩
    · obtain ⟨i, r, h1, h2, h3⟩ := mem_paths l (k + 1) p h
      exact ⟨i + 1, r, by rw [h1]; congr 2; omega, by simp; omega, by simpa using h3⟩
mutual
def wf : Nd → Prop
  | mk n _ _ p => (n = [] → p = []) ∧ wfs p
def wfs : List Nd → Prop
  | [] => True
  | d :: l => wf d ∧ wfs l
end
/-- one path stands ahead of another -/
def bfr : List Int → List Int → Bool
  | _, [] => false
  | [], _ :: _ => true
  | x :: a, y :: b => if x = y then bfr a b else decide (x < y)
theorem bfr_lt (x y : Int) (a b : List Int) (h : x < y) : bfr (x :: a) (y :: b) = true := by
  have : x ≠ y := by omega
  simp [bfr, this, h]
mutual
theorem pths_ord : ∀ d : Nd, (pths d).Pairwise (fun a b => bfr a b = true)
  | mk _ _ _ p => pthsFrom_ord p 0
theorem pthsFrom_ord : ∀ (l : List Nd) (k : Nat), (pthsFrom k l).Pairwise (fun a b => bfr a b = true)
  | [], _ => List.Pairwise.nil
  | d :: l, k => by
    rw [pthsFrom, List.pairwise_cons, List.pairwise_append, List.pairwise_map]
    refine ⟨?_, ?_, pthsFrom_ord l (k + 1), ?_⟩
    · intro p hp
      rcases List.mem_append.1 hp with hp | hp
      · obtain ⟨q, hq, rfl⟩ := List.mem_map.1 hp
        rw [pths_eq] at hq
        obtain ⟨i, r, rfl, _⟩ := mem_paths _ 0 q hq
        simp [bfr]
      · obtain ⟨i, r, rfl, _⟩ := mem_paths _ (k + 1) p hp
        exact bfr_lt _ _ _ _ (by omega)
    · refine (pths_ord d).imp ?_
      intro a b h
      simpa [bfr] using h
    · intro p hp q hq
      obtain ⟨p', _, rfl⟩ := List.mem_map.1 hp
      obtain ⟨i, r, rfl, _⟩ := mem_paths _ (k + 1) q hq
      exact bfr_lt _ _ _ _ (by omega)
end
end Nd
end Go.Vl
end

section
set_option linter.unusedVariables false
set_option linter.unusedSimpArgs false
set_option linter.unusedSectionVars false
namespace Go.Vl
open Go Go.Sem
section callg
variable {x : Cx} {L : List (Tmp × Bool × AV)} {M : List ME} {ops : Array Oper} {Q : Exit → Act → World → Prop} {rest : List Oper}
theorem W.callg {f : FuncId} {d : Tmp} {fo : Operand} {caps : List Value} {os : List Operand} {ats : Array TypeId} {ty : TypeId} {pos : String} {aft : Array Edge} {avs avs' : List AV} {r : AV} {Min Mr : List ME} {j : Nat} {want : Bool} {t : Tmp} {gb b G : Bool}
    (hj : (ops[j]?).bind (·.dst) = some t) (hl : look L t = some (gb, .lit (.bool b))) (hG : G = (gb && (b == want)))
    (hc : G = true → FnC x.P f avs' Min (fun r' M' => r' = r ∧ M' = Min)) (hfo : G = true → Ov true L fo (.lit (.func (.func f) #[] caps.toArray))) (ha : G = true → ArgsOv L os avs) (he : avs' = avs ++ caps.map .lit) (hM : List.Perm M (Min ++ Mr)) (hd : Nat.blt d x.n = true)
    (next : W x ((d, G, r) :: L) M (wpList x.P ops Q rest)) :
    W x L M (wpList x.P ops Q (⟨some d, .call ⟨.value fo, os.toArray, ats⟩, ty, pos, aft, some (j, want)⟩ :: rest)) := by
  intro a w hs
  have hw := guard_of (d := some d) (op := .call ⟨.value fo, os.toArray, ats⟩) (ty := ty) (pos := pos) (aft := aft) (want := want) hj hl hs
  rw [← hG] at hw
  cases hGv : G with
  | true =>
    have h := W.callv (ops := ops) (Q := Q) (rest := rest) (ats := ats) (ty := ty) (pos := pos) (aft := aft) (hc hGv) (hfo hGv) (ha hGv) he hM hd (fun r' M' hp => by
      obtain ⟨rfl, rfl⟩ := hp
      rw [hGv] at next
      exact W.perm hM.symm next) a w hs
    unfold wpList at h ⊢
    rw [if_pos (by rw [hw, hGv])]
    rw [if_pos (by simp [Region.wanted])] at h
    exact h
  | false =>
    refine wpList_cons_skip (by rw [hw, hGv]) ?_
    rw [hGv] at next
    exact next _ _ (hs.put hd false r undef (by simp) (fun _ => rfl))
theorem W.callgT {f : FuncId} {d : Tmp} {fo : Operand} {caps : List Value} {os : List Operand} {ats : Array TypeId} {ty : TypeId} {pos : String} {aft : Array Edge} {avs avs' : List AV} {r : AV} {Min Mr : List ME} {j : Nat} {t : Tmp} {b : Bool}
    (hj : (ops[j]?).bind (·.dst) = some t) (hl : look L t = some (true, .lit (.bool b)))
    (hc : (b) = true → FnC x.P f avs' Min (fun r' M' => r' = r ∧ M' = Min)) (hfo : (b) = true → Ov true L fo (.lit (.func (.func f) #[] caps.toArray))) (ha : (b) = true → ArgsOv L os avs) (he : avs' = avs ++ caps.map .lit) (hM : List.Perm M (Min ++ Mr)) (hd : Nat.blt d x.n = true)
    (next : W x ((d, b, r) :: L) M (wpList x.P ops Q rest)) :
    W x L M (wpList x.P ops Q (⟨some d, .call ⟨.value fo, os.toArray, ats⟩, ty, pos, aft, some (j, true)⟩ :: rest)) :=
  W.callg hj hl (by simp) hc hfo ha he hM hd next
theorem W.callgF {f : FuncId} {d : Tmp} {fo : Operand} {caps : List Value} {os : List Operand} {ats : Array TypeId} {ty : TypeId} {pos : String} {aft : Array Edge} {avs avs' : List AV} {r : AV} {Min Mr : List ME} {j : Nat} {t : Tmp} {b : Bool}
    (hj : (ops[j]?).bind (·.dst) = some t) (hl : look L t = some (true, .lit (.bool b)))
    (hc : (!b) = true → FnC x.P f avs' Min (fun r' M' => r' = r ∧ M' = Min)) (hfo : (!b) = true → Ov true L fo (.lit (.func (.func f) #[] caps.toArray))) (ha : (!b) = true → ArgsOv L os avs) (he : avs' = avs ++ caps.map .lit) (hM : List.Perm M (Min ++ Mr)) (hd : Nat.blt d x.n = true)
    (next : W x ((d, !b, r) :: L) M (wpList x.P ops Q rest)) :
    W x L M (wpList x.P ops Q (⟨some d, .call ⟨.value fo, os.toArray, ats⟩, ty, pos, aft, some (j, false)⟩ :: rest)) :=
  W.callg hj hl (by simp) hc hfo ha he hM hd next
end callg
/-- AN ARRAY OF THE CALL's OWN IS WRITTEN NO MORE; what else is known of the slots stays. -/
theorem W.freezeA {x : Cx} {L : List (Tmp × Bool × AV)} {M : List ME} {R : Act → World → Prop} {v : Value} {T k : Nat} {es : List AV} {L' : List (Tmp × Bool × AV)} {M1 M2 D : List ME} (hM : List.Perm M (ME.arr v T k es :: (M1 ++ D))) (hL : FSub v k es L L') (hM2 : FrzMs v k es M1 M2) (h : W x (L' ++ L) M2 R) : W x L M R := by
  intro a w hs
  have h1 : St x L' M2 a w := W.freeze (x := x) (R := fun a w => St x L' M2 a w) hM hL hM2 (fun a w hs => hs) a w hs
  have hp2 : List.Perm M (M1 ++ (ME.arr v T k es :: D)) := hM.trans (List.perm_middle.symm)
  have h2 : St x L M1 a w := by
    obtain ⟨hm, hk, hsub⟩ := hs.mem.sub hp2
    exact ⟨hs.defers, hs.size, fun t g av hl => ⟨fun hg => ((hs.slots t g av hl).1 hg).keep hk, (hs.slots t g av hl).2⟩, hm, hs.fr.sub hsub, hs.old⟩
  refine h a w ⟨h1.defers, h1.size, ?_, h1.mem, h1.fr, h1.old⟩
  intro t g av hl
  rw [look_append] at hl
  cases hx : look L' t with
  | some p => rw [hx, Option.some_or] at hl; obtain rfl := Option.some.inj hl; exact h1.slots t g av hx
  | none =>
    rw [hx, Option.none_or] at hl
    have := h2.slots t g av hl
    rw [hM2.bl]
    exact this
/-- the first place where it holds, or -1 -/
def idxI {α : Type} (p : α → Bool) : List α → Int
  | [] => -1
  | a :: l => if p a then 0 else if idxI p l < 0 then -1 else idxI p l + 1
theorem idxI_any {α : Type} (p : α → Bool) : ∀ l : List α, decide (0 ≤ idxI p l) = l.any p
  | [] => rfl
  | a :: l => by
    have ih := idxI_any p l
    rw [List.any_cons, ← ih, idxI]
    cases h : p a with
    | true => simp
    | false =>
      rw [if_neg (by simp), Bool.false_or]
      split <;> simp <;> omega
theorem idxI_miss {α : Type} (p : α → Bool) : ∀ l : List α, (∀ d ∈ l, p d = false) → idxI p l = -1
  | [], _ => rfl
  | a :: l, h => by rw [idxI, h a (by simp), idxI_miss p l (fun d hd => h d (by simp [hd]))]; simp
theorem idxI_hit {α : Type} (p : α → Bool) (z : α) : ∀ (l : List α) (i : Nat), i < l.length → (∀ d ∈ l.take i, p d = false) → p (l.getD i z) = true → idxI p l = i
  | [], i, h, _, _ => by simp at h
  | a :: l, 0, _, _, h => by
    have h' : p a = true := by simpa using h
    simp [idxI, h']
  | a :: l, i + 1, h1, h2, h3 => by
    have ih := idxI_hit p z l i (by simpa using h1) (fun d hd => h2 d (by simp [hd])) (by simpa using h3)
    rw [idxI, h2 a (by simp), ih]
    simp
    omega
/-- is a text a name? -/
def nameCh (r : Int) : Bool := ((decide (97 ≤ r) && decide (r ≤ 122)) || (decide (48 ≤ r) && decide (r ≤ 57))) || r == 45
def nameOk (s : List UInt8) : Bool := !(((s == [] || decide ((12 : Int) < (s.length : Int))) || decide (((s.getD 0 0).toNat : Int) < 97)) || decide ((122 : Int) < ((s.getD 0 0).toNat : Int))) && !((runes s).any fun r => !(nameCh (r : Int)))
end Go.Vl
end

section
set_option linter.unusedVariables false
set_option linter.unusedSimpArgs false
namespace Go.Vl
structure Pk where
  name : List UInt8
  attr : List UInt8
  deep : Bool
abbrev kav (p : Pk) : AV := .agg [.str p.name, .str p.attr, .bool p.deep]
namespace Pk
abbrev dfl : Pk := ⟨[], [], false⟩
def fits (p : Pk) (d : Nd) : Bool := !(d.name == [] || (p.name != [] && p.name != d.name)) && (p.attr == [] || d.attrs.any fun a => a.1 == p.attr)
abbrev Fl := Nat → Bool
abbrev row (n : Nat) (f : Fl) : AV := .sl 1 ((List.range n).map fun k => AV.bool (f k))
def ahead (ps : List Pk) (r w : Fl) (k : Nat) : Bool := (k == 0 || ((ps.getD k dfl).deep && w (k - 1))) || (!(ps.getD k dfl).deep && r (k - 1))
def ends (ps : List Pk) (r w : Fl) (d : Nd) (k : Nat) : Bool := ahead ps r w k && fits (ps.getD k dfl) d
def far (ps : List Pk) (r w : Fl) (d : Nd) (k : Nat) : Bool := w k || ends ps r w d k
mutual
/-- the paths that are found within a node, among nodes -/
def fnd (ps : List Pk) : Nd → List Int → Fl → Fl → List (List Int)
  | .mk n a t q, path, r, w => fnds ps 0 q path r w
def fnds (ps : List Pk) : Nat → List Nd → List Int → Fl → Fl → List (List Int)
  | _, [], _, _, _ => []
  | i, d :: l, path, r, w =>
    (if d.name = [] then [] else (if ends ps r w d (ps.length - 1) then [path ++ [(i : Int)]] else []) ++ fnd ps d (path ++ [(i : Int)]) (ends ps r w d) (far ps r w d)) ++ fnds ps (i + 1) l path r w
end
theorem fnd_eq (ps : List Pk) (d : Nd) (path : List Int) (r w : Fl) : fnd ps d path r w = fnds ps 0 d.parts path r w := by cases d; rfl
mutual
theorem fnd_len (ps : List Pk) : ∀ (d : Nd) (path : List Int) (r w : Fl), (fnd ps d path r w).length + 1 ≤ d.sz
  | .mk n a t q, path, r, w => by have := fnds_len ps q 0 path r w; simp only [fnd, Nd.sz]; omega
theorem fnds_len (ps : List Pk) : ∀ (l : List Nd) (i : Nat) (path : List Int) (r w : Fl), (fnds ps i l path r w).length ≤ Nd.szs l
  | [], _, _, _, _ => Nat.zero_le _
  | d :: l, i, path, r, w => by
    have h1 := fnd_len ps d (path ++ [(i : Int)]) (ends ps r w d) (far ps r w d)
    have h2 := fnds_len ps l (i + 1) path r w
    rw [fnds, List.length_append, Nd.szs]
    split
    · simp only [List.length_nil]; omega
    · rw [List.length_append]
      split <;> simp only [List.length_nil, List.length_cons] <;> omega
end
mutual
/-- what looser picks find -/
theorem fnd_sub (ps ps' : List Pk) (Rel : Fl → Fl → Fl → Fl → Prop)
    (hs : ∀ d r w r' w', d.name ≠ [] → Rel r w r' w' → Rel (ends ps r w d) (far ps r w d) (ends ps' r' w' d) (far ps' r' w' d) ∧ (ends ps r w d (ps.length - 1) = true → ends ps' r' w' d (ps'.length - 1) = true)) :
    ∀ (d : Nd) (path : List Int) (r w r' w' : Fl), Rel r w r' w' → ∀ q ∈ fnd ps d path r w, q ∈ fnd ps' d path r' w'
  | .mk n a t p, path, r, w, r', w', hr, q, hq => by rw [fnd] at hq ⊢; exact fnds_sub ps ps' Rel hs p 0 path r w r' w' hr q hq
theorem fnds_sub (ps ps' : List Pk) (Rel : Fl → Fl → Fl → Fl → Prop)
    (hs : ∀ d r w r' w', d.name ≠ [] → Rel r w r' w' → Rel (ends ps r w d) (far ps r w d) (ends ps' r' w' d) (far ps' r' w' d) ∧ (ends ps r w d (ps.length - 1) = true → ends ps' r' w' d (ps'.length - 1) = true)) :
    ∀ (l : List Nd) (i : Nat) (path : List Int) (r w r' w' : Fl), Rel r w r' w' → ∀ q ∈ fnds ps i l path r w, q ∈ fnds ps' i l path r' w'
  | [], _, _, _, _, _, _, _, q, hq => by simp [fnds] at hq
  | d :: l, i, path, r, w, r', w', hr, q, hq => by
    rw [fnds, List.mem_append] at hq ⊢
    rcases hq with hq | hq
    · left
      by_cases hn : d.name = []
      · simp [hn] at hq
      · rw [if_neg hn, List.mem_append] at hq ⊢
        obtain ⟨h1, h2⟩ := hs d r w r' w' hn hr
        rcases hq with hq | hq
        · left
          by_cases he : ends ps r w d (ps.length - 1) = true
          · rw [if_pos he] at hq; rw [if_pos (h2 he)]; exact hq
          · rw [if_neg he] at hq; cases hq
        · right
          exact fnd_sub ps ps' Rel hs d _ _ _ _ _ h1 q hq
    · right
      exact fnds_sub ps ps' Rel hs l _ _ _ _ _ _ hr q hq
end
mutual
theorem fnd_sl (ps : List Pk) : ∀ (d : Nd) (path : List Int) (r w : Fl), ∃ S, List.Sublist S (Nd.pths d) ∧ fnd ps d path r w = S.map (path ++ ·)
  | .mk n a t p, path, r, w => by rw [fnd, Nd.pths]; exact fnds_sl ps p 0 path r w
/-- what is found are paths, in their order -/
theorem fnds_sl (ps : List Pk) : ∀ (l : List Nd) (i : Nat) (path : List Int) (r w : Fl), ∃ S, List.Sublist S (Nd.pthsFrom i l) ∧ fnds ps i l path r w = S.map (path ++ ·)
  | [], _, _, _, _ => ⟨[], List.nil_sublist _, rfl⟩
  | d :: l, i, path, r, w => by
    obtain ⟨S1, h1, e1⟩ := fnd_sl ps d (path ++ [(i : Int)]) (ends ps r w d) (far ps r w d)
    obtain ⟨S2, h2, e2⟩ := fnds_sl ps l (i + 1) path r w
    rw [fnds, Nd.pthsFrom, e1, e2]
    have hm : List.Sublist (S1.map ((i : Int) :: ·)) (d.pths.map ((i : Int) :: ·)) := h1.map _
    have em : S1.map ((path ++ [(i : Int)]) ++ ·) = (S1.map ((i : Int) :: ·)).map (path ++ ·) := by
      rw [List.map_map]; congr 1; funext s; simp
    by_cases hn : d.name = []
    · rw [if_pos hn]
      exact ⟨S2, (h2.trans (List.sublist_append_right _ _)).trans (List.sublist_cons_self _ _), rfl⟩
    · rw [if_neg hn, em]
      split
      · exact ⟨[(i : Int)] :: (S1.map ((i : Int) :: ·) ++ S2), (hm.append h2).cons_cons _, by simp⟩
      · exact ⟨S1.map ((i : Int) :: ·) ++ S2, (hm.append h2).cons _, by simp⟩
end
mutual
theorem fnd_at (ps : List Pk) : ∀ (d : Nd) (path : List Int) (r w : Fl), ∀ q ∈ fnd ps d path r w, ∃ s e, q = path ++ s ∧ Nd.atP d.parts s e ∧ e.name ≠ [] ∧ fits (ps.getD (ps.length - 1) dfl) e = true
  | .mk n a t p, path, r, w, q, hq => by
    rw [fnd] at hq
    obtain ⟨j, s, e, h1, h2, h3⟩ := fnds_at ps p 0 path r w q hq
    exact ⟨(j : Int) :: s, e, by rw [h1, Nat.zero_add], h2, h3⟩
/-- the nodes that are found fit the last pick -/
theorem fnds_at (ps : List Pk) : ∀ (l : List Nd) (i : Nat) (path : List Int) (r w : Fl), ∀ q ∈ fnds ps i l path r w, ∃ (j : Nat) (s : List Int) (e : Nd), q = path ++ (((i + j : Nat) : Int) :: s) ∧ Nd.atP l ((j : Int) :: s) e ∧ e.name ≠ [] ∧ fits (ps.getD (ps.length - 1) dfl) e = true
  | [], _, _, _, _, q, hq => by simp [fnds] at hq
  | d :: l, i, path, r, w, q, hq => by
    rw [fnds, List.mem_append] at hq
    rcases hq with hq | hq
    · by_cases hn : d.name = []
      · simp [hn] at hq
      · rw [if_neg hn, List.mem_append] at hq
        rcases hq with hq | hq
        · by_cases he : ends ps r w d (ps.length - 1) = true
          · rw [if_pos he, List.mem_singleton] at hq
            refine ⟨0, [], d, by simpa using hq, ⟨0, rfl, by simp, .inl ⟨rfl, rfl⟩⟩, hn, ?_⟩
            simp only [ends, Bool.and_eq_true] at he; exact he.2
          · rw [if_neg he] at hq; cases hq
        · obtain ⟨s, e, h1, h3, h4⟩ := fnd_at ps d _ _ _ q hq
          refine ⟨0, s, e, by rw [h1, List.append_assoc]; rfl, ⟨0, rfl, by simp, .inr ⟨?_, by simpa using h3⟩⟩, h4⟩
          rintro rfl; exact h3.elim
    · obtain ⟨j, s, e, h1, ⟨k, hk, hlt, hx⟩, h5⟩ := fnds_at ps l (i + 1) path r w q hq
      refine ⟨j + 1, s, e, by rw [h1]; congr 3; omega, ⟨k + 1, by omega, by simp; omega, by simpa using hx⟩, h5⟩
end
/-- is a path right ahead of the other one, and part of it? -/
def around (x a : List Int) : Bool := decide (x.length < a.length) && decide (a.take x.length = x)
theorem around_miss (path s t : List Int) (i j : Int) (h : i ≠ j) : around (path ++ i :: s) (path ++ j :: t) = false := by
  cases hc : around (path ++ i :: s) (path ++ j :: t) with
  | false => rfl
  | true =>
    exfalso
    simp only [around, Bool.and_eq_true, decide_eq_true_eq] at hc
    have h1 := congrArg (·[path.length]?) hc.2
    simp at h1
    exact h h1.symm
theorem fnds_shape (ps : List Pk) (l : List Nd) (i : Nat) (path : List Int) (r w : Fl) : ∀ q ∈ fnds ps i l path r w, ∃ (j : Nat) (s : List Int), i ≤ j ∧ q = path ++ (j : Int) :: s := fun q hq => by
  obtain ⟨j, s, e, h1, _⟩ := fnds_at ps l i path r w q hq
  exact ⟨i + j, s, by omega, h1⟩
theorem fnd_shape (ps : List Pk) (d : Nd) (path : List Int) (r w : Fl) : ∀ q ∈ fnd ps d path r w, ∃ (j : Int) (s : List Int), q = path ++ j :: s := fun q hq => by
  rw [fnd_eq] at hq
  obtain ⟨j, s, _, h⟩ := fnds_shape ps _ _ _ _ _ q hq
  exact ⟨j, s, h⟩
mutual
theorem fnd_within (p q : Pk) (hq : q.deep = true) : ∀ (d : Nd) (path : List Int) (r w r1 w1 r2 w2 : Fl), fnd [p, q] d path r w = (fnd [q] d path r1 w1).filter fun a => w 0 || (fnd [p] d path r2 w2).any fun x => around x a
  | .mk _ _ _ l, path, r, w, r1, w1, r2, w2 => by rw [fnd, fnd, fnd]; exact fnds_within p q hq l 0 path r w r1 w1 r2 w2
theorem fnds_within (p q : Pk) (hq : q.deep = true) : ∀ (l : List Nd) (i : Nat) (path : List Int) (r w r1 w1 r2 w2 : Fl), fnds [p, q] i l path r w = (fnds [q] i l path r1 w1).filter fun a => w 0 || (fnds [p] i l path r2 w2).any fun x => around x a
  | [], _, _, _, _, _, _, _, _ => rfl
  | d :: l, i, path, r, w, r1, w1, r2, w2 => by
    have h2 := fnds_within p q hq l (i + 1) path r w r1 w1 r2 w2
    have h1 := fnd_within p q hq d (path ++ [(i : Int)]) (ends [p, q] r w d) (far [p, q] r w d) (ends [q] r1 w1 d) (far [q] r1 w1 d) (ends [p] r2 w2 d) (far [p] r2 w2 d)
    rw [fnds, fnds, fnds, h1, h2]
    rw [List.filter_append]
    have hC : ∀ a ∈ fnds [q] (i + 1) l path r1 w1, (w 0 || ((if d.name = [] then [] else (if ends [p] r2 w2 d ([p].length - 1) then [path ++ [(i : Int)]] else []) ++ fnd [p] d (path ++ [(i : Int)]) (ends [p] r2 w2 d) (far [p] r2 w2 d)) ++ fnds [p] (i + 1) l path r2 w2).any fun x => around x a) =
        (w 0 || (fnds [p] (i + 1) l path r2 w2).any fun x => around x a) := by
      intro a ha
      obtain ⟨j, s, hj, rfl⟩ := fnds_shape _ _ _ _ _ _ a ha
      rw [List.any_append]
      have : ((if d.name = [] then [] else (if ends [p] r2 w2 d ([p].length - 1) then [path ++ [(i : Int)]] else []) ++ fnd [p] d (path ++ [(i : Int)]) (ends [p] r2 w2 d) (far [p] r2 w2 d)).any fun x => around x (path ++ (j : Int) :: s)) = false := by
        rw [List.any_eq_false]
        intro x hx
        split at hx
        · cases hx
        · rw [List.mem_append] at hx
          rcases hx with hx | hx
          · split at hx
            · rw [List.mem_singleton] at hx; subst hx
              rw [around_miss path [] s i j (by omega)]; simp
            · cases hx
          · obtain ⟨j', s', rfl⟩ := fnd_shape _ _ _ _ _ x hx
            have := around_miss path (j' :: s') s i j (by omega)
            simp only [List.append_assoc, List.singleton_append]
            rw [this]; simp
      rw [this, Bool.false_or]
    rw [List.filter_congr hC]
    congr 1
    by_cases hn : d.name = []
    · simp [hn]
    · rw [if_neg hn, if_neg hn, if_neg hn, List.filter_append]
      have e1 : ends [p, q] r w d ([p, q].length - 1) = (w 0 && fits q d) := by simp [ends, ahead, hq]
      have e2 : ends [q] r1 w1 d ([q].length - 1) = fits q d := by simp [ends, ahead]
      have e3 : ends [p] r2 w2 d ([p].length - 1) = fits p d := by simp [ends, ahead]
      have e4 : far [p, q] r w d 0 = (w 0 || fits p d) := by simp [far, ends, ahead]
      rw [e1, e2, e3, e4]
      have hXC : ∀ s : List Int, ((fnds [p] (i + 1) l path r2 w2).any fun x => around x (path ++ (i : Int) :: s)) = false := by
        intro s
        rw [List.any_eq_false]
        intro x hx
        obtain ⟨j, s', hj, rfl⟩ := fnds_shape _ _ _ _ _ _ x hx
        rw [around_miss path s' s j i (by omega)]; simp
      congr 1
      · cases hf : fits q d with
        | false => simp
        | true =>
          rw [Bool.and_true, if_pos rfl, List.filter_cons, List.filter_nil]
          have : (((if fits p d = true then [path ++ [(i : Int)]] else []) ++ fnd [p] d (path ++ [(i : Int)]) (ends [p] r2 w2 d) (far [p] r2 w2 d) ++ fnds [p] (i + 1) l path r2 w2).any fun x => around x (path ++ [(i : Int)])) = false := by
            rw [List.any_append, hXC [], Bool.or_false, List.any_eq_false]
            intro x hx
            rw [List.mem_append] at hx
            rcases hx with hx | hx
            · split at hx
              · rw [List.mem_singleton] at hx; subst hx; simp [around]
              · cases hx
            · obtain ⟨j', s', rfl⟩ := fnd_shape _ _ _ _ _ x hx
              simp [around]
          rw [this, Bool.or_false]
      · refine List.filter_congr ?_
        intro a ha
        obtain ⟨j, s, rfl⟩ := fnd_shape _ _ _ _ _ a ha
        have := hXC (j :: s)
        rw [List.any_append, List.append_assoc, List.singleton_append, this, Bool.or_false, List.any_append, Bool.or_assoc]
        congr 1
        congr 1
        cases fits p d with
        | false => simp
        | true => simp [around, List.take_append, List.take_of_length_le (Nat.le_succ path.length)]
end
mutual
/-- elements; those of a name -/
def els : Nd → Nat
  | .mk _ _ _ l => elss l
def elss : List Nd → Nat
  | [] => 0
  | d :: l => (if d.name = [] then 0 else 1 + els d) + elss l
end
mutual
def nms (s : List UInt8) : Nd → Nat
  | .mk _ _ _ l => nmss s l
def nmss (s : List UInt8) : List Nd → Nat
  | [] => 0
  | d :: l => (if d.name = [] then 0 else (if d.name = s then 1 else 0) + nms s d) + nmss s l
end
mutual
theorem els_le : ∀ d : Nd, els d + 1 ≤ d.sz
  | .mk _ a _ l => by have := elss_le l; simp only [els, Nd.sz]; omega
theorem elss_le : ∀ l : List Nd, elss l ≤ Nd.szs l
  | [] => Nat.le_refl _
  | d :: l => by have := els_le d; have := elss_le l; simp only [elss, Nd.szs]; split <;> omega
end
mutual
theorem nms_le (s : List UInt8) : ∀ d : Nd, nms s d + 1 ≤ d.sz
  | .mk _ a _ l => by have := nmss_le s l; simp only [nms, Nd.sz]; omega
theorem nmss_le (s : List UInt8) : ∀ l : List Nd, nmss s l ≤ Nd.szs l
  | [] => Nat.le_refl _
  | d :: l => by have := nms_le s d; have := nmss_le s l; simp only [nmss, Nd.szs]; split <;> (try split) <;> omega
end
mutual
theorem fnd_star (p : Pk) (hp : p.name = [] ∧ p.attr = []) : ∀ (d : Nd) (path : List Int) (r w : Fl), (fnd [p] d path r w).length = els d
  | .mk _ _ _ l, path, r, w => by rw [fnd, els]; exact fnds_stars p hp l 0 path r w
theorem fnds_stars (p : Pk) (hp : p.name = [] ∧ p.attr = []) : ∀ (l : List Nd) (i : Nat) (path : List Int) (r w : Fl), (fnds [p] i l path r w).length = elss l
  | [], _, _, _, _ => rfl
  | d :: l, i, path, r, w => by
    have h1 := fnd_star p hp d (path ++ [(i : Int)]) (ends [p] r w d) (far [p] r w d)
    have h2 := fnds_stars p hp l (i + 1) path r w
    rw [fnds, List.length_append, elss, h2]
    by_cases hn : d.name = []
    · rw [if_pos hn, if_pos hn]; rfl
    · have : ends [p] r w d ([p].length - 1) = true := by simp [ends, ahead, fits, hp, hn]
      rw [if_neg hn, if_neg hn, List.length_append, this, h1, if_pos rfl]; rfl
end
mutual
theorem fnd_name (p : Pk) (hp : p.name ≠ [] ∧ p.attr = []) : ∀ (d : Nd) (path : List Int) (r w : Fl), (fnd [p] d path r w).length = nms p.name d
  | .mk _ _ _ l, path, r, w => by rw [fnd, nms]; exact fnds_name p hp l 0 path r w
theorem fnds_name (p : Pk) (hp : p.name ≠ [] ∧ p.attr = []) : ∀ (l : List Nd) (i : Nat) (path : List Int) (r w : Fl), (fnds [p] i l path r w).length = nmss p.name l
  | [], _, _, _, _ => rfl
  | d :: l, i, path, r, w => by
    have h1 := fnd_name p hp d (path ++ [(i : Int)]) (ends [p] r w d) (far [p] r w d)
    have h2 := fnds_name p hp l (i + 1) path r w
    rw [fnds, List.length_append, nmss, h2]
    by_cases hn : d.name = []
    · rw [if_pos hn, if_pos hn]; rfl
    · have : ends [p] r w d ([p].length - 1) = (d.name == p.name) := by
        by_cases he : d.name = p.name
        · simp [ends, ahead, fits, hp, hn, he]
        · have he' : ¬ p.name = d.name := fun h => he h.symm
          have e : fits p d = false := by
            unfold fits
            rw [show (d.name == []) = false by simpa using hn, show (p.name != []) = true by simpa using hp.1, show (p.name != d.name) = true by simpa using he']; rfl
          have e2 : (d.name == p.name) = false := by simpa using he
          rw [e2]
          simp [ends, ahead, e]
      rw [if_neg hn, if_neg hn, List.length_append, this, h1]
      congr 1
      congr 1
      by_cases he : d.name = p.name <;> simp [he]
end
abbrev oddS (s : List UInt8) : Bool := !(s == []) && !(nameOk s)
def odd (p : Pk) : Bool := oddS p.name || oddS p.attr
/-- picks that are no fault -/
structure ok (p : Pk) : Prop where
  n : p.name.length ≤ 1000
  a : p.attr.length ≤ 1000
  o : odd p = false
theorem odd_none (l : List Pk) (h : ∀ p ∈ l, p.ok) : l.any odd = false := any_take_false odd l fun p hp => (h p hp).o
abbrev dp (p : Pk) : Pk := ⟨p.name, p.attr, true⟩
mutual
theorem fnd_same' (q : Pk) : ∀ (d : Nd) (path : List Int) (r w r1 w1 : Fl), fnd [dp q] d path r w = fnd [q] d path r1 w1
  | .mk _ _ _ l, path, r, w, r1, w1 => by rw [fnd, fnd]; exact fnds_same' q l 0 path r w r1 w1
theorem fnds_same' (q : Pk) : ∀ (l : List Nd) (i : Nat) (path : List Int) (r w r1 w1 : Fl), fnds [dp q] i l path r w = fnds [q] i l path r1 w1
  | [], _, _, _, _, _, _ => rfl
  | d :: l, i, path, r, w, r1, w1 => by
    rw [fnds, fnds, fnd_same' q d _ _ _ (ends [q] r1 w1 d) (far [q] r1 w1 d), fnds_same' q l _ _ _ _ r1 w1]
    rfl
end
end Pk
def upto {α : Type} (f : α → α) (l : List α) (i : Nat) : List α := (l.take i).map f ++ l.drop i
section sl
variable {x : Cx} {g : Bool} {L : List (Tmp × Bool × AV)} {M : List ME} {ty T : TypeId} {o1 o2 : Operand}
end sl
end Go.Vl
end

section
set_option linter.unusedVariables false
set_option linter.unusedSimpArgs false
namespace Go.Vl
inductive Ex where
  | mk (kind type : Int) (parts : List Ex)
namespace Ex
def kind : Ex → Int | mk k _ _ => k
def type : Ex → Int | mk _ t _ => t
def parts : Ex → List Ex | mk _ _ p => p
mutual
def av : Ex → AV
  | mk k t p => .agg [.int k, .int t, .sl 3 (avs p)]
def avs : List Ex → List AV
  | [] => []
  | d :: l => av d :: avs l
end
theorem avs_map (l : List Ex) : avs l = l.map av := by
  induction l with
  | nil => rfl
  | cons d l ih => rw [avs, ih]; rfl
abbrev avx (d : Ex) : AV := .agg [.int d.kind, .int d.type, .sl 3 (d.parts.map av)]
theorem av_eq (d : Ex) : d.av = avx d := by
  cases d with | mk n a p => rw [av, avs_map]; rfl
def dflt : Ex := mk 0 0 []
theorem at_av (l : List Ex) (i : Nat) (h : i < l.length) : (l.map av)[i]? = some (avx (l.getD i dflt)) := by
  rw [← av_eq]; exact getD_mapG av dflt l i h
theorem map_snoc (l : List Ex) (d : Ex) : (l ++ [d]).map av = l.map av ++ [avx d] := by rw [List.map_append, ← av_eq]; rfl
theorem take_snoc (l : List Ex) (i : Nat) (h : i < l.length) : (l.take (i + 1)).map av = (l.take i).map av ++ [avx (l.getD i dflt)] := by
  rw [take_getDG dflt l i h, map_snoc]
theorem okc_avs (l : List Ex) : ∀ e ∈ l.map av, e.okc = true := by
  intro e he
  obtain ⟨d, _, rfl⟩ := List.mem_map.1 he
  rw [av_eq]; rfl
mutual
def sz : Ex → Nat
  | mk _ _ p => 1 + szs p
def szs : List Ex → Nat
  | [] => 0
  | d :: l => sz d + szs l
end
theorem sz_eq (d : Ex) : d.sz = 1 + szs d.parts := by cases d; rfl
theorem szs_append (l m : List Ex) : szs (l ++ m) = szs l + szs m := by
  induction l with
  | nil => simp [szs]
  | cons d l ih => rw [List.cons_append, szs, szs, ih]; omega
theorem szs_len (l : List Ex) : l.length ≤ szs l := by
  induction l with
  | nil => simp [szs]
  | cons d l ih => rw [szs, List.length_cons, sz_eq]; omega
theorem szs_mem {l : List Ex} {d : Ex} (h : d ∈ l) : d.sz ≤ szs l := by
  induction l with
  | nil => cases h
  | cons e l ih =>
    rw [szs]
    rcases List.mem_cons.1 h with rfl | h
    · omega
    · have := ih h; omega
theorem part_sz {x d : Ex} (h : d ∈ x.parts) : d.sz < x.sz := by
  have := szs_mem h; have := sz_eq x; omega
/-- induction over expressions -/
theorem rec' {P : Ex → Prop} (h : ∀ x, (∀ d ∈ x.parts, P d) → P x) : ∀ x, P x := by
  suffices H : ∀ n x, sz x ≤ n → P x from fun x => H _ x (Nat.le_refl _)
  intro n
  induction n with
  | zero => intro x hx; have := sz_eq x; omega
  | succ n ih => exact fun x hx => h x fun d hd => ih d (by have := part_sz hd; omega)
/-- an expression that may be, but for its parts -/
def ok1 (x : Ex) : Prop :=
  (x.kind = 1 ∧ x.parts = [] ∧ 0 ≤ x.type ∧ x.type < 8) ∨ (x.kind = 2 ∧ x.type = 0 ∧ x.parts.length ≠ 1 ∧ ∀ q ∈ x.parts, q.kind ≠ 2) ∨
  (x.kind = 3 ∧ x.type = 0 ∧ 2 ≤ x.parts.length ∧ ∀ q ∈ x.parts, q.kind ≠ 3) ∨ (4 ≤ x.kind ∧ x.kind ≤ 6 ∧ x.type = 0 ∧ x.parts.length = 1)
mutual
def ok : Ex → Prop
  | mk k t p => ok1 (mk k t p) ∧ oks p
def oks : List Ex → Prop
  | [] => True
  | d :: l => ok d ∧ oks l
end
theorem oks_iff (l : List Ex) : oks l ↔ ∀ d ∈ l, ok d := by
  induction l with
  | nil => simp [oks]
  | cons d l ih => simp [oks, ih]
/-- the signs behind a part -/
def sgn (k : Int) : UInt8 := if k = 4 then 42 else if k = 5 then 43 else 63
def par (k : Int) (q : Ex) : Prop := (q.kind = 3 ∧ k ≠ 3) ∨ (q.kind = 2 ∧ 4 ≤ k)
instance (k : Int) (q : Ex) : Decidable (par k q) := by unfold par; infer_instance
/-- texts, with a sign between -/
def joinW (sep : List UInt8) : List (List UInt8) → List UInt8
  | [] => []
  | [s] => s
  | s :: t :: l => s ++ (sep ++ joinW sep (t :: l))
mutual
def txt : Ex → List UInt8
  | mk k t p => if k = 1 then [97 + UInt8.ofNat t.toNat] else if k = 2 then joinW [] (ptx k p) else if k = 3 then joinW [124] (ptx k p) else joinW [] (ptx k p) ++ [sgn k]
def ptx (k : Int) : List Ex → List (List UInt8)
  | [] => []
  | q :: l => (if par k q then 40 :: (txt q ++ [41]) else txt q) :: ptx k l
end
end Ex

/-! ### what is written -/
inductive It where
  | ch (n : Nat) (sf : List Nat)
  | gr (s : List It) (a : List (List It)) (sf : List Nat)
def sg (k : Nat) : UInt8 := if k = 0 then 42 else if k = 1 then 43 else 63
def Ex.sfe (x : Ex) (sf : List Nat) : Ex := sf.foldl (fun x (k : Nat) => .mk (4 + (k : Int)) 0 [x]) x
def Ex.flat (k : Int) (l : List Ex) : List Ex := l.flatMap fun p => if p.kind = k then p.parts else [p]
def Ex.tog (k : Int) (l : List Ex) : Ex :=
  match l with
  | [x] => x
  | l => match Ex.flat k l with
    | [y] => y
    | ps => .mk k 0 ps
namespace It
mutual
def tx : It → List UInt8
  | ch n sf => (97 + UInt8.ofNat n) :: sf.map sg
  | gr s a sf => 40 :: (stx s ++ (atl a ++ 41 :: sf.map sg))
def stx : List It → List UInt8
  | [] => []
  | i :: s => tx i ++ stx s
def atl : List (List It) → List UInt8
  | [] => []
  | s :: a => 124 :: (stx s ++ atl a)
end
mutual
def ev : It → Ex
  | ch n sf => Ex.sfe (.mk 1 n []) sf
  | gr s a sf => Ex.sfe (Ex.tog 3 (Ex.tog 2 (sev s) :: aev a)) sf
def sev : List It → List Ex
  | [] => []
  | i :: s => ev i :: sev s
def aev : List (List It) → List Ex
  | [] => []
  | s :: a => Ex.tog 2 (sev s) :: aev a
end
mutual
/-- letters and signs that may be -/
def ok : It → Prop
  | ch n sf => n < 8 ∧ ∀ k ∈ sf, k < 3
  | gr s a sf => (oks s ∧ oka a) ∧ ∀ k ∈ sf, k < 3
def oks : List It → Prop
  | [] => True
  | i :: s => ok i ∧ oks s
def oka : List (List It) → Prop
  | [] => True
  | s :: a => oks s ∧ oka a
end
mutual
def sz : It → Nat
  | ch _ _ => 1
  | gr s a _ => 1 + szs s + sza a
def szs : List It → Nat
  | [] => 0
  | i :: s => sz i + szs s
def sza : List (List It) → Nat
  | [] => 0
  | s :: a => 1 + szs s + sza a
end
abbrev sq (s : List It) : Ex := Ex.tog 2 (sev s)
theorem oks_iff (s : List It) : oks s ↔ ∀ i ∈ s, ok i := by
  induction s with
  | nil => simp [oks]
  | cons d l ih => simp [oks, ih]
theorem sz_mem {s : List It} {i : It} (h : i ∈ s) : sz i ≤ szs s := by
  induction s with
  | nil => cases h
  | cons e l ih =>
    rw [szs]
    rcases List.mem_cons.1 h with rfl | h
    · omega
    · have := ih h; omega
theorem szs_mem {a : List (List It)} {s : List It} (h : s ∈ a) : szs s < sza a := by
  induction a with
  | nil => cases h
  | cons e l ih =>
    rw [sza]
    rcases List.mem_cons.1 h with rfl | h
    · omega
    · have := ih h; omega
/-- induction over what is written -/
theorem rec' {P : It → Prop} (h1 : ∀ n sf, P (ch n sf)) (h2 : ∀ s a sf, (∀ i ∈ s, P i) → (∀ t ∈ a, ∀ i ∈ t, P i) → P (gr s a sf)) : ∀ i, P i := by
  suffices H : ∀ n i, sz i ≤ n → P i from fun i => H _ i (Nat.le_refl _)
  intro n
  induction n with
  | zero => intro i hi; cases i <;> simp only [sz] at hi <;> omega
  | succ n ih =>
    intro i hi
    cases i with
    | ch n sf => exact h1 n sf
    | gr s a sf =>
      simp only [sz] at hi
      exact h2 s a sf (fun i h => ih i (by have := sz_mem h; omega)) (fun t ht i h => ih i (by have := sz_mem h; have := szs_mem ht; omega))
end It

/-! ### together -/
namespace Ex
theorem flat_append (k : Int) (l m : List Ex) : flat k (l ++ m) = flat k l ++ flat k m := by simp [flat]
end Ex
namespace It
end It
end Go.Vl
end

section
set_option linter.unusedVariables false
set_option linter.unusedSimpArgs false
namespace Go.Vl
namespace Ex
end Ex
namespace It
/-- a sign more -/
def adds : It → Nat → It
  | ch n sf, k => ch n (sf ++ [k])
  | gr s a sf, k => gr s a (sf ++ [k])
end It

/-! ### which words are meant -/
abbrev Lg := List Int → Prop
namespace Lg
def one (n : Int) : Lg := fun w => w = [n]
def eps : Lg := fun w => w = []
def none : Lg := fun _ => False
def cat (A B : Lg) : Lg := fun w => ∃ u v, w = u ++ v ∧ A u ∧ B v
def alt (A B : Lg) : Lg := fun w => A w ∨ B w
inductive star (A : Lg) : Lg
  | nil : star A []
  | cons (u v : List Int) : A u → star A v → star A (u ++ v)
theorem ext {A B : Lg} (h : ∀ w, A w ↔ B w) : A = B := funext fun w => propext (h w)
end Lg
namespace Ex
mutual
def lg : Ex → Lg
  | mk k t p => if k = 1 then Lg.one t else if k = 2 then seqs p else if k = 3 then alts p else if k = 4 then Lg.star (alts p) else if k = 5 then Lg.cat (alts p) (Lg.star (alts p)) else Lg.alt Lg.eps (alts p)
def seqs : List Ex → Lg
  | [] => Lg.eps
  | q :: l => Lg.cat (lg q) (seqs l)
def alts : List Ex → Lg
  | [] => Lg.none
  | q :: l => Lg.alt (lg q) (alts l)
end
end Ex
/-- what a sign makes of words -/
def Lg.sfl (A : Lg) (k : Nat) : Lg := if k = 0 then Lg.star A else if k = 1 then Lg.cat A (Lg.star A) else Lg.alt Lg.eps A
namespace It
mutual
def lg : It → Lg
  | ch n sf => sf.foldl Lg.sfl (Lg.one n)
  | gr s a sf => sf.foldl Lg.sfl (Lg.alt (slg s) (alg a))
def slg : List It → Lg
  | [] => Lg.eps
  | i :: s => Lg.cat (lg i) (slg s)
def alg : List (List It) → Lg
  | [] => Lg.none
  | s :: a => Lg.alt (slg s) (alg a)
end
end It
end Go.Vl
end

section
set_option linter.unusedVariables false
set_option linter.unusedSimpArgs false
namespace Go.Vl
namespace Lg
def over (N : Int) (A : Lg) : Prop := ∀ w, A w → ∀ c ∈ w, 0 ≤ c ∧ c < N
def live (A : Lg) : Prop := ∃ w, A w
section closed
variable {N : Int} {A B : Lg}
theorem over_eps : over N eps := fun w h c hc => by rw [show w = [] from h] at hc; cases hc
theorem over.cat (ha : over N A) (hb : over N B) : over N (cat A B) := by
  rintro _ ⟨u, v, rfl, hu, hv⟩ c hc
  rcases List.mem_append.1 hc with hc | hc
  · exact ha u hu c hc
  · exact hb v hv c hc
theorem over.alt (ha : over N A) (hb : over N B) : over N (alt A B) := by
  rintro w (h | h)
  · exact ha w h
  · exact hb w h
theorem over.star (ha : over N A) : over N (star A) := by
  intro w hw
  induction hw with
  | nil => intro c hc; cases hc
  | cons u v hu _ ih =>
    intro c hc
    rcases List.mem_append.1 hc with hc | hc
    · exact ha u hu c hc
    · exact ih c hc
theorem over.sfl (ha : over N A) (k : Nat) : over N (sfl A k) := by
  unfold Lg.sfl
  split
  · exact ha.star
  · split
    · exact ha.cat ha.star
    · exact over_eps.alt ha
theorem over.foldl : ∀ (sf : List Nat) {A : Lg}, over N A → over N (sf.foldl Lg.sfl A)
  | [], _, h => h
  | k :: sf, _, h => over.foldl sf (h.sfl k)
theorem live.cat (ha : live A) (hb : live B) : live (cat A B) := by
  obtain ⟨u, hu⟩ := ha; obtain ⟨v, hv⟩ := hb; exact ⟨u ++ v, u, v, rfl, hu, hv⟩
theorem live.sfl (ha : live A) (k : Nat) : live (sfl A k) := by
  unfold Lg.sfl
  split
  · exact ⟨[], .nil⟩
  · split
    · exact ha.cat ⟨[], .nil⟩
    · exact ⟨[], .inl rfl⟩
theorem live.foldl : ∀ (sf : List Nat) {A : Lg}, live A → live (sf.foldl Lg.sfl A)
  | [], _, h => h
  | k :: sf, _, h => live.foldl sf (h.sfl k)
end closed
end Lg
namespace It
mutual
/-- letters blw N -/
def blw (N : Nat) : It → Prop
  | ch n _ => n < N
  | gr s a _ => blws N s ∧ blwa N a
def blws (N : Nat) : List It → Prop
  | [] => True
  | i :: s => blw N i ∧ blws N s
def blwa (N : Nat) : List (List It) → Prop
  | [] => True
  | s :: a => blws N s ∧ blwa N a
end
mutual
/-- letters that are changed -/
def ren (k : Nat) : It → It
  | ch n sf => ch (n + k) sf
  | gr s a sf => gr (rens k s) (rena k a) sf
def rens (k : Nat) : List It → List It
  | [] => []
  | i :: s => ren k i :: rens k s
def rena (k : Nat) : List (List It) → List (List It)
  | [] => []
  | s :: a => rens k s :: rena k a
end
/-- .. and their texts -/
def rc (k : Nat) (c : UInt8) : UInt8 := if 97 ≤ c.toNat ∧ c.toNat ≤ 99 then c + UInt8.ofNat k else c
end It
end Go.Vl
end

section
set_option linter.unusedVariables false
set_option linter.unusedSimpArgs false
namespace Go.Vl
namespace It
/-- what may stand behind alternatives; a sequence; an item -/
def endA (r : List UInt8) : Prop := r = [] ∨ ∃ t, r = 41 :: t
def endS (r : List UInt8) : Prop := r = [] ∨ ∃ t, r = 41 :: t ∨ r = 124 :: t
def endI (r : List UInt8) : Prop := ∀ c t, r = c :: t → c ≠ 42 ∧ c ≠ 43 ∧ c ≠ 63
theorem endA.s {r : List UInt8} (h : endA r) : endS r := by
  rcases h with h | ⟨t, h⟩
  · exact .inl h
  · exact .inr ⟨t, .inl h⟩
theorem endS.i {r : List UInt8} (h : endS r) : endI r := by
  rintro c t rfl
  rcases h with h | ⟨t', h | h⟩
  · cases h
  · obtain ⟨rfl, rfl⟩ := List.cons.inj h; decide
  · obtain ⟨rfl, rfl⟩ := List.cons.inj h; decide
end It
namespace It
end It
end Go.Vl
end

section
set_option linter.unusedVariables false
set_option linter.unusedSimpArgs false
namespace Go.Vl.Pk
/-- what stands before the first c, what behind it, whether there is one -/
def cutB (c : UInt8) : List UInt8 → List UInt8 × List UInt8 × Bool
  | [] => ([], [], false)
  | x :: s => if x = c then ([], s, true) else (x :: (cutB c s).1, (cutB c s).2)
theorem cutB_spec (c : UInt8) : ∀ s, (cutB c s).2.2 = true ∧ s = (cutB c s).1 ++ c :: (cutB c s).2.1 ∧ c ∉ (cutB c s).1 ∨ (cutB c s).2.2 = false ∧ (cutB c s).1 = s ∧ (cutB c s).2.1 = [] ∧ c ∉ s
  | [] => .inr ⟨rfl, rfl, rfl, by simp⟩
  | x :: s => by
    unfold cutB
    by_cases e : x = c
    · rw [if_pos e]; subst e; exact .inl ⟨rfl, rfl, by simp⟩
    · rw [if_neg e]
      rcases cutB_spec c s with ⟨h1, h2, h3⟩ | ⟨h1, h2, h3, h4⟩
      · refine .inl ⟨h1, by rw [List.cons_append, ← h2], ?_⟩
        intro h; rcases List.mem_cons.1 h with h | h
        · exact e h.symm
        · exact h3 h
      · refine .inr ⟨h1, by rw [h2], h3, ?_⟩
        intro h; rcases List.mem_cons.1 h with h | h
        · exact e h.symm
        · exact h4 h
theorem cutB_len (c : UInt8) (s : List UInt8) : (cutB c s).1.length ≤ s.length ∧ (cutB c s).2.1.length ≤ s.length := by
  rcases cutB_spec c s with ⟨_, h2, _⟩ | ⟨_, h2, h3, _⟩
  · have := congrArg List.length h2; rw [List.length_append, List.length_cons] at this; omega
  · rw [h2, h3]; exact ⟨Nat.le_refl _, Nat.zero_le _⟩
theorem indexByte_cutB (c : UInt8) : ∀ s : List UInt8, Go.Lib.indexByte s c = if (cutB c s).2.2 then ((cutB c s).1.length : Int) else -1
  | [] => rfl
  | x :: s => by
    have ih := indexByte_cutB c s
    by_cases e : x = c
    · simp [Go.Lib.indexByte, cutB, e]
    · simp only [Go.Lib.indexByte, cutB, beq_iff_eq, if_neg e]
      cases h : (cutB c s).2.2
      · rw [h] at ih; simp [ih]
      · rw [h] at ih
        simp only [if_true] at ih
        rw [ih, if_neg (by omega)]
        simp
/-- texts with blanks between them -/
def jn : List (List UInt8) → List UInt8
  | [] => []
  | a :: l => a ++ l.flatMap fun q => 32 :: q
theorem jn_cons (a b : List UInt8) (l : List (List UInt8)) : jn (a :: b :: l) = a ++ 32 :: jn (b :: l) := by simp [jn]
theorem jn_one (a : List UInt8) : jn [a] = a := by simp [jn]
theorem cutB_at (c : UInt8) : ∀ (a t : List UInt8), c ∉ a → cutB c (a ++ c :: t) = (a, t, true)
  | [], t, _ => by simp [cutB]
  | x :: a, t, h => by
    rw [List.cons_append, cutB, if_neg (fun e => h (by rw [e]; simp)), cutB_at c a t (fun hm => h (List.mem_cons_of_mem _ hm))]
theorem cutB_no (c : UInt8) : ∀ (a : List UInt8), c ∉ a → cutB c a = (a, [], false)
  | [], _ => rfl
  | x :: a, h => by
    rw [cutB, if_neg (fun e => h (by rw [e]; simp)), cutB_no c a (fun hm => h (List.mem_cons_of_mem _ hm))]
theorem jn_drop (qs : List (List UInt8)) (k : Nat) (h : k + 1 < qs.length) : jn (qs.drop k) = qs.getD k [] ++ 32 :: jn (qs.drop (k + 1)) := by
  rw [List.drop_eq_getElem_cons (by omega : k < qs.length), List.drop_eq_getElem_cons h, jn_cons, List.getD_eq_getElem?_getD, List.getElem?_eq_getElem (by omega : k < qs.length)]; rfl
theorem jn_last (qs : List (List UInt8)) (k : Nat) (h : k + 1 = qs.length) : jn (qs.drop k) = qs.getD k [] := by
  rw [List.drop_eq_getElem_cons (by omega : k < qs.length), List.drop_eq_nil_of_le (by omega), jn_one, List.getD_eq_getElem?_getD, List.getElem?_eq_getElem (by omega : k < qs.length)]; rfl
theorem jn_le (qs : List (List UInt8)) (k : Nat) : (jn (qs.drop k)).length ≤ (jn qs).length := by
  induction k with
  | zero => exact Nat.le_refl _
  | succ k ih =>
    refine Nat.le_trans ?_ ih
    rcases Nat.lt_or_ge (k + 1) qs.length with h | h
    · rw [jn_drop qs k h, List.length_append, List.length_cons]; omega
    · rw [List.drop_eq_nil_of_le h]; exact Nat.zero_le _
/-- a pick's word -/
def wd (p : Pk) : List UInt8 := (if p.name = [] then [42] else p.name) ++ (if p.attr = [] then [] else ([91] ++ p.attr) ++ [93])
def sq (p : Pk) : List UInt8 := if p.deep then [32] else [32, 62, 32]
def tx : List Pk → List UInt8
  | [] => []
  | p :: l => wd p ++ l.flatMap fun q => sq q ++ wd q
theorem tx_snoc (l : List Pk) (p : Pk) : tx (l ++ [p]) = tx l ++ ((if l = [] then [] else sq p) ++ wd p) := by
  cases l with
  | nil => simp [tx]
  | cons a l => simp [tx, List.flatMap_append]
def pcs : List Pk → List (List UInt8)
  | [] => []
  | p :: l => wd p :: l.flatMap fun q => if q.deep then [wd q] else [[62], wd q]
theorem jn_pcs (p : Pk) (l : List Pk) : jn (pcs (p :: l)) = tx (p :: l) := by
  show wd p ++ (l.flatMap fun q => if q.deep then [wd q] else [[62], wd q]).flatMap (fun q => 32 :: q) = wd p ++ l.flatMap fun q => sq q ++ wd q
  congr 1
  induction l with
  | nil => rfl
  | cons q l ih =>
    rw [List.flatMap_cons, List.flatMap_append, ih, List.flatMap_cons]
    congr 1
    unfold sq
    by_cases h : q.deep = true
    · rw [if_pos h, if_pos h]; simp
    · rw [if_neg h, if_neg h]; simp
/-- what is read of a word -/
def nmw (w : List UInt8) : List UInt8 := if (cutB 91 w).1 = [42] then [] else (cutB 91 w).1
def atw (w : List UInt8) : List UInt8 := if (cutB 91 w).2.2 then Go.Lib.trimSuffix (cutB 91 w).2.1 [93] else []
def step (s : List Pk × Bool) (w : List UInt8) : List Pk × Bool := if w = [62] then (s.1, false) else (s.1 ++ [⟨nmw w, atw w, s.2⟩], true)
abbrev N5 : List (List UInt8) := [[], [100, 105, 118], [98], [112], [101, 109]]
abbrev N3 : List (List UInt8) := [[], [], [104, 114, 101, 102]]
/-- a pick that is drawn -/
def drn (p : Pk) : Prop := p.name ∈ N5 ∧ p.attr ∈ N3
def goodW (s t : List UInt8) : Bool := let w := wd ⟨s, t, true⟩; (nmw w == s) && (atw w == t) && !(w.contains 32) && !(w == [62]) && decide (w.length ≤ 9)
theorem all_good : (N5.all fun s => N3.all fun t => goodW s t) = true := by kernel_rfl
theorem drn.good {p : Pk} (h : drn p) : nmw (wd p) = p.name ∧ atw (wd p) = p.attr ∧ 32 ∉ wd p ∧ wd p ≠ [62] ∧ (wd p).length ≤ 9 := by
  have h1 := List.all_eq_true.1 (List.all_eq_true.1 all_good _ h.1) _ h.2
  have e : wd ⟨p.name, p.attr, true⟩ = wd p := rfl
  simp only [goodW, e, Bool.and_eq_true, beq_iff_eq, Bool.not_eq_true', decide_eq_true_eq, beq_eq_false_iff_ne] at h1
  obtain ⟨⟨⟨⟨h1, h2⟩, h3⟩, h4⟩, h5⟩ := h1
  exact ⟨h1, h2, (fun hm => by rw [List.contains_iff_mem.2 hm] at h3; cases h3), h4, h5⟩
theorem all_len : (N5.all fun s => decide (s.length ≤ 9)) = true ∧ (N3.all fun s => decide (s.length ≤ 9)) = true := ⟨by kernel_rfl, by kernel_rfl⟩
theorem drn.len {p : Pk} (h : drn p) : p.name.length ≤ 9 ∧ p.attr.length ≤ 9 := ⟨of_decide_eq_true (List.all_eq_true.1 all_len.1 _ h.1), of_decide_eq_true (List.all_eq_true.1 all_len.2 _ h.2)⟩
theorem step_wd {p : Pk} (h : drn p) (o : List Pk) (d : Bool) : step (o, d) (wd p) = (o ++ [⟨p.name, p.attr, d⟩], true) := by
  obtain ⟨h1, h2, _, h4, _⟩ := h.good
  rw [step, if_neg h4, h1, h2]
theorem step_gt (o : List Pk) (d : Bool) : step (o, d) [62] = (o, false) := by rw [step, if_pos rfl]
theorem fold_pcs (p : Pk) (l : List Pk) (h : ∀ q ∈ p :: l, drn q) (hd : p.deep = true) : (pcs (p :: l)).foldl step ([], true) = (p :: l, true) := by
  have key : ∀ (l o : List Pk), (∀ q ∈ l, drn q) → (l.flatMap fun q => if q.deep then [wd q] else [[62], wd q]).foldl step (o, true) = (o ++ l, true) := by
    intro l
    induction l with
    | nil => intro o _; simp
    | cons q l ih =>
      intro o h
      rw [List.flatMap_cons, List.foldl_append]
      have e : (if q.deep then [wd q] else [[62], wd q]).foldl step (o, true) = (o ++ [q], true) := by
        have hq := h q List.mem_cons_self
        by_cases hd : q.deep = true
        · rw [if_pos hd, List.foldl_cons, List.foldl_nil, step_wd hq]
          cases q; simp only at hd ⊢; rw [hd]
        · rw [if_neg hd, List.foldl_cons, List.foldl_cons, List.foldl_nil, step_gt, step_wd hq]
          cases q; simp only [Bool.not_eq_true] at hd ⊢; rw [hd]
      rw [e, ih _ (fun r hr => h r (List.mem_cons_of_mem _ hr)), List.append_assoc]; rfl
  show ((l.flatMap fun q => if q.deep then [wd q] else [[62], wd q])).foldl step (step ([], true) (wd p)) = _
  rw [step_wd (h p List.mem_cons_self), key l _ (fun q hq => h q (List.mem_cons_of_mem _ hq))]
  cases p; simp only at hd ⊢; rw [hd]; rfl
theorem pcs_mem {p : Pk} {l : List Pk} (h : ∀ q ∈ p :: l, drn q) : ∀ w ∈ pcs (p :: l), 32 ∉ w ∧ w.length ≤ 9 := by
  intro w hw
  rcases List.mem_cons.1 hw with rfl | hw
  · have := (h p List.mem_cons_self).good; exact ⟨this.2.2.1, this.2.2.2.2⟩
  · obtain ⟨q, hq, hw⟩ := List.mem_flatMap.1 hw
    have hg := (h q (List.mem_cons_of_mem _ hq)).good
    by_cases hd : q.deep = true
    · rw [if_pos hd] at hw; rw [List.mem_singleton.1 hw]; exact ⟨hg.2.2.1, hg.2.2.2.2⟩
    · rw [if_neg hd] at hw
      rcases List.mem_cons.1 hw with rfl | hw
      · exact ⟨by decide, by decide⟩
      · rw [List.mem_singleton.1 hw]; exact ⟨hg.2.2.1, hg.2.2.2.2⟩
theorem tx_len : ∀ (l : List Pk), (∀ q ∈ l, drn q) → (tx l).length ≤ 12 * l.length := by
  intro l h
  have key : ∀ l : List Pk, (∀ q ∈ l, drn q) → (l.flatMap fun q => sq q ++ wd q).length ≤ 12 * l.length := by
    intro l
    induction l with
    | nil => intro _; exact Nat.zero_le _
    | cons q l ih =>
      intro h
      have h1 := (h q List.mem_cons_self).good.2.2.2.2
      have h2 := ih (fun r hr => h r (List.mem_cons_of_mem _ hr))
      have h3 : (sq q).length ≤ 3 := by unfold sq; split <;> decide
      rw [List.flatMap_cons, List.length_append, List.length_append, List.length_cons]; omega
  cases l with
  | nil => exact Nat.zero_le _
  | cons p l =>
    have h1 := (h p List.mem_cons_self).good.2.2.2.2
    have h2 := key l (fun r hr => h r (List.mem_cons_of_mem _ hr))
    rw [tx, List.length_append, List.length_cons]; omega
/-- what is read when k pieces have come -/
def stt (qs : List (List UInt8)) (k : Nat) : List Pk × Bool := (qs.take k).foldl step ([], true)
theorem stt_succ (qs : List (List UInt8)) (k : Nat) (h : k < qs.length) : stt qs (k + 1) = step (stt qs k) (qs.getD k []) := by
  unfold stt
  rw [take_getDG [] qs k h, List.foldl_append]; rfl
theorem step_len (s : List Pk × Bool) (w : List UInt8) : (step s w).1.length ≤ s.1.length + 1 := by
  unfold step; split
  · exact Nat.le_succ _
  · rw [List.length_append]; exact Nat.le_refl _
theorem stt_len (qs : List (List UInt8)) (k : Nat) : (stt qs k).1.length ≤ k := by
  induction k with
  | zero => exact Nat.le_refl _
  | succ k ih =>
    rcases Nat.lt_or_ge k qs.length with h | h
    · rw [stt_succ qs k h]; have := step_len (stt qs k) (qs.getD k []); omega
    · have : stt qs (k + 1) = stt qs k := by unfold stt; rw [List.take_of_length_le h, List.take_of_length_le (by omega)]
      rw [this]; omega
theorem stt_all (qs : List (List UInt8)) : stt qs qs.length = qs.foldl step ([], true) := by unfold stt; rw [List.take_length]
theorem pcs_len (p : Pk) (l : List Pk) : (pcs (p :: l)).length ≤ 2 * (l.length + 1) := by
  have key : ∀ l : List Pk, (l.flatMap fun q => if q.deep then [wd q] else [[62], wd q]).length ≤ 2 * l.length := by
    intro l
    induction l with
    | nil => exact Nat.zero_le _
    | cons q l ih =>
      rw [List.flatMap_cons, List.length_append, List.length_cons]
      have : (if q.deep then [wd q] else [[62], wd q] : List (List UInt8)).length ≤ 2 := by split <;> simp
      omega
  have := key l
  show ((l.flatMap fun q => if q.deep then [wd q] else [[62], wd q]).length) + 1 ≤ _
  omega
/-- selectors that are drawn -/
def drns (ps : List Pk) : Prop := (∀ p ∈ ps, drn p) ∧ (ps.getD 0 dfl).deep = true
theorem drns.one {s t : List UInt8} {b : Bool} (hs : s ∈ N5) (ht : t ∈ N3) (hb : b = true) : drns [⟨s, t, b⟩] := ⟨fun p hp => by rw [List.mem_singleton.1 hp]; exact ⟨hs, ht⟩, hb⟩
theorem drns.snoc {ps : List Pk} {s t : List UInt8} {b : Bool} (h : drns ps) (hne : ps ≠ []) (hs : s ∈ N5) (ht : t ∈ N3) : drns (ps ++ [⟨s, t, b⟩]) := by
  refine ⟨fun p hp => ?_, ?_⟩
  · rcases List.mem_append.1 hp with hp | hp
    · exact h.1 p hp
    · rw [List.mem_singleton.1 hp]; exact ⟨hs, ht⟩
  · cases ps with
    | nil => exact absurd rfl hne
    | cons p l => exact h.2
theorem pcs_ne (p : Pk) (l : List Pk) : pcs (p :: l) ≠ [] := by simp [pcs]
end Go.Vl.Pk
namespace Go.Vl
/-- a struct of two strings and a truth value -/
def Pk3 (P : Program) (T : TypeId) : Prop := ∃ f1 f2 f3 : Field, P.underlying T = some (.struct (P.fieldsOf T)) ∧ (P.fieldsOf T).toList = [f1, f2, f3] ∧ P.stoodInHeld T = false ∧ P.eqGuardType P.depth T = false ∧
  f1.name ≠ "_" ∧ f2.name ≠ "_" ∧ f3.name ≠ "_" ∧ f1.offset = 0 ∧ f2.offset = 1 ∧ f3.offset = 2 ∧ P.underlying f1.type = some .string ∧ P.underlying f2.type = some .string ∧ P.underlying f3.type = some .bool
theorem Pk3.of {P : Program} {T : TypeId} {f1 f2 f3 : Field} (hU : P.underlying T = some (.struct #[f1, f2, f3])) (hp : P.stoodInHeld T = false) (hm : P.eqGuardType P.depth T = false) (n1 : f1.name ≠ "_") (n2 : f2.name ≠ "_") (n3 : f3.name ≠ "_") (k1 : f1.offset = 0) (k2 : f2.offset = 1) (k3 : f3.offset = 2)
    (u1 : P.underlying f1.type = some .string) (u2 : P.underlying f2.type = some .string) (u3 : P.underlying f3.type = some .bool) : Pk3 P T := by
  have h : P.fieldsOf T = #[f1, f2, f3] := by rw [Program.fieldsOf, hU]
  exact ⟨f1, f2, f3, by rw [h, hU], by rw [h], hp, hm, n1, n2, n3, k1, k2, k3, u1, u2, u3⟩
theorem Rep.pk3 {w : World} {N : List Nat} {p : Pk} {v : Value} (h : Rep w N (kav p) v) : v = .agg #[.string ⟨p.name.toArray⟩, .string ⟨p.attr.toArray⟩, .bool p.deep] := by
  obtain ⟨h1, h2⟩ := h
  cases v <;> simp [AV.sh, shV] at h1
  simp only [RepC, RepL] at h2
  rename_i cells
  obtain ⟨v1, vs1, e1, ⟨_, _, r1⟩, v2, vs2, e2, ⟨_, _, r2⟩, v3, vs3, e3, ⟨_, _, r3⟩, e4⟩ := h2
  subst e4
  subst e3
  subst e2
  obtain rfl := List.cons.inj r1 |>.1
  obtain rfl := List.cons.inj r2 |>.1
  obtain rfl := List.cons.inj r3 |>.1
  congr 1
  exact Array.toList_inj.1 (by simpa [Value.cells] using e1)
theorem run_part_bool {P : Program} {T : TypeId} {w : World} {cs : Array Value} {o : Nat} {v : Value} (hT : P.underlying T = some .bool) (hv : cs[o]? = some v) : (part T cs o).run P w = .ok v w := by
  have := IsAgg.run (P := P) (T := T) (b := false) ⟨_, hT, rfl⟩ w
  simp [part, this, hv]
section
variable {x : Cx} {g : Bool} {L : List (Tmp × Bool × AV)} {M : List ME} {ty : TypeId}
theorem Ev.nepk {o1 o2 : Operand} {T T' : TypeId} {p : Pk} (hS : Pk3 x.P T) (h1 : Ov g L o1 (kav p)) (h2 : Ov g L o2 (kav p)) : Ev x g L M (.binOp .neq T o1 o2 T') ty (.lit (.bool false)) := Ev.pure fun ac w hs hg => by
  obtain ⟨f1, f2, f3, hT, hf, hp, hm, n1, n2, n3, k1, k2, k3, u1, u2, u3⟩ := hS
  have e1 := (h1.rep hg hs).pk3
  have e2 := (h2.rep hg hs).pk3
  simp only [execOp, e1, e2, Sem.run_bind, run_eqGuard_agg w .neq T o1 o2 _ _ hm, Result.andThen_ok, run_neq_struct, run_equalIn_agg w 9999 T _ _ hT hp, hf, Op.eqFields]
  have p1 : ∀ s t r : Value, (part f1.type #[s, t, r] f1.offset).run x.P w = .ok s w := fun s t r => run_part_str u1 (by rw [k1]; rfl)
  have p2 : ∀ s t r : Value, (part f2.type #[s, t, r] f2.offset).run x.P w = .ok t w := fun s t r => run_part_str u2 (by rw [k2]; rfl)
  have p3 : ∀ s t r : Value, (part f3.type #[s, t, r] f3.offset).run x.P w = .ok r w := fun s t r => run_part_bool u3 (by rw [k3]; rfl)
  rw [if_pos n1, if_pos n2, if_pos n3]
  simp [Sem.run_bind, p1, p2, p3, Result.andThen_ok, run_equalIn_string w 9998 _ _ _ u1, run_equalIn_string w 9998 _ _ _ u2, run_equalIn_bool (hT := u3)]
end
end Go.Vl
end

section
set_option linter.unusedVariables false
set_option linter.unusedSimpArgs false
set_option maxRecDepth 100000
namespace Go.Proofs.YtiflifblkpjgpaaDoor
open Go.Vl

namespace Base

theorem tmod_neg (a n : Int) (hn : 0 < n) (h : a.tmod n < 0) : a.tmod n + n = a % n := by
  have h1 := Int.tmod_eq_emod (a := a) (b := n)
  have h2 := Int.emod_nonneg a (by omega : n ≠ 0)
  have h3 := Int.emod_lt_of_pos a hn
  have h4 : (n.natAbs : Int) = n := by omega
  rw [h1] at h ⊢
  split at h <;> split <;> omega
theorem tmod_nonneg (a n : Int) (hn : 0 < n) (h : ¬ a.tmod n < 0) : a.tmod n = a % n := by
  have h1 := Int.tmod_eq_emod (a := a) (b := n)
  have h2 := Int.emod_nonneg a (by omega : n ≠ 0)
  have h3 := Int.emod_lt_of_pos a hn
  have h4 : (n.natAbs : Int) = n := by omega
  rw [h1] at h ⊢
  split at h <;> split <;> omega
theorem tmod_gt (a n : Int) (hn : 0 < n) : -n < a.tmod n ∧ a.tmod n < n := by
  have h1 := Int.tmod_eq_emod (a := a) (b := n)
  have h2 := Int.emod_nonneg a (by omega : n ≠ 0)
  have h3 := Int.emod_lt_of_pos a hn
  have h4 : (n.natAbs : Int) = n := by omega
  rw [h1]
  split <;> omega

theorem c_Picked (a n : Int) (hn : 0 < n) (hb : n ≤ 4611686018427387904) : FnP Tryd.prog 7 [.int a, .int n] (.int (a % n)) :=  by
  refine FnC.mk Tryd.func7 (by kernel_rfl) rfl Tryd.ntmps7 rfl (fun w0 F => ?_)
  have htm := tmod_gt a n hn
  refine W.seq ?_
  refine W.region ?_
  refine W.q (Ev.assign .k) rfl ?_
  refine W.nil ?_
  refine W.then ?_
  refine W.seq ?_
  refine W.region ?_
  refine W.q (Ev.move (.t rfl)) rfl ?_
  refine W.q (Ev.move (.t rfl)) rfl ?_
  first | refine W.q (Ev.rem (.t rfl) (.t rfl) (fun _ => by decide)) rfl ?_ | refine W.q (Ev.rem (.t rfl) (.t rfl) (fun _ => by omega)) rfl ?_
  refine W.q (Ev.assign (.t rfl)) rfl ?_
  refine W.nil ?_
  refine W.then ?_
  refine W.seq ?_
  refine W.seq ?_
  refine W.region ?_
  refine W.q (Ev.move (.t rfl)) rfl ?_
  refine W.q (Ev.lti (.t rfl) .k) rfl ?_
  refine W.nil ?_
  refine W.then ?_
  refine W.cond (.t rfl) (fun hc_t9 => ?_) (fun hc_t9 => ?_)
  · have h9 := of_decide_eq_true hc_t9
    refine W.seq ?_
    refine W.region ?_
    refine W.q (Ev.move (.t rfl)) rfl ?_
    refine W.q (Ev.move (.t rfl)) rfl ?_
    first | refine W.q (Ev.add (.t rfl) (.t rfl) (fun _ => by omega)) rfl ?_ | refine W.q (Ev.addw (.t rfl) (.t rfl)) rfl ?_
    refine W.q (Ev.assign (.t rfl)) rfl ?_
    refine W.nil ?_
    refine W.then ?_
    refine W.ret ?_
    refine W.then_ret ?_
    refine W.retn (M' := []) (rs := [.tmp 4]) (avs := [_]) Tryd.results7 ⟨rfl, trivial⟩ rfl (.refl _) ?_
    exact ⟨congrArg AV.int (by first | exact (tmod_neg a n hn h9).symm ▸ rfl | exact tmod_nonneg a n hn h9), rfl⟩
  · have h9 := of_decide_eq_false hc_t9
    refine W.skip ?_
    refine W.then ?_
    refine W.seq ?_
    refine W.region ?_
    refine W.q (Ev.move (.t rfl)) rfl ?_
    refine W.q (Ev.assign (.t rfl)) rfl ?_
    refine W.nil ?_
    refine W.then ?_
    refine W.ret ?_
    refine W.retn (M' := []) (rs := [.tmp 4]) (avs := [_]) Tryd.results7 ⟨rfl, trivial⟩ rfl (.refl _) ?_
    exact ⟨congrArg AV.int (by first | exact (tmod_neg a n hn h9).symm ▸ rfl | exact tmod_nonneg a n hn h9), rfl⟩

end Base

end Go.Proofs.YtiflifblkpjgpaaDoor
end

section
set_option linter.unusedVariables false
set_option linter.unusedSimpArgs false
set_option maxRecDepth 100000
namespace Go.Proofs.YtiflifblkpjgpaaDoor
open Go.Vl

namespace WName

theorem c_indexFunc (s : List UInt8) (hs : s.length ≤ 17592186044416) (g : Nat) (caps : List Value) (M0 : List ME) (p : Int → Bool) (hg : ∀ r : Nat, FnC Tryd.prog g ([.lit (.int .i32 (r : Int))] ++ caps.map .lit) M0 (fun r' M => r' = .bool (p r) ∧ M = M0)) (tr : Bool) : FnC Tryd.prog 38 [.str s, .lit (.func (.func g) #[] caps.toArray), .bool tr] M0 (fun r M => M = M0 ∧ ∃ k : Int, r = .int k ∧ decide (0 ≤ k) = (runes s).any fun r => p r == tr) :=  by
  refine FnC.mk Tryd.func38 (by kernel_rfl) rfl Tryd.ntmps38 rfl (fun w0 F => ?_)
  refine W.seq ?_
  refine W.region ?_
  refine W.q (Ev.assign .k) rfl ?_
  refine W.nil ?_
  refine W.then ?_
  refine W.seq ?_
  refine W.seq ?_
  refine W.region ?_
  refine W.q (Ev.move (.t rfl)) rfl ?_
  refine W.rng (.t rfl) Tryd.underlying9 rfl ?_
  intro b10
  refine W.nil ?_
  refine W.then ?_
  refine W.block ?_
  refine W.loop (D := []) (ι := Nat) (fun q => [(10, true, .lit (.pointer (some ⟨b10, 0, none⟩))), (1, true, .lit (.func (.func g) #[] caps.toArray)), (2, true, .bool tr)]) (fun q => .obj b10 (.stringIter ⟨s.toArray⟩ q) :: M0) (fun q => q ≤ s.length ∧ ((runes s).any fun r => p r == tr) = ((runes (s.drop q)).any fun r => p r == tr)) (fun q => s.length - q) 0 ⟨rfl, rfl, rfl, trivial⟩ (by rw [List.append_nil]) ⟨Nat.zero_le _, by simp⟩ ?_
  rintro q ⟨hp1, hp2⟩
  dsimp only at hp1 hp2 ⊢
  have hle := dec_le (s.drop q)
  by_cases hp : q < s.length
  · have hw := dec_width (s.drop q) (by intro e; have := congrArg List.length e; simp at this; omega)
    rw [List.length_drop] at hw
    rw [runes_drop s q hp, List.any_cons] at hp2
    refine W.seq ?_
    refine W.region ?_
    first | refine W.nxtT 0 (.t rfl) rfl (by omega) rfl ?_ | refine W.nxtF 0 (.t rfl) rfl (by omega) rfl ?_ | refine W.nxtT 1 (.t rfl) rfl (by omega) rfl ?_ | refine W.nxtF 1 (.t rfl) rfl (by omega) rfl ?_ | refine W.nxtT 2 (.t rfl) rfl (by omega) rfl ?_ | refine W.nxtF 2 (.t rfl) rfl (by omega) rfl ?_ | refine W.nxtT 3 (.t rfl) rfl (by omega) rfl ?_ | refine W.nxtF 3 (.t rfl) rfl (by omega) rfl ?_
    refine W.q (Ev.extract (.t rfl) rfl) rfl ?_
    refine W.nil ?_
    refine W.then ?_
    refine W.seq ?_
    refine W.condT (.t rfl) ?_
    refine W.skip ?_
    refine W.then ?_
    refine W.block ?_
    refine W.seq ?_
    refine W.region ?_
    refine W.q (Ev.extract (.t rfl) rfl) rfl ?_
    refine W.q (Ev.extract (.t rfl) rfl) rfl ?_
    refine W.q (Ev.assign (.t rfl)) rfl ?_
    refine W.q (Ev.assign (.t rfl)) rfl ?_
    refine W.nil ?_
    refine W.then ?_
    refine W.seq ?_
    refine W.region ?_
    refine W.q (Ev.move (.t rfl)) rfl ?_
    refine W.q (Ev.move (.t rfl)) rfl ?_
    refine W.callv (caps := caps) (avs := [_]) (hg (dec (s.drop q)).1) (.t rfl) ⟨(.t rfl), trivial⟩ rfl (List.perm_append_comm (l₁ := [_])) rfl ?_
    rintro _ M' ⟨rfl, hM⟩
    rw [hM]
    refine W.q (Ev.move (.t rfl)) rfl ?_
    refine W.q (Ev.eqb (.t rfl) (.t rfl) Tryd.underlying4) rfl ?_
    refine W.nil ?_
    refine W.then ?_
    refine W.cond (.t rfl) (fun hc_t19 => ?_) (fun hc_t19 => ?_)
    · refine W.seq ?_
      refine W.region ?_
      refine W.q (Ev.move (.t rfl)) rfl ?_
      refine W.q (Ev.assign (.t rfl)) rfl ?_
      refine W.nil ?_
      refine W.then ?_
      refine W.ret ?_
      refine W.blk_ret ?_
      refine W.then_ret ?_
      refine W.blk_ret ?_
      refine W.then_ret ?_
      refine W.retn (M' := M0) (D := [_]) (rs := [.tmp 6]) (avs := [_]) Tryd.results38 ⟨rfl, trivial⟩ rfl (by first | exact .refl _ | exact List.perm_append_comm (l₁ := [_])) ?_
      refine ⟨rfl, _, rfl, ?_⟩
      rw [hp2]
      first | (rw [hc_t19, Bool.true_or]; simp; done) | simp
    · refine W.skip ?_
      refine W.blk_normal ?_
      refine W.then ?_
      refine W.reach (D := []) (q + (dec (s.drop q)).2) ⟨rfl, rfl, rfl, trivial⟩ (by rw [List.append_nil]; exact List.perm_append_comm (l₂ := [_])) ⟨⟨by omega, ?_⟩, by show _ - _ < _ - _; omega⟩
      rw [hp2, hc_t19, Bool.false_or]
  · have hsd : s.drop q = [] := List.drop_of_length_le (by omega)
    rw [hsd, runes_nil] at hp2
    refine W.seq ?_
    refine W.region ?_
    first | refine W.nxtT 0 (.t rfl) rfl (by omega) rfl ?_ | refine W.nxtF 0 (.t rfl) rfl (by omega) rfl ?_ | refine W.nxtT 1 (.t rfl) rfl (by omega) rfl ?_ | refine W.nxtF 1 (.t rfl) rfl (by omega) rfl ?_ | refine W.nxtT 2 (.t rfl) rfl (by omega) rfl ?_ | refine W.nxtF 2 (.t rfl) rfl (by omega) rfl ?_ | refine W.nxtT 3 (.t rfl) rfl (by omega) rfl ?_ | refine W.nxtF 3 (.t rfl) rfl (by omega) rfl ?_
    refine W.q (Ev.extract (.t rfl) rfl) rfl ?_
    refine W.nil ?_
    refine W.then ?_
    refine W.seq ?_
    refine W.condF (.t rfl) ?_
    refine W.exit ?_
    refine W.then_exit ?_
    refine W.then_exit ?_
    refine W.blk_hit ?_
    refine W.then ?_
    refine W.seq ?_
    refine W.region ?_
    refine W.q (Ev.assign .k) rfl ?_
    refine W.nil ?_
    refine W.then ?_
    refine W.ret ?_
    refine W.retn (M' := M0) (D := [_]) (rs := [.tmp 6]) (avs := [_]) Tryd.results38 ⟨rfl, trivial⟩ rfl (by first | exact .refl _ | exact List.perm_append_comm (l₁ := [_])) ?_
    refine ⟨rfl, _, rfl, ?_⟩
    rw [hp2]
    first | (rw [hc_t19, Bool.true_or]; simp; done) | simp

theorem c_IndexFunc (s : List UInt8) (hs : s.length ≤ 17592186044416) (g : Nat) (caps : List Value) (M0 : List ME) (p : Int → Bool) (hg : ∀ r : Nat, FnC Tryd.prog g ([.lit (.int .i32 (r : Int))] ++ caps.map .lit) M0 (fun r' M => r' = .bool (p r) ∧ M = M0)) : FnC Tryd.prog 31 [.str s, .lit (.func (.func g) #[] caps.toArray)] M0 (fun r M => M = M0 ∧ ∃ k : Int, r = .int k ∧ decide (0 ≤ k) = (runes s).any fun r => p r) :=  by
  refine FnC.mk Tryd.func31 (by kernel_rfl) rfl Tryd.ntmps31 rfl (fun w0 F => ?_)
  refine W.seq ?_
  refine W.region ?_
  refine W.q (Ev.assign .k) rfl ?_
  refine W.nil ?_
  refine W.then ?_
  refine W.seq ?_
  refine W.region ?_
  refine W.q (Ev.move (.t rfl)) rfl ?_
  refine W.q (Ev.move (.t rfl)) rfl ?_
  refine W.call (c_indexFunc s hs g caps M0 p hg true) ⟨(.t rfl), (.t rfl), .k, trivial⟩ ((List.Perm.of_eq (List.append_nil _).symm)) rfl ?_
  rintro _ M' ⟨hM, k, rfl, hk⟩
  rw [hM, List.append_nil]
  refine W.q (Ev.assign (.t rfl)) rfl ?_
  refine W.nil ?_
  refine W.then ?_
  refine W.ret ?_
  refine W.retn (M' := M0) (D := []) (rs := [.tmp 4]) (avs := [_]) Tryd.results31 ⟨rfl, trivial⟩ rfl (List.Perm.of_eq (List.append_nil _).symm) ?_
  exact ⟨rfl, k, rfl, by rw [hk]; simp⟩

theorem c_ContainsFunc (s : List UInt8) (hs : s.length ≤ 17592186044416) (g : Nat) (caps : List Value) (M0 : List ME) (p : Int → Bool) (hg : ∀ r : Nat, FnC Tryd.prog g ([.lit (.int .i32 (r : Int))] ++ caps.map .lit) M0 (fun r' M => r' = .bool (p r) ∧ M = M0)) : FnC Tryd.prog 22 [.str s, .lit (.func (.func g) #[] caps.toArray)] M0 (fun r M => r = .bool ((runes s).any fun r => p r) ∧ M = M0) :=  by
  refine FnC.mk Tryd.func22 (by kernel_rfl) rfl Tryd.ntmps22 rfl (fun w0 F => ?_)
  refine W.seq ?_
  refine W.region ?_
  refine W.q (Ev.assign .k) rfl ?_
  refine W.nil ?_
  refine W.then ?_
  refine W.seq ?_
  refine W.region ?_
  refine W.q (Ev.move (.t rfl)) rfl ?_
  refine W.q (Ev.move (.t rfl)) rfl ?_
  refine W.call (c_IndexFunc s hs g caps M0 p hg) ⟨(.t rfl), (.t rfl), trivial⟩ ((List.Perm.of_eq (List.append_nil _).symm)) rfl ?_
  rintro _ M' ⟨hM, k, rfl, hk⟩
  rw [hM, List.append_nil]
  refine W.q (Ev.gei (.t rfl) .k) rfl ?_
  refine W.q (Ev.assign (.t rfl)) rfl ?_
  refine W.nil ?_
  refine W.then ?_
  refine W.ret ?_
  refine W.retn (M' := M0) (D := []) (rs := [.tmp 4]) (avs := [_]) Tryd.results22 ⟨rfl, trivial⟩ rfl (List.Perm.of_eq (List.append_nil _).symm) ?_
  exact ⟨congrArg AV.bool hk, rfl⟩

theorem c_Name1 (r : Int) : FnP Tryd.prog 23 [.lit (.int .i32 r)] (.bool (!(nameCh r))) :=  by
  refine FnC.mk Tryd.func23 (by kernel_rfl) rfl Tryd.ntmps23 rfl (fun w0 F => ?_)
  refine W.seq ?_
  refine W.region ?_
  refine W.q (Ev.assign .k) rfl ?_
  refine W.nil ?_
  refine W.then ?_
  refine W.seq ?_
  refine W.region ?_
  refine W.q (Ev.move (.t rfl)) rfl ?_
  refine W.q (Ev.gei (.t rfl) .k) rfl ?_
  refine W.q (Ev.move (.t rfl)) rfl ?_
  refine W.qgT rfl rfl (Ev.move (.t rfl)) rfl ?_
  refine W.qgT rfl rfl (Ev.lei (.c rfl) .k) rfl ?_
  refine W.q (Ev.and (.t rfl) ⟨_, _, rfl, rfl, by first | (simp; done) | (intro hg_ hp_; simp [hp_]; done) | (simp <;> omega; done) | (simp_all; done) | grind⟩) rfl ?_
  refine W.q (Ev.move (.t rfl)) rfl ?_
  refine W.qgF rfl rfl (Ev.move (.t rfl)) rfl ?_
  refine W.qgF rfl rfl (Ev.gei (.c rfl) .k) rfl ?_
  refine W.qgF rfl rfl (Ev.move (.c rfl)) rfl ?_
  refine W.qgT' rfl rfl (Ev.move (.t rfl)) rfl ?_
  refine W.qgT' rfl rfl (Ev.lei (.c rfl) .k) rfl ?_
  refine W.qgF rfl rfl (Ev.and (.c rfl) ⟨_, _, rfl, rfl, by first | (simp; done) | (intro hg_ hp_; simp [hp_]; done) | (simp <;> omega; done) | (simp_all; done) | grind⟩) rfl ?_
  refine W.q (Ev.or (.t rfl) ⟨_, _, rfl, rfl, by first | (simp; done) | (intro hg_ hp_; simp [hp_]; done) | (simp <;> omega; done) | (simp_all; done) | grind⟩) rfl ?_
  refine W.q (Ev.move (.t rfl)) rfl ?_
  refine W.qgF rfl rfl (Ev.move (.t rfl)) rfl ?_
  refine W.qgF rfl rfl (Ev.eqi (.c rfl) .k) rfl ?_
  refine W.q (Ev.or (.t rfl) ⟨_, _, rfl, rfl, by first | (simp; done) | (intro hg_ hp_; simp [hp_]; done) | (simp <;> omega; done) | (simp_all; done) | grind⟩) rfl ?_
  refine W.q (Ev.not (.t rfl)) rfl ?_
  refine W.q (Ev.assign (.t rfl)) rfl ?_
  refine W.nil ?_
  refine W.then ?_
  refine W.ret ?_
  refine W.retn (M' := []) (rs := [.tmp 2]) (avs := [_]) Tryd.results23 ⟨rfl, trivial⟩ rfl (.refl _) ?_
  exact ⟨congrArg AV.bool rfl, rfl⟩

theorem c_Name (s : List UInt8) (hs : s.length ≤ 17592186044416) : FnP Tryd.prog 14 [.str s] (.bool (nameOk s)) :=  by
  refine FnC.mk Tryd.func14 (by kernel_rfl) rfl Tryd.ntmps14 rfl (fun w0 F => ?_)
  refine W.seq ?_
  refine W.region ?_
  refine W.q (Ev.assign .k) rfl ?_
  refine W.nil ?_
  refine W.then ?_
  refine W.seq ?_
  refine W.seq ?_
  refine W.region ?_
  refine W.q (Ev.move (.t rfl)) rfl ?_
  refine W.q (Ev.eqs (.t rfl) .k) rfl ?_
  refine W.q (Ev.move (.t rfl)) rfl ?_
  refine W.qgF rfl rfl (Ev.move (.t rfl)) rfl ?_
  refine W.qgF rfl rfl (Ev.lens (.c rfl) Tryd.underlying9) rfl ?_
  refine W.qgF rfl rfl (Ev.gti (.c rfl) .k) rfl ?_
  refine W.q (Ev.or (.t rfl) ⟨_, _, rfl, rfl, by first | (simp; done) | (intro hg_ hp_; simp [hp_]; done) | (simp <;> omega; done) | (simp_all; done) | grind⟩) rfl ?_
  refine W.q (Ev.move (.t rfl)) rfl ?_
  refine W.qgF rfl rfl (Ev.move (.t rfl)) rfl ?_
  refine W.qgF rfl rfl (Ev.ats' (.c rfl) .k Tryd.underlying9 (fun hg => by have h0 : s ≠ [] := (by rintro rfl; simp at hg); have := List.length_pos_iff.2 h0; omega)) rfl ?_
  refine W.qgF rfl rfl (Ev.lti (.c rfl) .k) rfl ?_
  refine W.q (Ev.or (.t rfl) ⟨_, _, rfl, rfl, by first | (simp; done) | (intro hg_ hp_; simp [hp_]; done) | (simp <;> omega; done) | (simp_all; done) | grind⟩) rfl ?_
  refine W.q (Ev.move (.t rfl)) rfl ?_
  refine W.qgF rfl rfl (Ev.move (.t rfl)) rfl ?_
  refine W.qgF rfl rfl (Ev.ats' (.c rfl) .k Tryd.underlying9 (fun hg => by have h0 : s ≠ [] := (by rintro rfl; simp at hg); have := List.length_pos_iff.2 h0; omega)) rfl ?_
  refine W.qgF rfl rfl (Ev.gti (.c rfl) .k) rfl ?_
  refine W.q (Ev.or (.t rfl) ⟨_, _, rfl, rfl, by first | (simp; done) | (intro hg_ hp_; simp [hp_]; done) | (simp <;> omega; done) | (simp_all; done) | grind⟩) rfl ?_
  refine W.nil ?_
  refine W.then ?_
  refine W.cond (.t rfl) (fun hc_t19 => ?_) (fun hc_t19 => ?_)
  · have hq : nameOk s = false := by have h := hc_t19; rw [show Int.toNat 0 = 0 from rfl] at h; simp only [nameOk, h, Bool.not_true, Bool.false_and]
    refine W.seq ?_
    refine W.region ?_
    refine W.q (Ev.assign .k) rfl ?_
    refine W.nil ?_
    refine W.then ?_
    refine W.ret ?_
    refine W.then_ret ?_
    refine W.retn (M' := []) (rs := [.tmp 2]) (avs := [_]) Tryd.results14 ⟨rfl, trivial⟩ rfl (.refl _) ?_
    first | exact ⟨congrArg AV.bool hq.symm, rfl⟩ | exact ⟨congrArg AV.bool (by have h := hc_t19; rw [show Int.toNat 0 = 0 from rfl] at h; simp only [nameOk, h, Bool.not_false, Bool.true_and]), rfl⟩
  · refine W.skip ?_
    refine W.then ?_
    refine W.seq ?_
    refine W.region ?_
    refine W.q (Ev.move (.t rfl)) rfl ?_
    refine W.call (c_ContainsFunc s hs 23 [] [] (fun r => !(nameCh r)) (fun r => c_Name1 r)) ⟨(.t rfl), .f, trivial⟩ (.refl _) rfl ?_
    rintro _ _ ⟨rfl, rfl⟩
    refine W.q (Ev.not (.t rfl)) rfl ?_
    refine W.q (Ev.assign (.t rfl)) rfl ?_
    refine W.nil ?_
    refine W.then ?_
    refine W.ret ?_
    refine W.retn (M' := []) (rs := [.tmp 2]) (avs := [_]) Tryd.results14 ⟨rfl, trivial⟩ rfl (.refl _) ?_
    first | exact ⟨congrArg AV.bool hq.symm, rfl⟩ | exact ⟨congrArg AV.bool (by have h := hc_t19; rw [show Int.toNat 0 = 0 from rfl] at h; simp only [nameOk, h, Bool.not_false, Bool.true_and]), rfl⟩

end WName

end Go.Proofs.YtiflifblkpjgpaaDoor
end

section
set_option linter.unusedVariables false
set_option linter.unusedSimpArgs false
set_option maxRecDepth 100000
namespace Go.Proofs.YtiflifblkpjgpaaDoor
open Go.Vl

namespace WCheckB
theorem ty9 : Ty Tryd.prog 9 1 16 (.string ⟨#[]⟩) := Ty.of (by kernel_rfl)
theorem ty31 : Ty Tryd.prog 31 3 40 (.agg #[.string ⟨#[]⟩, .string ⟨#[]⟩, .bool false]) := Ty.of (by kernel_rfl)
theorem ty44 : Ty Tryd.prog 44 1 8 (.nilFunc) := Ty.of (by kernel_rfl)
theorem ag9 : IsAgg Tryd.prog 9 false := ⟨_, Tryd.underlying9, rfl⟩
theorem ag31 : IsAgg Tryd.prog 31 true := ⟨_, Tryd.underlying31, rfl⟩
theorem ag44 : IsAgg Tryd.prog 44 false := ⟨_, Tryd.underlying44, rfl⟩
theorem fa31_0 : FieldAt Tryd.prog 31 0 0 1 false := ⟨_, _, Tryd.underlying31, rfl, rfl, ty9.size, ag9, by decide⟩
theorem fa31_1 : FieldAt Tryd.prog 31 1 1 1 false := ⟨_, _, Tryd.underlying31, rfl, rfl, ty9.size, ag9, by decide⟩
theorem c_IndexFuncP (l : List Pk) (g : Nat) (caps : List Value) (M0 : List ME) (p : Pk → Bool) (hg : ∀ d ∈ l, FnC Tryd.prog g ([kav d] ++ caps.map .lit) M0 (fun r M => r = .bool (p d) ∧ M = M0)) (hn : l.length ≤ 1099511627776) : FnC Tryd.prog 24 [.sl 3 (l.map kav), .lit (.func (.func g) #[] caps.toArray)] M0 (fun r M => r = .int (idxI p l) ∧ M = M0) :=  by
  refine FnC.mk Tryd.func24 (by kernel_rfl) rfl Tryd.ntmps24 rfl (fun w0 F => ?_)
  have hnl : (l.map kav).length = l.length := List.length_map ..
  refine W.seq ?_
  refine W.region ?_
  refine W.q (Ev.assign .k) rfl ?_
  refine W.nil ?_
  refine W.then ?_
  refine W.seq ?_
  refine W.seq ?_
  refine W.region ?_
  refine W.q (Ev.move (.t rfl)) rfl ?_
  first | refine W.q (Ev.lensl (.t rfl) Tryd.underlying23) rfl ?_ | refine W.q (Ev.lenar (i := 0) (.t rfl) rfl Tryd.underlying23) rfl ?_ | refine W.q (Ev.lenar (i := 1) (.t rfl) rfl Tryd.underlying23) rfl ?_ | refine W.q (Ev.lenar (i := 2) (.t rfl) rfl Tryd.underlying23) rfl ?_ | refine W.q (Ev.lenar (i := 3) (.t rfl) rfl Tryd.underlying23) rfl ?_
  refine W.q (Ev.move .k) rfl ?_
  refine W.nil ?_
  refine W.then ?_
  refine W.block ?_
  refine W.loop (D := []) (ι := Nat) (fun i => [(8, true, .int (i : Int)), (7, true, .int ((l.map kav).length : Int)), (0, true, .sl 3 (l.map kav)), (1, true, .lit (.func (.func g) #[] caps.toArray))]) (fun _ => M0) (fun i => i ≤ l.length ∧ ∀ d ∈ l.take i, p d = false) (fun i => l.length - i) 0 ⟨rfl, rfl, rfl, rfl, trivial⟩ (List.Perm.of_eq (List.append_nil _).symm) ⟨Nat.zero_le _, by simp⟩ ?_
  rintro i ⟨hi1, hi2⟩
  dsimp only at hi1 hi2 ⊢
  rcases (show i < l.length ∨ i = l.length from by omega) with hlt | hend
  · have hga := getD_mapG kav Pk.dfl l i hlt
    refine W.seq ?_
    refine W.region ?_
    refine W.q (Ev.lti (.t rfl) (.t rfl)) rfl ?_
    refine W.nil ?_
    refine W.then ?_
    refine W.seq ?_
    refine W.is (t := 9) (g := true) (av' := .lit (.bool true)) rfl (congrArg (fun b => AV.lit (.bool b)) (by simp; omega)) ?_
    refine W.condT (.t rfl) ?_
    refine W.skip ?_
    refine W.then ?_
    refine W.seq ?_
    refine W.block ?_
    refine W.seq ?_
    refine W.region ?_
    refine W.q (Ev.move (.t rfl)) rfl ?_
    refine W.q (Ev.assign (.t rfl)) rfl ?_
    refine W.nil ?_
    refine W.then ?_
    refine W.seq ?_
    refine W.region ?_
    refine W.q (Ev.move (.t rfl)) rfl ?_
    refine W.q (Ev.move (.t rfl)) rfl ?_
    refine W.q (Ev.move (.t rfl)) rfl ?_
    refine W.q (Ev.at (E := 31) (.t rfl) (.t rfl) Tryd.underlying23 ty31 (fun _ => ⟨by omega, hga⟩) rfl rfl) rfl ?_
    first | refine W.q (Ev.lden (.t rfl) ag31 ty31 rfl rfl) rfl ?_ | refine W.q (Ev.ldbn 0 (.t rfl) rfl ag31 ty31 rfl) rfl ?_ | refine W.q (Ev.ldbn 1 (.t rfl) rfl ag31 ty31 rfl) rfl ?_ | refine W.q (Ev.ldbn 2 (.t rfl) rfl ag31 ty31 rfl) rfl ?_ | refine W.q (Ev.ldbn 3 (.t rfl) rfl ag31 ty31 rfl) rfl ?_
    refine W.callv (caps := caps) (avs := [_]) (hg (l.getD i Pk.dfl) (getD_memG Pk.dfl l i hlt)) (.t rfl) ⟨(.t rfl), trivial⟩ rfl ((List.Perm.of_eq (List.append_nil _).symm)) rfl ?_
    rintro _ M' ⟨rfl, hM⟩
    rw [hM, List.append_nil]
    refine W.nil ?_
    refine W.then ?_
    refine W.cond (.t rfl) (fun hc_t16 => ?_) (fun hc_t16 => ?_)
    · have hq := idxI_hit p Pk.dfl l i hlt hi2 hc_t16
      refine W.seq ?_
      refine W.region ?_
      refine W.q (Ev.move (.t rfl)) rfl ?_
      refine W.q (Ev.assign (.t rfl)) rfl ?_
      refine W.nil ?_
      refine W.then ?_
      refine W.ret ?_
      refine W.blk_ret ?_
      refine W.then_ret ?_
      refine W.then_ret ?_
      refine W.blk_ret ?_
      refine W.then_ret ?_
      refine W.retn (M' := M0) (D := []) (rs := [.tmp 4]) (avs := [_]) Tryd.results24 ⟨rfl, trivial⟩ rfl (List.Perm.of_eq (List.append_nil _).symm) ?_
      exact ⟨congrArg AV.int (by rw [hq]), rfl⟩
    · have hq : p (l.getD i Pk.dfl) = false := hc_t16
      refine W.skip ?_
      refine W.blk_normal ?_
      refine W.then ?_
      refine W.region ?_
      first | refine W.q (Ev.add (.t rfl) .k (fun _ => by omega)) rfl ?_ | refine W.q (Ev.addw (.t rfl) .k) rfl ?_
      refine W.q (Ev.move (.t rfl)) rfl ?_
      refine W.nil ?_
      refine W.then ?_
      refine W.reach (D := []) (i + 1) ⟨rfl, rfl, rfl, rfl, trivial⟩ (List.Perm.of_eq (List.append_nil _).symm) ⟨⟨by omega, ?_⟩, by omega⟩
      rw [take_getDG Pk.dfl l i hlt]
      intro d hd
      cases List.mem_append.1 hd with
      | inl h => exact hi2 d h
      | inr h => rw [List.mem_singleton.1 h]; exact hq
  · rw [List.take_of_length_le (by omega)] at hi2
    have hq := idxI_miss p l hi2
    refine W.seq ?_
    refine W.region ?_
    refine W.q (Ev.lti (.t rfl) (.t rfl)) rfl ?_
    refine W.nil ?_
    refine W.then ?_
    refine W.seq ?_
    refine W.is (t := 9) (g := true) (av' := .lit (.bool false)) rfl (congrArg (fun b => AV.lit (.bool b)) (by simp; omega)) ?_
    refine W.condF (.t rfl) ?_
    refine W.exit ?_
    refine W.then_exit ?_
    refine W.then_exit ?_
    refine W.blk_hit ?_
    refine W.then ?_
    refine W.seq ?_
    refine W.region ?_
    refine W.q (Ev.assign .k) rfl ?_
    refine W.nil ?_
    refine W.then ?_
    refine W.ret ?_
    refine W.retn (M' := M0) (D := []) (rs := [.tmp 4]) (avs := [_]) Tryd.results24 ⟨rfl, trivial⟩ rfl (List.Perm.of_eq (List.append_nil _).symm) ?_
    exact ⟨congrArg AV.int (by rw [hq]), rfl⟩

theorem c_ContainsFuncP (l : List Pk) (g : Nat) (caps : List Value) (M0 : List ME) (p : Pk → Bool) (hg : ∀ d ∈ l, FnC Tryd.prog g ([kav d] ++ caps.map .lit) M0 (fun r M => r = .bool (p d) ∧ M = M0)) (hn : l.length ≤ 1099511627776) : FnC Tryd.prog 15 [.sl 3 (l.map kav), .lit (.func (.func g) #[] caps.toArray)] M0 (fun r M => r = .bool (l.any p) ∧ M = M0) :=  by
  refine FnC.mk Tryd.func15 (by kernel_rfl) rfl Tryd.ntmps15 rfl (fun w0 F => ?_)
  refine W.seq ?_
  refine W.region ?_
  refine W.q (Ev.assign .k) rfl ?_
  refine W.nil ?_
  refine W.then ?_
  refine W.seq ?_
  refine W.region ?_
  refine W.q (Ev.move (.t rfl)) rfl ?_
  refine W.q (Ev.move (.t rfl)) rfl ?_
  refine W.call (c_IndexFuncP l g caps M0 p hg hn) ⟨(.t rfl), (.t rfl), trivial⟩ ((List.Perm.of_eq (List.append_nil _).symm)) rfl ?_
  rintro _ M' ⟨rfl, hM⟩
  rw [hM, List.append_nil]
  refine W.q (Ev.gei (.t rfl) .k) rfl ?_
  refine W.q (Ev.assign (.t rfl)) rfl ?_
  refine W.nil ?_
  refine W.then ?_
  refine W.ret ?_
  refine W.retn (M' := M0) (D := []) (rs := [.tmp 4]) (avs := [_]) Tryd.results15 ⟨rfl, trivial⟩ rfl (List.Perm.of_eq (List.append_nil _).symm) ?_
  exact ⟨congrArg AV.bool (idxI_any p l), rfl⟩

theorem c_check1 (s : List UInt8) (hs : s.length ≤ 1000) : FnP Tryd.prog 13 [.str s] (.bool (Pk.oddS s)) :=  by
  refine FnC.mk Tryd.func13 (by kernel_rfl) rfl Tryd.ntmps13 rfl (fun w0 F => ?_)
  refine W.seq ?_
  refine W.region ?_
  refine W.q (Ev.assign .k) rfl ?_
  refine W.nil ?_
  refine W.then ?_
  refine W.seq ?_
  refine W.region ?_
  refine W.q (Ev.move (.t rfl)) rfl ?_
  refine W.q (Ev.nes (.t rfl) .k) rfl ?_
  refine W.q (Ev.move (.t rfl)) rfl ?_
  refine W.qgT rfl rfl (Ev.move (.t rfl)) rfl ?_
  refine W.callgT (Min := []) (caps := []) (avs := [_]) rfl rfl (fun hg => WName.c_Name s (by omega)) (fun hg => .f) (fun hg => ⟨(.i rfl (fun _ => hg)), trivial⟩) rfl (.refl _) rfl ?_
  refine W.qgT rfl rfl (Ev.not (.c rfl)) rfl ?_
  refine W.q (Ev.and (.t rfl) ⟨_, _, rfl, rfl, by first | (simp; done) | (intro hg_ hp_; simp [hp_]; done) | (simp <;> omega; done) | (simp_all; done) | grind⟩) rfl ?_
  refine W.q (Ev.assign (.t rfl)) rfl ?_
  refine W.nil ?_
  refine W.then ?_
  refine W.ret ?_
  refine W.retn (M' := []) (rs := [.tmp 2]) (avs := [_]) Tryd.results13 ⟨rfl, trivial⟩ rfl (.refl _) ?_
  exact ⟨rfl, rfl⟩

theorem c_check2 (p : Pk) (h1 : p.name.length ≤ 1000) (h2 : p.attr.length ≤ 1000) (b : Nat) : FnC Tryd.prog 16 [kav p, .lit (.pointer (some ⟨b, 0, none⟩))] [.box b 44 [.lit (.func (.func 13) #[] #[])]] (fun r M => r = .bool (Pk.odd p) ∧ M = [.box b 44 [.lit (.func (.func 13) #[] #[])]]) :=  by
  refine FnC.mk Tryd.func16 (by kernel_rfl) rfl Tryd.ntmps16 rfl (fun w0 F => ?_)
  refine W.seq ?_
  refine W.region ?_
  refine W.box (.t rfl) rfl rfl ?_
  intro b2
  refine W.q (Ev.assign .k) rfl ?_
  refine W.nil ?_
  refine W.then ?_
  refine W.seq ?_
  refine W.region ?_
  first | refine W.q (Ev.lde1 (.t rfl) ag44) rfl ?_ | refine W.q (Ev.ldb1 0 (.t rfl) rfl ag44 rfl) rfl ?_ | refine W.q (Ev.ldb1 1 (.t rfl) rfl ag44 rfl) rfl ?_ | refine W.q (Ev.ldb1 2 (.t rfl) rfl ag44 rfl) rfl ?_ | refine W.q (Ev.ldb1 3 (.t rfl) rfl ag44 rfl) rfl ?_
  first | refine W.q (Ev.fae (.t rfl) fa31_0 rfl) rfl ?_ | refine W.q (Ev.fab (.t rfl) fa31_0) rfl ?_ | refine W.q (Ev.faa (.t rfl) fa31_0) rfl ?_
  first | refine W.q (Ev.lde1 (.t rfl) ag9) rfl ?_ | refine W.q (Ev.ldb1 0 (.t rfl) rfl ag9 rfl) rfl ?_ | refine W.q (Ev.ldb1 1 (.t rfl) rfl ag9 rfl) rfl ?_ | refine W.q (Ev.ldb1 2 (.t rfl) rfl ag9 rfl) rfl ?_ | refine W.q (Ev.ldb1 3 (.t rfl) rfl ag9 rfl) rfl ?_
  refine W.callv (caps := []) (avs := [_]) (c_check1 p.name (by omega)) (.t rfl) ⟨(.t rfl), trivial⟩ rfl (.refl _) rfl ?_
  rintro _ _ ⟨rfl, rfl⟩
  refine W.q (Ev.move (.t rfl)) rfl ?_
  first | refine W.qgF rfl rfl (Ev.lde1 (.t rfl) ag44) rfl ?_ | refine W.qgF rfl rfl (Ev.ldb1 0 (.t rfl) rfl ag44 rfl) rfl ?_ | refine W.qgF rfl rfl (Ev.ldb1 1 (.t rfl) rfl ag44 rfl) rfl ?_ | refine W.qgF rfl rfl (Ev.ldb1 2 (.t rfl) rfl ag44 rfl) rfl ?_ | refine W.qgF rfl rfl (Ev.ldb1 3 (.t rfl) rfl ag44 rfl) rfl ?_
  first | refine W.qgF rfl rfl (Ev.fae (.t rfl) fa31_1 rfl) rfl ?_ | refine W.qgF rfl rfl (Ev.fab (.t rfl) fa31_1) rfl ?_ | refine W.qgF rfl rfl (Ev.faa (.t rfl) fa31_1) rfl ?_
  first | refine W.qgF rfl rfl (Ev.lde1 (.c rfl) ag9) rfl ?_ | refine W.qgF rfl rfl (Ev.ldb1 0 (.c rfl) rfl ag9 rfl) rfl ?_ | refine W.qgF rfl rfl (Ev.ldb1 1 (.c rfl) rfl ag9 rfl) rfl ?_ | refine W.qgF rfl rfl (Ev.ldb1 2 (.c rfl) rfl ag9 rfl) rfl ?_ | refine W.qgF rfl rfl (Ev.ldb1 3 (.c rfl) rfl ag9 rfl) rfl ?_
  refine W.callgF (caps := []) (avs := [_]) rfl rfl (fun hg => c_check1 p.attr (by omega)) (fun hg => (.i rfl (fun _ => hg))) (fun hg => ⟨(.i rfl (fun _ => hg)), trivial⟩) rfl (.refl _) rfl ?_
  refine W.q (Ev.or (.t rfl) ⟨_, _, rfl, rfl, by first | (simp; done) | (intro hg_ hp_; simp [hp_]; done) | (simp <;> omega; done) | (simp_all; done) | grind⟩) rfl ?_
  refine W.q (Ev.assign (.t rfl)) rfl ?_
  refine W.nil ?_
  refine W.then ?_
  refine W.ret ?_
  refine W.retn (M' := [.box b 44 _]) (D := [_]) (rs := [.tmp 3]) (avs := [_]) Tryd.results16 ⟨rfl, trivial⟩ rfl (List.Perm.swap _ _ []) ?_
  exact ⟨rfl, rfl⟩

theorem c_check (l : List Pk) (h0 : 0 < l.length) (h1 : l.length ≤ 10) (hk : ∀ p ∈ l, p.ok) : FnP Tryd.prog 8 [.sl 3 (l.map kav)] (.int 0) :=  by
  refine FnC.mk Tryd.func8 (by kernel_rfl) rfl Tryd.ntmps8 rfl (fun w0 F => ?_)
  have hll : (l.map kav).length = l.length := List.length_map ..
  refine W.seq ?_
  refine W.region ?_
  refine W.q (Ev.assign .k) rfl ?_
  refine W.nil ?_
  refine W.then ?_
  refine W.seq ?_
  refine W.block ?_
  refine W.seq ?_
  refine W.region ?_
  refine W.q (Ev.move (.t rfl)) rfl ?_
  first | refine W.q (Ev.lensl (.t rfl) Tryd.underlying23) rfl ?_ | refine W.q (Ev.lenar (i := 0) (.t rfl) rfl Tryd.underlying23) rfl ?_ | refine W.q (Ev.lenar (i := 1) (.t rfl) rfl Tryd.underlying23) rfl ?_ | refine W.q (Ev.lenar (i := 2) (.t rfl) rfl Tryd.underlying23) rfl ?_ | refine W.q (Ev.lenar (i := 3) (.t rfl) rfl Tryd.underlying23) rfl ?_
  refine W.q (Ev.eqi (.t rfl) .k) rfl ?_
  refine W.q (Ev.assign (.t rfl)) rfl ?_
  refine W.nil ?_
  refine W.then ?_
  refine W.is (t := 4) (g := true) (av' := .lit (.bool false)) rfl (congrArg (fun b => AV.lit (.bool b)) (by exact beq_eq_false_iff_ne.2 (by omega))) ?_
  refine W.condF (.t rfl) ?_
  refine W.seq ?_
  refine W.region ?_
  refine W.q (Ev.move (.t rfl)) rfl ?_
  first | refine W.q (Ev.lensl (.t rfl) Tryd.underlying23) rfl ?_ | refine W.q (Ev.lenar (i := 0) (.t rfl) rfl Tryd.underlying23) rfl ?_ | refine W.q (Ev.lenar (i := 1) (.t rfl) rfl Tryd.underlying23) rfl ?_ | refine W.q (Ev.lenar (i := 2) (.t rfl) rfl Tryd.underlying23) rfl ?_ | refine W.q (Ev.lenar (i := 3) (.t rfl) rfl Tryd.underlying23) rfl ?_
  refine W.q (Ev.gti (.t rfl) .k) rfl ?_
  refine W.q (Ev.assign (.t rfl)) rfl ?_
  refine W.nil ?_
  refine W.then ?_
  refine W.is (t := 8) (g := true) (av' := .lit (.bool false)) rfl (congrArg (fun b => AV.lit (.bool b)) (by exact decide_eq_false (by omega))) ?_
  refine W.condF (.t rfl) ?_
  refine W.skip ?_
  refine W.blk_normal ?_
  refine W.then ?_
  refine W.seq ?_
  refine W.region ?_
  refine W.alloc ty44 rfl rfl ?_
  intro b3
  first | refine W.stb 0 (.t rfl) .f rfl ty44 rfl rfl rfl ?_ | refine W.stb 1 (.t rfl) .f rfl ty44 rfl rfl rfl ?_ | refine W.stb 2 (.t rfl) .f rfl ty44 rfl rfl rfl ?_ | refine W.stb 3 (.t rfl) .f rfl ty44 rfl rfl rfl ?_
  refine W.nil ?_
  refine W.then ?_
  refine W.seq ?_
  refine W.seq ?_
  refine W.region ?_
  refine W.q (Ev.move (.t rfl)) rfl ?_
  refine W.q (Ev.mkfn (caps := [.tmp 3]) (vs := [_]) ⟨(.t rfl), trivial⟩) rfl ?_
  refine W.call (c_ContainsFuncP l 16 [.pointer (some ⟨b3, 0, none⟩)] [.box b3 44 [.lit (.func (.func 13) #[] #[])]] Pk.odd (fun d hd => c_check2 d (hk d hd).n (hk d hd).a b3) (by omega)) ⟨(.t rfl), (.t rfl), trivial⟩ (.refl _) rfl ?_
  rintro _ _ ⟨rfl, rfl⟩
  refine W.nil ?_
  refine W.then ?_
  refine W.is (t := 14) (g := true) (av' := .lit (.bool false)) rfl (congrArg (fun b => AV.lit (.bool b)) (by exact Pk.odd_none l hk)) ?_
  refine W.condF (.t rfl) ?_
  refine W.skip ?_
  refine W.then ?_
  refine W.seq ?_
  refine W.region ?_
  refine W.q (Ev.assign .k) rfl ?_
  refine W.nil ?_
  refine W.then ?_
  refine W.ret ?_
  refine W.retn (M' := []) (D := _) (rs := [.tmp 2]) (avs := [_]) Tryd.results8 ⟨rfl, trivial⟩ rfl (.refl _) ?_
  exact ⟨rfl, rfl⟩

end WCheckB

end Go.Proofs.YtiflifblkpjgpaaDoor
end

section
set_option linter.unusedVariables false
set_option linter.unusedSimpArgs false
set_option maxRecDepth 100000
namespace Go.Proofs.YtiflifblkpjgpaaDoor
open Go.Vl

namespace WPicksB
theorem ty3 : Ty Tryd.prog 3 1 8 (.int .i64 0) := Ty.of (by kernel_rfl)
theorem ty4 : Ty Tryd.prog 4 1 1 (.bool false) := Ty.of (by kernel_rfl)
theorem ty9 : Ty Tryd.prog 9 1 16 (.string ⟨#[]⟩) := Ty.of (by kernel_rfl)
theorem ty31 : Ty Tryd.prog 31 3 40 (.agg #[.string ⟨#[]⟩, .string ⟨#[]⟩, .bool false]) := Ty.of (by kernel_rfl)
theorem ag3 : IsAgg Tryd.prog 3 false := ⟨_, Tryd.underlying3, rfl⟩
theorem ag9 : IsAgg Tryd.prog 9 false := ⟨_, Tryd.underlying9, rfl⟩
theorem ag31 : IsAgg Tryd.prog 31 true := ⟨_, Tryd.underlying31, rfl⟩
theorem st31 : StructAt Tryd.prog 31 [(0, 1), (1, 1), (2, 1)] := ⟨_, Tryd.underlying31, rfl, ty9.size, rfl, ty9.size, rfl, ty4.size, trivial⟩
theorem ni23 : NotInt Tryd.prog 23 := .inl ⟨_, Tryd.underlying23⟩
theorem c_Picks (l : List Int) (hl : l.length ≤ 1099511627776) (n : Nat) (hn0 : 0 < n) (hn : n ≤ 1000) : FnC Tryd.prog 4 [.sl 1 (l.map AV.int), .int (n : Int)] [] (fun r M => ∃ (v : Value) (ps : List Pk), r = .lit v ∧ M = [.arr v 31 3 (ps.map kav)] ∧ 0 < ps.length ∧ ps.length ≤ n ∧ Pk.drns ps) :=  by
  refine FnC.mk Tryd.func4 (by kernel_rfl) rfl Tryd.ntmps4 rfl (fun w0 F => ?_)
  have hll : (l.map AV.int).length = l.length := List.length_map ..
  refine W.seq ?_
  refine W.region ?_
  refine W.q (Ev.assign .k) rfl ?_
  refine W.nil ?_
  refine W.then ?_
  refine W.seq ?_
  refine W.region ?_
  refine W.q (Ev.build ty31 st31 rfl (fun hg => ⟨_, _, _, rfl, .k, rfl, rfl, rfl, _, _, _, rfl, .k, rfl, rfl, rfl, rfl⟩)) rfl ?_
  refine W.bso (es := [_]) Tryd.underlying23 ty31 ⟨rfl, (.t rfl), rfl, rfl, trivial⟩ rfl (by decide) rfl rfl ?_
  intro v9
  refine W.q (Ev.assign (.t rfl)) rfl ?_
  refine W.nil ?_
  refine W.then ?_
  refine W.seq ?_
  refine W.seq ?_
  refine W.region ?_
  refine W.q (Ev.assign .k) rfl ?_
  refine W.nil ?_
  refine W.then ?_
  refine W.block ?_
  refine W.loop (D := []) (ι := Nat × List Pk × Value) (fun z => [(6, true, .int (z.1 : Int)), (0, true, .sl 1 (l.map AV.int)), (1, true, .int (n : Int)), (5, true, .lit z.2.2)]) (fun z => [.arr z.2.2 31 3 (z.2.1.map kav)]) (fun z => z.1 ≤ l.length ∧ z.1 ≤ n ∧ (z.1 = 0 → z.2.1.length = 1) ∧ (0 < z.1 → z.2.1.length = z.1) ∧ Pk.drns z.2.1) (fun z => l.length - z.1) (0, [⟨[98], [], true⟩], v9) ⟨rfl, rfl, rfl, rfl, trivial⟩ (.refl _) ⟨Nat.zero_le _, Nat.zero_le _, fun _ => rfl, fun h => absurd h (Nat.lt_irrefl _), Pk.drns.one (by simp) (by simp) rfl⟩ ?_
  rintro ⟨i, ps, v⟩ ⟨hi1, hi2, hi3, hi4, hi5⟩
  dsimp only at hi1 hi2 hi3 hi4 hi5 ⊢
  rcases (show (i < l.length ∧ i < n) ∨ ¬ (i < l.length ∧ i < n) from by omega) with hlt | hge
  · have hgi : (l.map AV.int)[i]? = some (AV.int (l.getD i 0)) := getD_map l i hlt.1
    generalize hz : l.getD i 0 = x at hgi
    have hpl : (ps.map kav).length = ps.length := List.length_map ..
    obtain ⟨s28, m28, h28⟩ := pick_mod [[], [100, 105, 118], [98], [112], [101, 109]] x 5 rfl (by decide)
    obtain ⟨s37, m37, h37⟩ := pick_mod [[], [], [104, 114, 101, 102]] (IntKind.i64.wrap (x.tdiv 5)) 3 rfl (by decide)
    refine W.seq ?_
    refine W.seq ?_
    refine W.region ?_
    refine W.q (Ev.move (.t rfl)) rfl ?_
    refine W.q (Ev.move (.t rfl)) rfl ?_
    first | refine W.q (Ev.lensl (.t rfl) Tryd.underlying22) rfl ?_ | refine W.q (Ev.lenar (i := 0) (.t rfl) rfl Tryd.underlying22) rfl ?_ | refine W.q (Ev.lenar (i := 1) (.t rfl) rfl Tryd.underlying22) rfl ?_ | refine W.q (Ev.lenar (i := 2) (.t rfl) rfl Tryd.underlying22) rfl ?_ | refine W.q (Ev.lenar (i := 3) (.t rfl) rfl Tryd.underlying22) rfl ?_
    refine W.q (Ev.lti (.t rfl) (.t rfl)) rfl ?_
    refine W.q (Ev.move (.t rfl)) rfl ?_
    refine W.qgT rfl rfl (Ev.move (.t rfl)) rfl ?_
    refine W.qgT rfl rfl (Ev.move (.t rfl)) rfl ?_
    refine W.qgT rfl rfl (Ev.lti (.c rfl) (.c rfl)) rfl ?_
    refine W.q (Ev.and (.t rfl) ⟨_, _, rfl, rfl, by first | (simp; done) | (intro hg_ hp_; simp [hp_]; done) | (simp <;> omega; done) | (simp_all; done) | grind⟩) rfl ?_
    refine W.nil ?_
    refine W.then ?_
    refine W.is (t := 18) (g := true) (av' := .lit (.bool true)) rfl (congrArg (fun b => AV.lit (.bool b)) (by simp; omega)) ?_
    refine W.condT (.t rfl) ?_
    refine W.skip ?_
    refine W.then ?_
    refine W.seq ?_
    refine W.block ?_
    refine W.seq ?_
    refine W.drawnE (ι := Nat) (fun ee c => bif ee 29 then (.box c 31 (bif ee 30 then [.str s28, .str s37, .bool ((i : Int) == 0 || IntKind.i64.wrap (x.tdiv 15) % 2 == 0)] else [.lit (.string ⟨#[]⟩), .lit (.string ⟨#[]⟩), .lit (.bool false)]) :: [(.arr v 31 3 (ps.map kav))]) else [(.arr v 31 3 (ps.map kav))]) 29 0 (by kernel_rfl) (by kernel_rfl) rfl ?_
    refine DE.bs (es := fun _ => [_, _, _, _, _]) Tryd.underlying33 ty9 (fun c => ⟨rfl, .k, rfl, rfl, rfl, .k, rfl, rfl, rfl, .k, rfl, rfl, rfl, .k, rfl, rfl, rfl, .k, rfl, rfl, trivial⟩) (fun _ => rfl) (by decide) rfl rfl (fun _ _ => rfl) (by first | exact .inr (fun _ _ => rfl) | exact .inl (by kernel_rfl)) ?_
    refine DE.q (fun e c hk => (Ev.move (.t rfl))) rfl (fun _ _ => rfl) (by first | exact .inr (fun _ _ => rfl) | exact .inl (by kernel_rfl)) ?_
    refine DE.q (fun e c hk => (Ev.move (.t rfl))) rfl (fun _ _ => rfl) (by first | exact .inr (fun _ _ => rfl) | exact .inl (by kernel_rfl)) ?_
    refine DE.q (fun e c hk => Ev.at (E := 3) (.t rfl) (.t rfl) Tryd.underlying22 ty3 (fun _ => ⟨by omega, hgi⟩) rfl rfl) rfl (fun _ _ => rfl) (by first | exact .inr (fun _ _ => rfl) | exact .inl (by kernel_rfl)) ?_
    first | refine DE.q (fun e c hk => (Ev.lde1 (.t rfl) ag3)) rfl (fun _ _ => rfl) (by first | exact .inr (fun _ _ => rfl) | exact .inl (by kernel_rfl)) ?_ | refine DE.q (fun e c hk => (Ev.ldb1 0 (.t rfl) rfl ag3 rfl)) rfl (fun _ _ => rfl) (by first | exact .inr (fun _ _ => rfl) | exact .inl (by kernel_rfl)) ?_ | refine DE.q (fun e c hk => (Ev.ldb1 1 (.t rfl) rfl ag3 rfl)) rfl (fun _ _ => rfl) (by first | exact .inr (fun _ _ => rfl) | exact .inl (by kernel_rfl)) ?_ | refine DE.q (fun e c hk => (Ev.ldb1 2 (.t rfl) rfl ag3 rfl)) rfl (fun _ _ => rfl) (by first | exact .inr (fun _ _ => rfl) | exact .inl (by kernel_rfl)) ?_ | refine DE.q (fun e c hk => (Ev.ldb1 3 (.t rfl) rfl ag3 rfl)) rfl (fun _ _ => rfl) (by first | exact .inr (fun _ _ => rfl) | exact .inl (by kernel_rfl)) ?_
    refine DE.callp (fun c => Base.c_Picked x 5 (by decide) (by decide)) (fun c => ⟨(.t rfl), .k, trivial⟩) rfl (fun _ _ => rfl) (by first | exact .inr (fun _ _ => rfl) | exact .inl (by kernel_rfl)) ?_
    refine DE.q (fun e c hk => Ev.at (E := 9) (.t rfl) (.t rfl) Tryd.underlying33 ty9 (fun _ => ⟨Int.emod_nonneg _ (by decide), h28⟩) rfl rfl) rfl (fun _ _ => rfl) (by first | exact .inr (fun _ _ => rfl) | exact .inl (by kernel_rfl)) ?_
    first | refine DE.q (fun e c hk => (Ev.lde1 (.t rfl) ag9)) rfl (fun _ _ => rfl) (by first | exact .inr (fun _ _ => rfl) | exact .inl (by kernel_rfl)) ?_ | refine DE.q (fun e c hk => (Ev.ldb1 0 (.t rfl) rfl ag9 rfl)) rfl (fun _ _ => rfl) (by first | exact .inr (fun _ _ => rfl) | exact .inl (by kernel_rfl)) ?_ | refine DE.q (fun e c hk => (Ev.ldb1 1 (.t rfl) rfl ag9 rfl)) rfl (fun _ _ => rfl) (by first | exact .inr (fun _ _ => rfl) | exact .inl (by kernel_rfl)) ?_ | refine DE.q (fun e c hk => (Ev.ldb1 2 (.t rfl) rfl ag9 rfl)) rfl (fun _ _ => rfl) (by first | exact .inr (fun _ _ => rfl) | exact .inl (by kernel_rfl)) ?_ | refine DE.q (fun e c hk => (Ev.ldb1 3 (.t rfl) rfl ag9 rfl)) rfl (fun _ _ => rfl) (by first | exact .inr (fun _ _ => rfl) | exact .inl (by kernel_rfl)) ?_
    refine DE.bs (es := fun _ => [_, _, _]) Tryd.underlying33 ty9 (fun c => ⟨rfl, .k, rfl, rfl, rfl, .k, rfl, rfl, rfl, .k, rfl, rfl, trivial⟩) (fun _ => rfl) (by decide) rfl rfl (fun _ _ => rfl) (by first | exact .inr (fun _ _ => rfl) | exact .inl (by kernel_rfl)) ?_
    refine DE.q (fun e c hk => (Ev.move (.t rfl))) rfl (fun _ _ => rfl) (by first | exact .inr (fun _ _ => rfl) | exact .inl (by kernel_rfl)) ?_
    refine DE.q (fun e c hk => (Ev.move (.t rfl))) rfl (fun _ _ => rfl) (by first | exact .inr (fun _ _ => rfl) | exact .inl (by kernel_rfl)) ?_
    refine DE.q (fun e c hk => Ev.at (E := 3) (.t rfl) (.t rfl) Tryd.underlying22 ty3 (fun _ => ⟨by omega, hgi⟩) rfl rfl) rfl (fun _ _ => rfl) (by first | exact .inr (fun _ _ => rfl) | exact .inl (by kernel_rfl)) ?_
    first | refine DE.q (fun e c hk => (Ev.lde1 (.t rfl) ag3)) rfl (fun _ _ => rfl) (by first | exact .inr (fun _ _ => rfl) | exact .inl (by kernel_rfl)) ?_ | refine DE.q (fun e c hk => (Ev.ldb1 0 (.t rfl) rfl ag3 rfl)) rfl (fun _ _ => rfl) (by first | exact .inr (fun _ _ => rfl) | exact .inl (by kernel_rfl)) ?_ | refine DE.q (fun e c hk => (Ev.ldb1 1 (.t rfl) rfl ag3 rfl)) rfl (fun _ _ => rfl) (by first | exact .inr (fun _ _ => rfl) | exact .inl (by kernel_rfl)) ?_ | refine DE.q (fun e c hk => (Ev.ldb1 2 (.t rfl) rfl ag3 rfl)) rfl (fun _ _ => rfl) (by first | exact .inr (fun _ _ => rfl) | exact .inl (by kernel_rfl)) ?_ | refine DE.q (fun e c hk => (Ev.ldb1 3 (.t rfl) rfl ag3 rfl)) rfl (fun _ _ => rfl) (by first | exact .inr (fun _ _ => rfl) | exact .inl (by kernel_rfl)) ?_
    first | refine DE.q (fun e c hk => (Ev.quo (.t rfl) .k (fun _ => by decide))) rfl (fun _ _ => rfl) (by first | exact .inr (fun _ _ => rfl) | exact .inl (by kernel_rfl)) ?_ | refine DE.q (fun e c hk => (Ev.quo (.t rfl) .k (fun _ => by omega))) rfl (fun _ _ => rfl) (by first | exact .inr (fun _ _ => rfl) | exact .inl (by kernel_rfl)) ?_
    refine DE.callp (fun c => Base.c_Picked (IntKind.i64.wrap (x.tdiv 5)) 3 (by decide) (by decide)) (fun c => ⟨(.t rfl), .k, trivial⟩) rfl (fun _ _ => rfl) (by first | exact .inr (fun _ _ => rfl) | exact .inl (by kernel_rfl)) ?_
    refine DE.q (fun e c hk => Ev.at (E := 9) (.t rfl) (.t rfl) Tryd.underlying33 ty9 (fun _ => ⟨Int.emod_nonneg _ (by decide), h37⟩) rfl rfl) rfl (fun _ _ => rfl) (by first | exact .inr (fun _ _ => rfl) | exact .inl (by kernel_rfl)) ?_
    first | refine DE.q (fun e c hk => (Ev.lde1 (.t rfl) ag9)) rfl (fun _ _ => rfl) (by first | exact .inr (fun _ _ => rfl) | exact .inl (by kernel_rfl)) ?_ | refine DE.q (fun e c hk => (Ev.ldb1 0 (.t rfl) rfl ag9 rfl)) rfl (fun _ _ => rfl) (by first | exact .inr (fun _ _ => rfl) | exact .inl (by kernel_rfl)) ?_ | refine DE.q (fun e c hk => (Ev.ldb1 1 (.t rfl) rfl ag9 rfl)) rfl (fun _ _ => rfl) (by first | exact .inr (fun _ _ => rfl) | exact .inl (by kernel_rfl)) ?_ | refine DE.q (fun e c hk => (Ev.ldb1 2 (.t rfl) rfl ag9 rfl)) rfl (fun _ _ => rfl) (by first | exact .inr (fun _ _ => rfl) | exact .inl (by kernel_rfl)) ?_ | refine DE.q (fun e c hk => (Ev.ldb1 3 (.t rfl) rfl ag9 rfl)) rfl (fun _ _ => rfl) (by first | exact .inr (fun _ _ => rfl) | exact .inl (by kernel_rfl)) ?_
    refine DE.q (fun e c hk => (Ev.move (.t rfl))) rfl (fun _ _ => rfl) (by first | exact .inr (fun _ _ => rfl) | exact .inl (by kernel_rfl)) ?_
    refine DE.q (fun e c hk => (Ev.eqi (.t rfl) .k)) rfl (fun _ _ => rfl) (by first | exact .inr (fun _ _ => rfl) | exact .inl (by kernel_rfl)) ?_
    refine DE.q (fun e c hk => (Ev.move (.t rfl))) rfl (fun _ _ => rfl) (by first | exact .inr (fun _ _ => rfl) | exact .inl (by kernel_rfl)) ?_
    refine DE.qg rfl (fun _ => rfl) (fun e c hk => (Ev.move (.t rfl))) rfl (fun _ _ => rfl) (by first | exact .inr (fun _ _ => rfl) | exact .inl (by kernel_rfl)) ?_
    refine DE.qg rfl (fun _ => rfl) (fun e c hk => (Ev.move (.t rfl))) rfl (fun _ _ => rfl) (by first | exact .inr (fun _ _ => rfl) | exact .inl (by kernel_rfl)) ?_
    refine DE.qg rfl (fun _ => rfl) (fun e c hk => Ev.at (E := 3) (.c rfl) (.c rfl) Tryd.underlying22 ty3 (fun _ => ⟨by omega, hgi⟩) rfl rfl) rfl (fun _ _ => rfl) (by first | exact .inr (fun _ _ => rfl) | exact .inl (by kernel_rfl)) ?_
    first | refine DE.qg rfl (fun _ => rfl) (fun e c hk => (Ev.lde1 (.c rfl) ag3)) rfl (fun _ _ => rfl) (by first | exact .inr (fun _ _ => rfl) | exact .inl (by kernel_rfl)) ?_ | refine DE.qg rfl (fun _ => rfl) (fun e c hk => (Ev.ldb1 0 (.c rfl) rfl ag3 rfl)) rfl (fun _ _ => rfl) (by first | exact .inr (fun _ _ => rfl) | exact .inl (by kernel_rfl)) ?_ | refine DE.qg rfl (fun _ => rfl) (fun e c hk => (Ev.ldb1 1 (.c rfl) rfl ag3 rfl)) rfl (fun _ _ => rfl) (by first | exact .inr (fun _ _ => rfl) | exact .inl (by kernel_rfl)) ?_ | refine DE.qg rfl (fun _ => rfl) (fun e c hk => (Ev.ldb1 2 (.c rfl) rfl ag3 rfl)) rfl (fun _ _ => rfl) (by first | exact .inr (fun _ _ => rfl) | exact .inl (by kernel_rfl)) ?_ | refine DE.qg rfl (fun _ => rfl) (fun e c hk => (Ev.ldb1 3 (.c rfl) rfl ag3 rfl)) rfl (fun _ _ => rfl) (by first | exact .inr (fun _ _ => rfl) | exact .inl (by kernel_rfl)) ?_
    first | refine DE.qg rfl (fun _ => rfl) (fun e c hk => (Ev.quo (.c rfl) .k (fun _ => by decide))) rfl (fun _ _ => rfl) (by first | exact .inr (fun _ _ => rfl) | exact .inl (by kernel_rfl)) ?_ | refine DE.qg rfl (fun _ => rfl) (fun e c hk => (Ev.quo (.c rfl) .k (fun _ => by omega))) rfl (fun _ _ => rfl) (by first | exact .inr (fun _ _ => rfl) | exact .inl (by kernel_rfl)) ?_
    refine DE.callg rfl (fun _ => rfl) (fun c hg => Base.c_Picked (IntKind.i64.wrap (x.tdiv 15)) 2 (by decide) (by decide)) (fun c hg => ⟨(.i rfl (fun _ => hg)), .k, trivial⟩) rfl (fun _ _ => rfl) (by first | exact .inr (fun _ _ => rfl) | exact .inl (by kernel_rfl)) ?_
    refine DE.qg rfl (fun _ => rfl) (fun e c hk => (Ev.eqi (.c rfl) .k)) rfl (fun _ _ => rfl) (by first | exact .inr (fun _ _ => rfl) | exact .inl (by kernel_rfl)) ?_
    refine DE.q (fun e c hk => (Ev.or (.t rfl) ⟨_, _, rfl, rfl, by first | (simp; done) | (intro hg_ hp_; simp [hp_]; done) | (simp <;> omega; done) | (simp_all; done) | grind⟩)) rfl (fun _ _ => rfl) (by first | exact .inr (fun _ _ => rfl) | exact .inl (by kernel_rfl)) ?_
    refine DE.q (fun e c hk => (Ev.build ty31 st31 rfl (fun hg => ⟨_, _, _, rfl, (.t rfl), rfl, rfl, rfl, _, _, _, rfl, (.t rfl), rfl, rfl, rfl, _, _, _, rfl, (.t rfl), rfl, rfl, rfl, rfl⟩))) rfl (fun _ _ => rfl) (by first | exact .inr (fun _ _ => rfl) | exact .inl (by kernel_rfl)) ?_
    refine DE.eff1 (av := fun b => .lit (.pointer (some ⟨b, 0, none⟩))) rfl rfl (fun e c hk L_ hs Q h => ?_) ?_
    · have hk_29 := hk.not
      have hk_30 := hk.down 30 (by kernel_rfl)
      simp only [addE, hk_29, hk_30, Nat.reduceAdd, Nat.reduceEqDiff, ↓reduceIte, cond_true, cond_false] at h ⊢
      exact W.alloc ty31 rfl rfl h
    refine DE.eff0 (fun e c hk L_ hs Q h => ?_) ?_
    · have hk_30 := hk.not
      have hk_29 := hk.up 29 (by kernel_rfl)
      simp only [addE, hk_30, hk_29, Nat.reduceAdd, Nat.reduceEqDiff, ↓reduceIte, cond_true, cond_false] at h ⊢
      first | (refine W.stb 0 (.t (hs _ _ rfl)) (.t (hs _ _ rfl)) rfl ty31 rfl rfl rfl ?_; exact h) | (refine W.stb 1 (.t (hs _ _ rfl)) (.t (hs _ _ rfl)) rfl ty31 rfl rfl rfl ?_; exact h) | (refine W.stb 2 (.t (hs _ _ rfl)) (.t (hs _ _ rfl)) rfl ty31 rfl rfl rfl ?_; exact h) | (refine W.stb 3 (.t (hs _ _ rfl)) (.t (hs _ _ rfl)) rfl ty31 rfl rfl rfl ?_; exact h)
    refine DE.nil (fun b7 e_ he_ => ?_)
    simp only [he_ 29 (by decide), he_ 30 (by decide), cond_true, cond_false]
    refine W.then ?_
    refine W.seq ?_
    refine W.seq ?_
    refine W.region ?_
    refine W.q (Ev.move (.t rfl)) rfl ?_
    refine W.q (Ev.eqi (.t rfl) .k) rfl ?_
    refine W.nil ?_
    refine W.then ?_
    refine W.cond (.t rfl) (fun hc_t51 => ?_) (fun hc_t51 => ?_)
    · have hi0 : i = 0 := by have := beq_iff_eq.1 hc_t51; omega
      refine W.own_nil 31 3 ?_
      refine W.region ?_
      refine W.q (Ev.assign .k) rfl ?_
      refine W.nil ?_
      refine W.then ?_
      refine W.region ?_
      refine W.q (Ev.move (.t rfl)) rfl ?_
      first | refine W.q (Ev.lden (.t rfl) ag31 ty31 rfl rfl) rfl ?_ | refine W.q (Ev.ldbn 0 (.t rfl) rfl ag31 ty31 rfl) rfl ?_ | refine W.q (Ev.ldbn 1 (.t rfl) rfl ag31 ty31 rfl) rfl ?_ | refine W.q (Ev.ldbn 2 (.t rfl) rfl ag31 ty31 rfl) rfl ?_ | refine W.q (Ev.ldbn 3 (.t rfl) rfl ag31 ty31 rfl) rfl ?_
      refine W.bs (es := [_]) Tryd.underlying23 ty31 ⟨rfl, (.t rfl), rfl, rfl, trivial⟩ rfl (by decide) rfl rfl ?_
      first | refine W.app 0 (.t rfl) rfl (.sl (.t rfl) (by first | (simp [AV.okc, shV]; done) | (intro e he; rw [List.mem_singleton.1 he]; rfl))) Tryd.underlying23 ni23 ty31 rfl rfl (by first | (simp; done) | (simp; omega)) rfl ?_ | refine W.app 1 (.t rfl) rfl (.sl (.t rfl) (by first | (simp [AV.okc, shV]; done) | (intro e he; rw [List.mem_singleton.1 he]; rfl))) Tryd.underlying23 ni23 ty31 rfl rfl (by first | (simp; done) | (simp; omega)) rfl ?_ | refine W.app 2 (.t rfl) rfl (.sl (.t rfl) (by first | (simp [AV.okc, shV]; done) | (intro e he; rw [List.mem_singleton.1 he]; rfl))) Tryd.underlying23 ni23 ty31 rfl rfl (by first | (simp; done) | (simp; omega)) rfl ?_ | refine W.app 3 (.t rfl) rfl (.sl (.t rfl) (by first | (simp [AV.okc, shV]; done) | (intro e he; rw [List.mem_singleton.1 he]; rfl))) Tryd.underlying23 ni23 ty31 rfl rfl (by first | (simp; done) | (simp; omega)) rfl ?_ | refine W.app 0 (.t rfl) rfl (.arr 0 (.t rfl) rfl (by first | (simp [AV.okc, shV]; done) | (intro e he; rw [List.mem_singleton.1 he]; rfl))) Tryd.underlying23 ni23 ty31 rfl rfl (by first | (simp; done) | (simp; omega)) rfl ?_ | refine W.app 0 (.t rfl) rfl (.arr 1 (.t rfl) rfl (by first | (simp [AV.okc, shV]; done) | (intro e he; rw [List.mem_singleton.1 he]; rfl))) Tryd.underlying23 ni23 ty31 rfl rfl (by first | (simp; done) | (simp; omega)) rfl ?_ | refine W.app 0 (.t rfl) rfl (.arr 2 (.t rfl) rfl (by first | (simp [AV.okc, shV]; done) | (intro e he; rw [List.mem_singleton.1 he]; rfl))) Tryd.underlying23 ni23 ty31 rfl rfl (by first | (simp; done) | (simp; omega)) rfl ?_ | refine W.app 0 (.t rfl) rfl (.arr 3 (.t rfl) rfl (by first | (simp [AV.okc, shV]; done) | (intro e he; rw [List.mem_singleton.1 he]; rfl))) Tryd.underlying23 ni23 ty31 rfl rfl (by first | (simp; done) | (simp; omega)) rfl ?_ | refine W.app 1 (.t rfl) rfl (.arr 0 (.t rfl) rfl (by first | (simp [AV.okc, shV]; done) | (intro e he; rw [List.mem_singleton.1 he]; rfl))) Tryd.underlying23 ni23 ty31 rfl rfl (by first | (simp; done) | (simp; omega)) rfl ?_ | refine W.app 1 (.t rfl) rfl (.arr 1 (.t rfl) rfl (by first | (simp [AV.okc, shV]; done) | (intro e he; rw [List.mem_singleton.1 he]; rfl))) Tryd.underlying23 ni23 ty31 rfl rfl (by first | (simp; done) | (simp; omega)) rfl ?_ | refine W.app 1 (.t rfl) rfl (.arr 2 (.t rfl) rfl (by first | (simp [AV.okc, shV]; done) | (intro e he; rw [List.mem_singleton.1 he]; rfl))) Tryd.underlying23 ni23 ty31 rfl rfl (by first | (simp; done) | (simp; omega)) rfl ?_ | refine W.app 1 (.t rfl) rfl (.arr 3 (.t rfl) rfl (by first | (simp [AV.okc, shV]; done) | (intro e he; rw [List.mem_singleton.1 he]; rfl))) Tryd.underlying23 ni23 ty31 rfl rfl (by first | (simp; done) | (simp; omega)) rfl ?_ | refine W.app 2 (.t rfl) rfl (.arr 0 (.t rfl) rfl (by first | (simp [AV.okc, shV]; done) | (intro e he; rw [List.mem_singleton.1 he]; rfl))) Tryd.underlying23 ni23 ty31 rfl rfl (by first | (simp; done) | (simp; omega)) rfl ?_ | refine W.app 2 (.t rfl) rfl (.arr 1 (.t rfl) rfl (by first | (simp [AV.okc, shV]; done) | (intro e he; rw [List.mem_singleton.1 he]; rfl))) Tryd.underlying23 ni23 ty31 rfl rfl (by first | (simp; done) | (simp; omega)) rfl ?_ | refine W.app 2 (.t rfl) rfl (.arr 2 (.t rfl) rfl (by first | (simp [AV.okc, shV]; done) | (intro e he; rw [List.mem_singleton.1 he]; rfl))) Tryd.underlying23 ni23 ty31 rfl rfl (by first | (simp; done) | (simp; omega)) rfl ?_ | refine W.app 2 (.t rfl) rfl (.arr 3 (.t rfl) rfl (by first | (simp [AV.okc, shV]; done) | (intro e he; rw [List.mem_singleton.1 he]; rfl))) Tryd.underlying23 ni23 ty31 rfl rfl (by first | (simp; done) | (simp; omega)) rfl ?_ | refine W.app 3 (.t rfl) rfl (.arr 0 (.t rfl) rfl (by first | (simp [AV.okc, shV]; done) | (intro e he; rw [List.mem_singleton.1 he]; rfl))) Tryd.underlying23 ni23 ty31 rfl rfl (by first | (simp; done) | (simp; omega)) rfl ?_ | refine W.app 3 (.t rfl) rfl (.arr 1 (.t rfl) rfl (by first | (simp [AV.okc, shV]; done) | (intro e he; rw [List.mem_singleton.1 he]; rfl))) Tryd.underlying23 ni23 ty31 rfl rfl (by first | (simp; done) | (simp; omega)) rfl ?_ | refine W.app 3 (.t rfl) rfl (.arr 2 (.t rfl) rfl (by first | (simp [AV.okc, shV]; done) | (intro e he; rw [List.mem_singleton.1 he]; rfl))) Tryd.underlying23 ni23 ty31 rfl rfl (by first | (simp; done) | (simp; omega)) rfl ?_ | refine W.app 3 (.t rfl) rfl (.arr 3 (.t rfl) rfl (by first | (simp [AV.okc, shV]; done) | (intro e he; rw [List.mem_singleton.1 he]; rfl))) Tryd.underlying23 ni23 ty31 rfl rfl (by first | (simp; done) | (simp; omega)) rfl ?_
      intro v55
      refine W.q (Ev.assign (.t rfl)) rfl ?_
      refine W.nil ?_
      refine W.blk_normal ?_
      refine W.then ?_
      refine W.region ?_
      refine W.q (Ev.move (.t rfl)) rfl ?_
      first | refine W.q (Ev.add (.t rfl) .k (fun _ => by omega)) rfl ?_ | refine W.q (Ev.addw (.t rfl) .k) rfl ?_
      refine W.q (Ev.assign (.t rfl)) rfl ?_
      refine W.nil ?_
      refine W.then ?_
      first
      | (have h0 := hi0; subst h0; refine W.reach (D := [_, _]) (1, [⟨s28, s37, _⟩], v55) ⟨rfl, rfl, rfl, rfl, trivial⟩ (.refl _) ⟨⟨by show 1 ≤ _; omega, by show 1 ≤ _; omega, fun h => absurd h (Nat.succ_ne_zero _), fun _ => rfl, Pk.drns.one m28 m37 rfl⟩, by show _ - 1 < _; omega⟩)
      | (refine W.reach (D := [_]) (i + 1, ps ++ [⟨s28, s37, _⟩], v55) ⟨rfl, rfl, rfl, rfl, trivial⟩ (by rw [List.map_append]; exact List.perm_append_comm (l₁ := [_])) ⟨⟨by show i + 1 ≤ _; omega, by show i + 1 ≤ _; omega, fun h => absurd h (Nat.succ_ne_zero _), fun _ => ?_, hi5.snoc (fun e => ?_) m28 m37⟩, by show _ - (i + 1) < _; omega⟩
         · show List.length _ = i + 1; rw [List.length_append, hi4 (by omega)]; rfl
         · have h9 := hi4 (by omega); rw [e] at h9; exact hi0 h9.symm)
    · have hi0 : i ≠ 0 := by rintro rfl; simp at hc_t51
      refine W.skip ?_
      refine W.then ?_
      refine W.region ?_
      refine W.q (Ev.move (.t rfl)) rfl ?_
      first | refine W.q (Ev.lden (.t rfl) ag31 ty31 rfl rfl) rfl ?_ | refine W.q (Ev.ldbn 0 (.t rfl) rfl ag31 ty31 rfl) rfl ?_ | refine W.q (Ev.ldbn 1 (.t rfl) rfl ag31 ty31 rfl) rfl ?_ | refine W.q (Ev.ldbn 2 (.t rfl) rfl ag31 ty31 rfl) rfl ?_ | refine W.q (Ev.ldbn 3 (.t rfl) rfl ag31 ty31 rfl) rfl ?_
      refine W.bs (es := [_]) Tryd.underlying23 ty31 ⟨rfl, (.t rfl), rfl, rfl, trivial⟩ rfl (by decide) rfl rfl ?_
      first | refine W.app 0 (.t rfl) rfl (.sl (.t rfl) (by first | (simp [AV.okc, shV]; done) | (intro e he; rw [List.mem_singleton.1 he]; rfl))) Tryd.underlying23 ni23 ty31 rfl rfl (by first | (simp; done) | (simp; omega)) rfl ?_ | refine W.app 1 (.t rfl) rfl (.sl (.t rfl) (by first | (simp [AV.okc, shV]; done) | (intro e he; rw [List.mem_singleton.1 he]; rfl))) Tryd.underlying23 ni23 ty31 rfl rfl (by first | (simp; done) | (simp; omega)) rfl ?_ | refine W.app 2 (.t rfl) rfl (.sl (.t rfl) (by first | (simp [AV.okc, shV]; done) | (intro e he; rw [List.mem_singleton.1 he]; rfl))) Tryd.underlying23 ni23 ty31 rfl rfl (by first | (simp; done) | (simp; omega)) rfl ?_ | refine W.app 3 (.t rfl) rfl (.sl (.t rfl) (by first | (simp [AV.okc, shV]; done) | (intro e he; rw [List.mem_singleton.1 he]; rfl))) Tryd.underlying23 ni23 ty31 rfl rfl (by first | (simp; done) | (simp; omega)) rfl ?_ | refine W.app 0 (.t rfl) rfl (.arr 0 (.t rfl) rfl (by first | (simp [AV.okc, shV]; done) | (intro e he; rw [List.mem_singleton.1 he]; rfl))) Tryd.underlying23 ni23 ty31 rfl rfl (by first | (simp; done) | (simp; omega)) rfl ?_ | refine W.app 0 (.t rfl) rfl (.arr 1 (.t rfl) rfl (by first | (simp [AV.okc, shV]; done) | (intro e he; rw [List.mem_singleton.1 he]; rfl))) Tryd.underlying23 ni23 ty31 rfl rfl (by first | (simp; done) | (simp; omega)) rfl ?_ | refine W.app 0 (.t rfl) rfl (.arr 2 (.t rfl) rfl (by first | (simp [AV.okc, shV]; done) | (intro e he; rw [List.mem_singleton.1 he]; rfl))) Tryd.underlying23 ni23 ty31 rfl rfl (by first | (simp; done) | (simp; omega)) rfl ?_ | refine W.app 0 (.t rfl) rfl (.arr 3 (.t rfl) rfl (by first | (simp [AV.okc, shV]; done) | (intro e he; rw [List.mem_singleton.1 he]; rfl))) Tryd.underlying23 ni23 ty31 rfl rfl (by first | (simp; done) | (simp; omega)) rfl ?_ | refine W.app 1 (.t rfl) rfl (.arr 0 (.t rfl) rfl (by first | (simp [AV.okc, shV]; done) | (intro e he; rw [List.mem_singleton.1 he]; rfl))) Tryd.underlying23 ni23 ty31 rfl rfl (by first | (simp; done) | (simp; omega)) rfl ?_ | refine W.app 1 (.t rfl) rfl (.arr 1 (.t rfl) rfl (by first | (simp [AV.okc, shV]; done) | (intro e he; rw [List.mem_singleton.1 he]; rfl))) Tryd.underlying23 ni23 ty31 rfl rfl (by first | (simp; done) | (simp; omega)) rfl ?_ | refine W.app 1 (.t rfl) rfl (.arr 2 (.t rfl) rfl (by first | (simp [AV.okc, shV]; done) | (intro e he; rw [List.mem_singleton.1 he]; rfl))) Tryd.underlying23 ni23 ty31 rfl rfl (by first | (simp; done) | (simp; omega)) rfl ?_ | refine W.app 1 (.t rfl) rfl (.arr 3 (.t rfl) rfl (by first | (simp [AV.okc, shV]; done) | (intro e he; rw [List.mem_singleton.1 he]; rfl))) Tryd.underlying23 ni23 ty31 rfl rfl (by first | (simp; done) | (simp; omega)) rfl ?_ | refine W.app 2 (.t rfl) rfl (.arr 0 (.t rfl) rfl (by first | (simp [AV.okc, shV]; done) | (intro e he; rw [List.mem_singleton.1 he]; rfl))) Tryd.underlying23 ni23 ty31 rfl rfl (by first | (simp; done) | (simp; omega)) rfl ?_ | refine W.app 2 (.t rfl) rfl (.arr 1 (.t rfl) rfl (by first | (simp [AV.okc, shV]; done) | (intro e he; rw [List.mem_singleton.1 he]; rfl))) Tryd.underlying23 ni23 ty31 rfl rfl (by first | (simp; done) | (simp; omega)) rfl ?_ | refine W.app 2 (.t rfl) rfl (.arr 2 (.t rfl) rfl (by first | (simp [AV.okc, shV]; done) | (intro e he; rw [List.mem_singleton.1 he]; rfl))) Tryd.underlying23 ni23 ty31 rfl rfl (by first | (simp; done) | (simp; omega)) rfl ?_ | refine W.app 2 (.t rfl) rfl (.arr 3 (.t rfl) rfl (by first | (simp [AV.okc, shV]; done) | (intro e he; rw [List.mem_singleton.1 he]; rfl))) Tryd.underlying23 ni23 ty31 rfl rfl (by first | (simp; done) | (simp; omega)) rfl ?_ | refine W.app 3 (.t rfl) rfl (.arr 0 (.t rfl) rfl (by first | (simp [AV.okc, shV]; done) | (intro e he; rw [List.mem_singleton.1 he]; rfl))) Tryd.underlying23 ni23 ty31 rfl rfl (by first | (simp; done) | (simp; omega)) rfl ?_ | refine W.app 3 (.t rfl) rfl (.arr 1 (.t rfl) rfl (by first | (simp [AV.okc, shV]; done) | (intro e he; rw [List.mem_singleton.1 he]; rfl))) Tryd.underlying23 ni23 ty31 rfl rfl (by first | (simp; done) | (simp; omega)) rfl ?_ | refine W.app 3 (.t rfl) rfl (.arr 2 (.t rfl) rfl (by first | (simp [AV.okc, shV]; done) | (intro e he; rw [List.mem_singleton.1 he]; rfl))) Tryd.underlying23 ni23 ty31 rfl rfl (by first | (simp; done) | (simp; omega)) rfl ?_ | refine W.app 3 (.t rfl) rfl (.arr 3 (.t rfl) rfl (by first | (simp [AV.okc, shV]; done) | (intro e he; rw [List.mem_singleton.1 he]; rfl))) Tryd.underlying23 ni23 ty31 rfl rfl (by first | (simp; done) | (simp; omega)) rfl ?_
      intro v55
      refine W.q (Ev.assign (.t rfl)) rfl ?_
      refine W.nil ?_
      refine W.blk_normal ?_
      refine W.then ?_
      refine W.region ?_
      refine W.q (Ev.move (.t rfl)) rfl ?_
      first | refine W.q (Ev.add (.t rfl) .k (fun _ => by omega)) rfl ?_ | refine W.q (Ev.addw (.t rfl) .k) rfl ?_
      refine W.q (Ev.assign (.t rfl)) rfl ?_
      refine W.nil ?_
      refine W.then ?_
      first
      | (have h0 := hi0; subst h0; refine W.reach (D := [_, _]) (1, [⟨s28, s37, _⟩], v55) ⟨rfl, rfl, rfl, rfl, trivial⟩ (.refl _) ⟨⟨by show 1 ≤ _; omega, by show 1 ≤ _; omega, fun h => absurd h (Nat.succ_ne_zero _), fun _ => rfl, Pk.drns.one m28 m37 rfl⟩, by show _ - 1 < _; omega⟩)
      | (refine W.reach (D := [_]) (i + 1, ps ++ [⟨s28, s37, _⟩], v55) ⟨rfl, rfl, rfl, rfl, trivial⟩ (by rw [List.map_append]; exact List.perm_append_comm (l₁ := [_])) ⟨⟨by show i + 1 ≤ _; omega, by show i + 1 ≤ _; omega, fun h => absurd h (Nat.succ_ne_zero _), fun _ => ?_, hi5.snoc (fun e => ?_) m28 m37⟩, by show _ - (i + 1) < _; omega⟩
         · show List.length _ = i + 1; rw [List.length_append, hi4 (by omega)]; rfl
         · have h9 := hi4 (by omega); rw [e] at h9; exact hi0 h9.symm)
  · skip
    refine W.seq ?_
    refine W.seq ?_
    refine W.region ?_
    refine W.q (Ev.move (.t rfl)) rfl ?_
    refine W.q (Ev.move (.t rfl)) rfl ?_
    first | refine W.q (Ev.lensl (.t rfl) Tryd.underlying22) rfl ?_ | refine W.q (Ev.lenar (i := 0) (.t rfl) rfl Tryd.underlying22) rfl ?_ | refine W.q (Ev.lenar (i := 1) (.t rfl) rfl Tryd.underlying22) rfl ?_ | refine W.q (Ev.lenar (i := 2) (.t rfl) rfl Tryd.underlying22) rfl ?_ | refine W.q (Ev.lenar (i := 3) (.t rfl) rfl Tryd.underlying22) rfl ?_
    refine W.q (Ev.lti (.t rfl) (.t rfl)) rfl ?_
    refine W.q (Ev.move (.t rfl)) rfl ?_
    refine W.qgT rfl rfl (Ev.move (.t rfl)) rfl ?_
    refine W.qgT rfl rfl (Ev.move (.t rfl)) rfl ?_
    refine W.qgT rfl rfl (Ev.lti (.c rfl) (.c rfl)) rfl ?_
    refine W.q (Ev.and (.t rfl) ⟨_, _, rfl, rfl, by first | (simp; done) | (intro hg_ hp_; simp [hp_]; done) | (simp <;> omega; done) | (simp_all; done) | grind⟩) rfl ?_
    refine W.nil ?_
    refine W.then ?_
    refine W.is (t := 18) (g := true) (av' := .lit (.bool false)) rfl (congrArg (fun b => AV.lit (.bool b)) (by simp; omega)) ?_
    refine W.condF (.t rfl) ?_
    refine W.exit ?_
    refine W.then_exit ?_
    refine W.then_exit ?_
    refine W.blk_hit ?_
    refine W.then ?_
    refine W.seq ?_
    refine W.region ?_
    refine W.q (Ev.move (.t rfl)) rfl ?_
    refine W.q (Ev.assign (.t rfl)) rfl ?_
    refine W.nil ?_
    refine W.then ?_
    refine W.ret ?_
    refine W.retn (M' := [.arr v 31 3 _]) (rs := [.tmp 4]) (avs := [_]) Tryd.results4 ⟨rfl, trivial⟩ rfl (.refl _) ?_
    refine ⟨v, ps, rfl, rfl, ?_, ?_, hi5⟩ <;> (rcases Nat.eq_zero_or_pos i with h | h; have := hi3 h; omega; have := hi4 h; omega)

theorem names5 : (Pk.N5).all (fun s => decide (s.length ≤ 1000) && !(Pk.oddS s)) = true := by kernel_rfl
theorem names3 : (Pk.N3).all (fun s => decide (s.length ≤ 1000) && !(Pk.oddS s)) = true := by kernel_rfl
theorem ok_drn {p : Pk} (h : Pk.drn p) : p.ok := by
  have h1 := List.all_eq_true.1 names5 _ h.1
  have h2 := List.all_eq_true.1 names3 _ h.2
  simp only [Bool.and_eq_true, decide_eq_true_eq, Bool.not_eq_true'] at h1 h2
  exact ⟨h1.1, h2.1, by rw [Pk.odd, h1.2, h2.2]; rfl⟩
end WPicksB

end Go.Proofs.YtiflifblkpjgpaaDoor
end

section
set_option linter.unusedVariables false
set_option linter.unusedSimpArgs false
set_option maxRecDepth 100000
namespace Go.Proofs.YtiflifblkpjgpaaDoor
open Go.Vl

namespace WBld
theorem ty47 : Ty Tryd.prog 47 1 8 (.pointer none) := Ty.of (by kernel_rfl)
theorem ty48 : Ty Tryd.prog 48 1 24 (.slice none 0 0) := Ty.of (by kernel_rfl)
theorem ty50 : Ty Tryd.prog 50 2 32 (.agg #[.pointer none, .slice none 0 0]) := Ty.of (by kernel_rfl)
theorem ag47 : IsAgg Tryd.prog 47 false := ⟨_, Tryd.underlying47, rfl⟩
theorem ag48 : IsAgg Tryd.prog 48 false := ⟨_, Tryd.underlying48, rfl⟩
theorem fa50_0 : FieldAt Tryd.prog 50 0 0 1 false := ⟨_, _, Tryd.underlying50, rfl, rfl, ty47.size, ag47, by decide⟩
theorem fa50_1 : FieldAt Tryd.prog 50 1 1 1 false := ⟨_, _, Tryd.underlying50, rfl, rfl, ty48.size, ag48, by decide⟩
theorem c_ccNew (b : Nat) (s : Value) : FnC Tryd.prog 25 [.lit (.pointer (some ⟨b, 0, none⟩))] [.box b 50 [.lit (.pointer none), .lit s]] (fun r M => r = .tup [] ∧ M = [.box b 50 [.lit (.pointer (some ⟨b, 0, none⟩)), .lit s]]) :=  by
  refine FnC.mk Tryd.func25 (by kernel_rfl) rfl Tryd.ntmps25 rfl (fun w0 F => ?_)
  refine W.seq ?_
  refine W.region ?_
  refine W.q (Ev.move (.t rfl)) rfl ?_
  refine W.q (Ev.nilc (.t rfl)) rfl ?_
  first | refine W.q (Ev.fae (.t rfl) fa50_0 rfl) rfl ?_ | refine W.q (Ev.fab (.t rfl) fa50_0) rfl ?_ | refine W.q (Ev.faa (.t rfl) fa50_0) rfl ?_
  first | refine W.q (Ev.lde1 (.t rfl) ag47) rfl ?_ | refine W.q (Ev.ldb1 0 (.t rfl) rfl ag47 rfl) rfl ?_ | refine W.q (Ev.ldb1 1 (.t rfl) rfl ag47 rfl) rfl ?_ | refine W.q (Ev.ldb1 2 (.t rfl) rfl ag47 rfl) rfl ?_ | refine W.q (Ev.ldb1 3 (.t rfl) rfl ag47 rfl) rfl ?_
  refine W.q (Ev.eqpn (.t rfl) Tryd.underlying47) rfl ?_
  refine W.nil ?_
  refine W.then ?_
  refine W.is (t := 6) (g := true) (av' := .lit (.bool true)) rfl (congrArg (fun b => AV.lit (.bool b)) (by rfl)) ?_
  refine W.condT (.t rfl) ?_
  refine W.region ?_
  refine W.q (Ev.move (.t rfl)) rfl ?_
  refine W.q (Ev.move (.t rfl)) rfl ?_
  first | refine W.q (Ev.touns 0 (.t rfl) rfl Tryd.underlying47 Tryd.underlying66 ty50) rfl ?_ | refine W.q (Ev.touns 1 (.t rfl) rfl Tryd.underlying47 Tryd.underlying66 ty50) rfl ?_ | refine W.q (Ev.touns 2 (.t rfl) rfl Tryd.underlying47 Tryd.underlying66 ty50) rfl ?_ | refine W.q (Ev.touns 3 (.t rfl) rfl Tryd.underlying47 Tryd.underlying66 ty50) rfl ?_
  refine W.q (Ev.noesc Tryd.func32 (by kernel_rfl) (by kernel_rfl) (by kernel_rfl) (by kernel_rfl) (.t rfl)) rfl ?_
  first | refine W.q (Ev.fromuns 0 (.t rfl) rfl Tryd.underlying66 Tryd.underlying47 ty50 (by kernel_rfl)) rfl ?_ | refine W.q (Ev.fromuns 1 (.t rfl) rfl Tryd.underlying66 Tryd.underlying47 ty50 (by kernel_rfl)) rfl ?_ | refine W.q (Ev.fromuns 2 (.t rfl) rfl Tryd.underlying66 Tryd.underlying47 ty50 (by kernel_rfl)) rfl ?_ | refine W.q (Ev.fromuns 3 (.t rfl) rfl Tryd.underlying66 Tryd.underlying47 ty50 (by kernel_rfl)) rfl ?_
  refine W.q (Ev.nilc (.t rfl)) rfl ?_
  first | refine W.q (Ev.fae (.t rfl) fa50_0 rfl) rfl ?_ | refine W.q (Ev.fab (.t rfl) fa50_0) rfl ?_ | refine W.q (Ev.faa (.t rfl) fa50_0) rfl ?_
  first | refine W.stb 0 (.t rfl) (.t rfl) rfl ty47 rfl rfl rfl ?_ | refine W.stb 1 (.t rfl) (.t rfl) rfl ty47 rfl rfl rfl ?_ | refine W.stb 2 (.t rfl) (.t rfl) rfl ty47 rfl rfl rfl ?_ | refine W.stb 3 (.t rfl) (.t rfl) rfl ty47 rfl rfl rfl ?_
  refine W.nil ?_
  refine W.endn (M' := [.box b 50 _]) (rs := []) (avs := []) Tryd.results25 trivial rfl (.refl _) ?_
  exact ⟨rfl, rfl⟩

theorem c_ccUsed (b : Nat) (s : Value) : FnC Tryd.prog 25 [.lit (.pointer (some ⟨b, 0, none⟩))] [.box b 50 [.lit (.pointer (some ⟨b, 0, none⟩)), .lit s]] (fun r M => r = .tup [] ∧ M = [.box b 50 [.lit (.pointer (some ⟨b, 0, none⟩)), .lit s]]) :=  by
  refine FnC.mk Tryd.func25 (by kernel_rfl) rfl Tryd.ntmps25 rfl (fun w0 F => ?_)
  refine W.seq ?_
  refine W.region ?_
  refine W.q (Ev.move (.t rfl)) rfl ?_
  refine W.q (Ev.nilc (.t rfl)) rfl ?_
  first | refine W.q (Ev.fae (.t rfl) fa50_0 rfl) rfl ?_ | refine W.q (Ev.fab (.t rfl) fa50_0) rfl ?_ | refine W.q (Ev.faa (.t rfl) fa50_0) rfl ?_
  first | refine W.q (Ev.lde1 (.t rfl) ag47) rfl ?_ | refine W.q (Ev.ldb1 0 (.t rfl) rfl ag47 rfl) rfl ?_ | refine W.q (Ev.ldb1 1 (.t rfl) rfl ag47 rfl) rfl ?_ | refine W.q (Ev.ldb1 2 (.t rfl) rfl ag47 rfl) rfl ?_ | refine W.q (Ev.ldb1 3 (.t rfl) rfl ag47 rfl) rfl ?_
  refine W.q (Ev.eqpn (.t rfl) Tryd.underlying47) rfl ?_
  refine W.nil ?_
  refine W.then ?_
  refine W.is (t := 6) (g := true) (av' := .lit (.bool false)) rfl (congrArg (fun b => AV.lit (.bool b)) (by rfl)) ?_
  refine W.condF (.t rfl) ?_
  refine W.seq ?_
  refine W.region ?_
  refine W.q (Ev.move (.t rfl)) rfl ?_
  refine W.q (Ev.nilc (.t rfl)) rfl ?_
  first | refine W.q (Ev.fae (.t rfl) fa50_0 rfl) rfl ?_ | refine W.q (Ev.fab (.t rfl) fa50_0) rfl ?_ | refine W.q (Ev.faa (.t rfl) fa50_0) rfl ?_
  first | refine W.q (Ev.lde1 (.t rfl) ag47) rfl ?_ | refine W.q (Ev.ldb1 0 (.t rfl) rfl ag47 rfl) rfl ?_ | refine W.q (Ev.ldb1 1 (.t rfl) rfl ag47 rfl) rfl ?_ | refine W.q (Ev.ldb1 2 (.t rfl) rfl ag47 rfl) rfl ?_ | refine W.q (Ev.ldb1 3 (.t rfl) rfl ag47 rfl) rfl ?_
  refine W.q (Ev.move (.t rfl)) rfl ?_
  refine W.q (Ev.nep (.t rfl) (.t rfl) Tryd.underlying47 ty50) rfl ?_
  refine W.nil ?_
  refine W.then ?_
  refine W.condF (.t rfl) ?_
  refine W.skip ?_
  refine W.endn (M' := [.box b 50 _]) (rs := []) (avs := []) Tryd.results25 trivial rfl (.refl _) ?_
  exact ⟨rfl, rfl⟩

theorem c_copyCheck (b : Nat) (s : Value) (p : Option Addr) (hp : p = none ∨ p = some ⟨b, 0, none⟩) : FnC Tryd.prog 25 [.lit (.pointer (some ⟨b, 0, none⟩))] [.box b 50 [.lit (.pointer p), .lit s]] (fun r M => r = .tup [] ∧ M = [.box b 50 [.lit (.pointer (some ⟨b, 0, none⟩)), .lit s]]) := by
  rcases hp with rfl | rfl
  · exact c_ccNew b s
  · exact c_ccUsed b s

theorem c_String (b : Nat) (p : Option Addr) (v : Value) (l : List UInt8) (hp : p = none ∨ p = some ⟨b, 0, none⟩) (hl : l.length ≤ 17592186044416) (hv : v = .slice none 0 0 ∨ l ≠ []) : FnC Tryd.prog 18 [.lit (.pointer (some ⟨b, 0, none⟩))] [.box b 50 [.lit (.pointer p), .lit v], .arr v 5 1 (l.map AV.u8)] (fun r M => r = .str l ∧ M = []) :=  by
  refine FnC.mk Tryd.func18 (by kernel_rfl) rfl Tryd.ntmps18 rfl (fun w0 F => ?_)
  have hlm : (l.map AV.u8).length = l.length := List.length_map ..
  have hve : v = .slice none 0 0 ∨ l.map AV.u8 ≠ [] := hv.imp id (fun h h2 => h (List.map_eq_nil_iff.1 h2))
  refine W.seq ?_
  refine W.region ?_
  refine W.q (Ev.assign .k) rfl ?_
  refine W.nil ?_
  refine W.then ?_
  refine W.seq ?_
  refine W.drawnE (ι := Unit) (fun e c => [.box b 50 [.lit (.pointer p), .lit v], .arr (bif e 10 then deadOf v else v) 5 1 (bif e 10 then [] else l.map AV.u8)]) 10 () (by kernel_rfl) (by kernel_rfl) rfl ?_
  refine DE.q (fun e c hk => (Ev.move (.t rfl))) rfl (fun _ _ => rfl) (by first | exact .inr (fun _ _ => rfl) | exact .inl (by kernel_rfl)) ?_
  refine DE.q (fun e c hk => (Ev.nilc (.t rfl))) rfl (fun _ _ => rfl) (by first | exact .inr (fun _ _ => rfl) | exact .inl (by kernel_rfl)) ?_
  first | refine DE.q (fun e c hk => (Ev.fae (.t rfl) fa50_1 rfl)) rfl (fun _ _ => rfl) (by first | exact .inr (fun _ _ => rfl) | exact .inl (by kernel_rfl)) ?_ | refine DE.q (fun e c hk => (Ev.fab (.t rfl) fa50_1)) rfl (fun _ _ => rfl) (by first | exact .inr (fun _ _ => rfl) | exact .inl (by kernel_rfl)) ?_ | refine DE.q (fun e c hk => (Ev.faa (.t rfl) fa50_1)) rfl (fun _ _ => rfl) (by first | exact .inr (fun _ _ => rfl) | exact .inl (by kernel_rfl)) ?_
  first | refine DE.q (fun e c hk => (Ev.lde1 (.t rfl) ag48)) rfl (fun _ _ => rfl) (by first | exact .inr (fun _ _ => rfl) | exact .inl (by kernel_rfl)) ?_ | refine DE.q (fun e c hk => (Ev.ldb1 0 (.t rfl) rfl ag48 rfl)) rfl (fun _ _ => rfl) (by first | exact .inr (fun _ _ => rfl) | exact .inl (by kernel_rfl)) ?_ | refine DE.q (fun e c hk => (Ev.ldb1 1 (.t rfl) rfl ag48 rfl)) rfl (fun _ _ => rfl) (by first | exact .inr (fun _ _ => rfl) | exact .inl (by kernel_rfl)) ?_ | refine DE.q (fun e c hk => (Ev.ldb1 2 (.t rfl) rfl ag48 rfl)) rfl (fun _ _ => rfl) (by first | exact .inr (fun _ _ => rfl) | exact .inl (by kernel_rfl)) ?_ | refine DE.q (fun e c hk => (Ev.ldb1 3 (.t rfl) rfl ag48 rfl)) rfl (fun _ _ => rfl) (by first | exact .inr (fun _ _ => rfl) | exact .inl (by kernel_rfl)) ?_
  refine DE.q (av := fun _ => .lit (dataOf v)) (fun e c hk => by have h := hk.down 10 (by kernel_rfl); simp only [h, cond_false]; exact Ev.usd (i := 1) (.t rfl) rfl hve) rfl (fun _ _ => rfl) (by first | exact .inr (fun _ _ => rfl) | exact .inl (by kernel_rfl)) ?_
  refine DE.q (fun e c hk => (Ev.move (.t rfl))) rfl (fun _ _ => rfl) (by first | exact .inr (fun _ _ => rfl) | exact .inl (by kernel_rfl)) ?_
  refine DE.q (fun e c hk => (Ev.nilc (.t rfl))) rfl (fun _ _ => rfl) (by first | exact .inr (fun _ _ => rfl) | exact .inl (by kernel_rfl)) ?_
  first | refine DE.q (fun e c hk => (Ev.fae (.t rfl) fa50_1 rfl)) rfl (fun _ _ => rfl) (by first | exact .inr (fun _ _ => rfl) | exact .inl (by kernel_rfl)) ?_ | refine DE.q (fun e c hk => (Ev.fab (.t rfl) fa50_1)) rfl (fun _ _ => rfl) (by first | exact .inr (fun _ _ => rfl) | exact .inl (by kernel_rfl)) ?_ | refine DE.q (fun e c hk => (Ev.faa (.t rfl) fa50_1)) rfl (fun _ _ => rfl) (by first | exact .inr (fun _ _ => rfl) | exact .inl (by kernel_rfl)) ?_
  first | refine DE.q (fun e c hk => (Ev.lde1 (.t rfl) ag48)) rfl (fun _ _ => rfl) (by first | exact .inr (fun _ _ => rfl) | exact .inl (by kernel_rfl)) ?_ | refine DE.q (fun e c hk => (Ev.ldb1 0 (.t rfl) rfl ag48 rfl)) rfl (fun _ _ => rfl) (by first | exact .inr (fun _ _ => rfl) | exact .inl (by kernel_rfl)) ?_ | refine DE.q (fun e c hk => (Ev.ldb1 1 (.t rfl) rfl ag48 rfl)) rfl (fun _ _ => rfl) (by first | exact .inr (fun _ _ => rfl) | exact .inl (by kernel_rfl)) ?_ | refine DE.q (fun e c hk => (Ev.ldb1 2 (.t rfl) rfl ag48 rfl)) rfl (fun _ _ => rfl) (by first | exact .inr (fun _ _ => rfl) | exact .inl (by kernel_rfl)) ?_ | refine DE.q (fun e c hk => (Ev.ldb1 3 (.t rfl) rfl ag48 rfl)) rfl (fun _ _ => rfl) (by first | exact .inr (fun _ _ => rfl) | exact .inl (by kernel_rfl)) ?_
  refine DE.q (av := fun _ => .lit (.int .i64 (l.length : Int))) (fun e c hk => by have h := hk.down 10 (by kernel_rfl); simp only [h, cond_false]; rw [← hlm]; exact Ev.lenar (i := 1) (.t rfl) rfl Tryd.underlying48) rfl (fun _ _ => rfl) (by first | exact .inr (fun _ _ => rfl) | exact .inl (by kernel_rfl)) ?_
  refine DE.effc (av := fun _ => .str l) rfl (.inr fun _ _ => rfl) (fun e c hk L_ hs Q h => ?_) ?_
  · have hk_10 := hk.not
    simp only [addE, hk_10, ↓reduceIte, cond_true, cond_false] at h ⊢
    refine W.ustr 1 (.t (hs _ _ rfl)) (.t (hs _ _ rfl)) rfl hv Tryd.underlying60 (by kernel_rfl) (by omega) rfl ?_
    exact h
  refine DE.q (fun e c hk => (Ev.assign (.t rfl))) rfl (fun _ _ => rfl) (by first | exact .inr (fun _ _ => rfl) | exact .inl (by kernel_rfl)) ?_
  refine DE.nil (fun c_ e_ he_ => ?_)
  simp only [he_ 10 (by decide), cond_true, cond_false]
  refine W.then ?_
  refine W.ret ?_
  refine W.retn (M' := []) (D := _) (rs := [.tmp 2]) (avs := [_]) Tryd.results18 ⟨rfl, trivial⟩ rfl (.refl _) ?_
  exact ⟨rfl, rfl⟩

end WBld

end Go.Proofs.YtiflifblkpjgpaaDoor
end

section
set_option linter.unusedVariables false
set_option linter.unusedSimpArgs false
set_option maxRecDepth 100000
namespace Go.Proofs.YtiflifblkpjgpaaDoor
open Go.Vl

namespace WStr
theorem ty5 : Ty Tryd.prog 5 1 1 (.int .u8 0) := Ty.of (by kernel_rfl)
theorem ty48 : Ty Tryd.prog 48 1 24 (.slice none 0 0) := Ty.of (by kernel_rfl)
theorem ag48 : IsAgg Tryd.prog 48 false := ⟨_, Tryd.underlying48, rfl⟩
theorem fa50_1 : FieldAt Tryd.prog 50 1 1 1 false := ⟨_, _, Tryd.underlying50, rfl, rfl, ty48.size, ag48, by decide⟩
theorem ni9 : NotInt Tryd.prog 9 := .inr Tryd.underlying9
theorem c_WriteString (b : Nat) (p : Option Addr) (v : Value) (l : List UInt8) (hp : p = none ∨ p = some ⟨b, 0, none⟩) (s : List UInt8) (hl : l.length + s.length ≤ 17592186044416) : FnC Tryd.prog 17 [.lit (.pointer (some ⟨b, 0, none⟩)), .str s] [.box b 50 [.lit (.pointer p), .lit v], .arr v 5 1 (l.map AV.u8)] (fun r M => r = .tup [.int (s.length : Int), .lit .nilIface] ∧ ∃ v', M = [.box b 50 [.lit (.pointer (some ⟨b, 0, none⟩)), .lit v'], .arr v' 5 1 ((l ++ s).map AV.u8)]) :=  by
  refine FnC.mk Tryd.func17 (by kernel_rfl) rfl Tryd.ntmps17 rfl (fun w0 F => ?_)
  have hlm : (l.map AV.u8).length = l.length := List.length_map ..
  have hsm : (s.map AV.u8).length = s.length := List.length_map ..
  refine W.seq ?_
  refine W.region ?_
  refine W.q (Ev.assign .k) rfl ?_
  refine W.q (Ev.assign .k) rfl ?_
  refine W.nil ?_
  refine W.then ?_
  refine W.seq ?_
  refine W.region ?_
  refine W.q (Ev.move (.t rfl)) rfl ?_
  refine W.call (WBld.c_copyCheck b v p hp) ⟨(.t rfl), trivial⟩ (.refl _) rfl ?_
  rintro _ _ ⟨rfl, rfl⟩
  refine W.nil ?_
  refine W.then ?_
  refine W.seq ?_
  refine W.region ?_
  refine W.q (Ev.move (.t rfl)) rfl ?_
  refine W.q (Ev.move (.t rfl)) rfl ?_
  refine W.q (Ev.nilc (.t rfl)) rfl ?_
  first | refine W.q (Ev.fae (.t rfl) fa50_1 rfl) rfl ?_ | refine W.q (Ev.fab (.t rfl) fa50_1) rfl ?_ | refine W.q (Ev.faa (.t rfl) fa50_1) rfl ?_
  first | refine W.q (Ev.lde1 (.t rfl) ag48) rfl ?_ | refine W.q (Ev.ldb1 0 (.t rfl) rfl ag48 rfl) rfl ?_ | refine W.q (Ev.ldb1 1 (.t rfl) rfl ag48 rfl) rfl ?_ | refine W.q (Ev.ldb1 2 (.t rfl) rfl ag48 rfl) rfl ?_ | refine W.q (Ev.ldb1 3 (.t rfl) rfl ag48 rfl) rfl ?_
  refine W.q (Ev.move (.t rfl)) rfl ?_
  first | refine W.app 0 (.t rfl) rfl (.str (.t rfl)) Tryd.underlying48 ni9 ty5 rfl rfl (by rw [hlm, hsm]; omega) rfl ?_ | refine W.app 1 (.t rfl) rfl (.str (.t rfl)) Tryd.underlying48 ni9 ty5 rfl rfl (by rw [hlm, hsm]; omega) rfl ?_ | refine W.app 2 (.t rfl) rfl (.str (.t rfl)) Tryd.underlying48 ni9 ty5 rfl rfl (by rw [hlm, hsm]; omega) rfl ?_ | refine W.app 3 (.t rfl) rfl (.str (.t rfl)) Tryd.underlying48 ni9 ty5 rfl rfl (by rw [hlm, hsm]; omega) rfl ?_
  intro v14
  refine W.arr_inv 1 rfl (fun a14 n14 c14 h14 => ?_)
  subst h14
  refine W.q (Ev.nilc (.t rfl)) rfl ?_
  first | refine W.q (Ev.fae (.t rfl) fa50_1 rfl) rfl ?_ | refine W.q (Ev.fab (.t rfl) fa50_1) rfl ?_ | refine W.q (Ev.faa (.t rfl) fa50_1) rfl ?_
  first | refine W.stb 0 (.t rfl) (.t rfl) rfl ty48 rfl rfl rfl ?_ | refine W.stb 1 (.t rfl) (.t rfl) rfl ty48 rfl rfl rfl ?_ | refine W.stb 2 (.t rfl) (.t rfl) rfl ty48 rfl rfl rfl ?_ | refine W.stb 3 (.t rfl) (.t rfl) rfl ty48 rfl rfl rfl ?_
  refine W.nil ?_
  refine W.then ?_
  refine W.seq ?_
  refine W.region ?_
  refine W.q (Ev.move (.t rfl)) rfl ?_
  refine W.q (Ev.lens (.t rfl) Tryd.underlying9) rfl ?_
  refine W.q (Ev.assign (.t rfl)) rfl ?_
  refine W.q (Ev.assign .k) rfl ?_
  refine W.nil ?_
  refine W.then ?_
  refine W.ret ?_
  refine W.retn (M' := [.box b 50 _, .arr _ 5 1 _]) (rs := [.tmp 4, .tmp 5]) (avs := [_, _]) Tryd.results17 ⟨rfl, rfl, trivial⟩ rfl (.refl _) ?_
  exact ⟨rfl, _, by rw [List.map_append]; rfl⟩

end WStr

end Go.Proofs.YtiflifblkpjgpaaDoor
end

section
set_option linter.unusedVariables false
set_option linter.unusedSimpArgs false
set_option maxRecDepth 100000
namespace Go.Proofs.YtiflifblkpjgpaaDoor
open Go.Vl

namespace WTextB
theorem ty4 : Ty Tryd.prog 4 1 1 (.bool false) := Ty.of (by kernel_rfl)
theorem ty9 : Ty Tryd.prog 9 1 16 (.string ⟨#[]⟩) := Ty.of (by kernel_rfl)
theorem ty31 : Ty Tryd.prog 31 3 40 (.agg #[.string ⟨#[]⟩, .string ⟨#[]⟩, .bool false]) := Ty.of (by kernel_rfl)
theorem ty50 : Ty Tryd.prog 50 2 32 (.agg #[.pointer none, .slice none 0 0]) := Ty.of (by kernel_rfl)
theorem ag4 : IsAgg Tryd.prog 4 false := ⟨_, Tryd.underlying4, rfl⟩
theorem ag9 : IsAgg Tryd.prog 9 false := ⟨_, Tryd.underlying9, rfl⟩
theorem ag31 : IsAgg Tryd.prog 31 true := ⟨_, Tryd.underlying31, rfl⟩
theorem fa31_0 : FieldAt Tryd.prog 31 0 0 1 false := ⟨_, _, Tryd.underlying31, rfl, rfl, ty9.size, ag9, by decide⟩
theorem fa31_1 : FieldAt Tryd.prog 31 1 1 1 false := ⟨_, _, Tryd.underlying31, rfl, rfl, ty9.size, ag9, by decide⟩
theorem fa31_2 : FieldAt Tryd.prog 31 2 2 1 false := ⟨_, _, Tryd.underlying31, rfl, rfl, ty4.size, ag4, by decide⟩
theorem c_text (ps : List Pk) (hd : ∀ p ∈ ps, Pk.drn p) (hl : ps.length ≤ 10) : FnP Tryd.prog 9 [.sl 3 (ps.map kav)] (.str (Pk.tx ps)) :=  by
  refine FnC.mk Tryd.func9 (by kernel_rfl) rfl Tryd.ntmps9 rfl (fun w0 F => ?_)
  have hnl : (ps.map kav).length = ps.length := List.length_map ..
  refine W.seq ?_
  refine W.region ?_
  refine W.q (Ev.assign .k) rfl ?_
  refine W.nil ?_
  refine W.then ?_
  refine W.seq ?_
  refine W.region ?_
  refine W.alloc ty50 rfl rfl ?_
  intro b3
  refine W.nil ?_
  refine W.then ?_
  refine W.seq ?_
  refine W.seq ?_
  refine W.region ?_
  refine W.q (Ev.move (.t rfl)) rfl ?_
  first | refine W.q (Ev.lensl (.t rfl) Tryd.underlying23) rfl ?_ | refine W.q (Ev.lenar (i := 0) (.t rfl) rfl Tryd.underlying23) rfl ?_ | refine W.q (Ev.lenar (i := 1) (.t rfl) rfl Tryd.underlying23) rfl ?_ | refine W.q (Ev.lenar (i := 2) (.t rfl) rfl Tryd.underlying23) rfl ?_ | refine W.q (Ev.lenar (i := 3) (.t rfl) rfl Tryd.underlying23) rfl ?_
  refine W.q (Ev.move .k) rfl ?_
  refine W.nil ?_
  refine W.then ?_
  refine W.block ?_
  refine W.own_nil 5 1 ?_
  refine W.loop (D := []) (ι := Nat × Value × Option Addr) (fun z => [(8, true, .int (z.1 : Int)), (7, true, .int ((ps.map kav).length : Int)), (6, true, .sl 3 (ps.map kav)), (3, true, .lit (.pointer (some ⟨b3, 0, none⟩)))]) (fun z => [.box b3 50 [.lit (.pointer z.2.2), .lit z.2.1], .arr z.2.1 5 1 ((Pk.tx (ps.take z.1)).map AV.u8)]) (fun z => z.1 ≤ ps.length ∧ (z.2.2 = none ∨ z.2.2 = some ⟨b3, 0, none⟩) ∧ (z.2.1 = .slice none 0 0 ∨ Pk.tx (ps.take z.1) ≠ [])) (fun z => ps.length - z.1) (0, .slice none 0 0, none) ⟨rfl, rfl, rfl, rfl, trivial⟩ (by first | exact .refl _ | exact List.Perm.swap _ _ _) ⟨Nat.zero_le _, .inl rfl, .inl rfl⟩ ?_
  rintro ⟨i, v, p⟩ ⟨hi, hp, hv⟩
  dsimp only at hi hp hv ⊢
  rcases (show (i < ps.length ∧ 0 < i ∧ (ps.getD i Pk.dfl).deep = true) ∨ (i < ps.length ∧ 0 < i ∧ (ps.getD i Pk.dfl).deep = false) ∨ (i < ps.length ∧ i = 0) ∨ i = ps.length from by cases (ps.getD i Pk.dfl).deep <;> simp <;> omega) with ⟨hlt, hi0, hdp⟩ | ⟨hlt, hi0, hdp⟩ | ⟨hlt, hi0⟩ | hend
  · have hga := getD_mapG kav Pk.dfl ps i hlt
    have hdm := getD_memG Pk.dfl ps i hlt
    have htk := take_getDG Pk.dfl ps i hlt
    generalize ps.getD i Pk.dfl = d at hga hdm htk hdp
    have hdl := (hd d hdm).len
    have hxl := Pk.tx_len (ps.take i) (fun q hq => hd q (List.mem_of_mem_take hq))
    rw [List.length_take] at hxl
    have hsep : ps.take i ≠ [] := fun e => by have := congrArg List.length e; rw [List.length_take, List.length_nil] at this; omega
    refine W.seq ?_
    refine W.region ?_
    refine W.q (Ev.lti (.t rfl) (.t rfl)) rfl ?_
    refine W.nil ?_
    refine W.then ?_
    refine W.seq ?_
    refine W.is (t := 9) (g := true) (av' := .lit (.bool true)) rfl (congrArg (fun b => AV.lit (.bool b)) (by exact decide_eq_true (by omega))) ?_
    refine W.condT (.t rfl) ?_
    refine W.skip ?_
    refine W.then ?_
    refine W.seq ?_
    refine W.block ?_
    refine W.seq ?_
    refine W.region ?_
    refine W.q (Ev.move (.t rfl)) rfl ?_
    refine W.q (Ev.at (E := 31) (.t rfl) (.t rfl) Tryd.underlying23 ty31 (fun _ => ⟨by omega, hga⟩) rfl rfl) rfl ?_
    first | refine W.q (Ev.lden (.t rfl) ag31 ty31 rfl rfl) rfl ?_ | refine W.q (Ev.ldbn 0 (.t rfl) rfl ag31 ty31 rfl) rfl ?_ | refine W.q (Ev.ldbn 1 (.t rfl) rfl ag31 ty31 rfl) rfl ?_ | refine W.q (Ev.ldbn 2 (.t rfl) rfl ag31 ty31 rfl) rfl ?_ | refine W.q (Ev.ldbn 3 (.t rfl) rfl ag31 ty31 rfl) rfl ?_
    refine W.alloc ty31 rfl rfl ?_
    intro b5
    refine W.q (Ev.assign (.t rfl)) rfl ?_
    first | refine W.stb 0 (.t rfl) (.t rfl) rfl ty31 rfl rfl rfl ?_ | refine W.stb 1 (.t rfl) (.t rfl) rfl ty31 rfl rfl rfl ?_ | refine W.stb 2 (.t rfl) (.t rfl) rfl ty31 rfl rfl rfl ?_ | refine W.stb 3 (.t rfl) (.t rfl) rfl ty31 rfl rfl rfl ?_
    refine W.nil ?_
    refine W.then ?_
    refine W.seq ?_
    refine W.block ?_
    refine W.seq ?_
    refine W.region ?_
    refine W.q (Ev.move (.t rfl)) rfl ?_
    refine W.q (Ev.gti (.t rfl) .k) rfl ?_
    refine W.q (Ev.move (.t rfl)) rfl ?_
    first | refine W.qgT rfl rfl (Ev.fae (.t rfl) fa31_2 rfl) rfl ?_ | refine W.qgT rfl rfl (Ev.fab (.t rfl) fa31_2) rfl ?_ | refine W.qgT rfl rfl (Ev.faa (.t rfl) fa31_2) rfl ?_
    first | refine W.qgT rfl rfl (Ev.lde1 (.c rfl) ag4) rfl ?_ | refine W.qgT rfl rfl (Ev.ldb1 0 (.c rfl) rfl ag4 rfl) rfl ?_ | refine W.qgT rfl rfl (Ev.ldb1 1 (.c rfl) rfl ag4 rfl) rfl ?_ | refine W.qgT rfl rfl (Ev.ldb1 2 (.c rfl) rfl ag4 rfl) rfl ?_ | refine W.qgT rfl rfl (Ev.ldb1 3 (.c rfl) rfl ag4 rfl) rfl ?_
    refine W.q (Ev.and (.t rfl) ⟨_, _, rfl, rfl, by first | (simp; done) | (intro hg_ hp_; simp [hp_]; done) | (simp <;> omega; done) | (simp_all; done) | grind⟩) rfl ?_
    refine W.q (Ev.assign (.t rfl)) rfl ?_
    refine W.nil ?_
    refine W.then ?_
    refine W.is (t := 13) (g := true) (av' := .lit (.bool true)) rfl (congrArg (fun b => AV.lit (.bool b)) (by simp [hdp]; omega)) ?_
    refine W.condT (.t rfl) ?_
    refine W.region ?_
    refine W.call (WStr.c_WriteString b3 p v (Pk.tx (ps.take i)) hp [32] (by simp only [List.length_cons, List.length_nil]; omega)) ⟨(.t rfl), .k, trivial⟩ (List.perm_append_comm (l₁ := [_])) rfl ?_
    rintro _ _ ⟨rfl, v20, rfl⟩
    refine W.nil ?_
    refine W.blk_normal ?_
    refine W.then ?_
    refine W.seq ?_
    refine W.seq ?_
    refine W.region ?_
    first | refine W.q (Ev.fae (.t rfl) fa31_0 rfl) rfl ?_ | refine W.q (Ev.fab (.t rfl) fa31_0) rfl ?_ | refine W.q (Ev.faa (.t rfl) fa31_0) rfl ?_
    first | refine W.q (Ev.lde1 (.t rfl) ag9) rfl ?_ | refine W.q (Ev.ldb1 0 (.t rfl) rfl ag9 rfl) rfl ?_ | refine W.q (Ev.ldb1 1 (.t rfl) rfl ag9 rfl) rfl ?_ | refine W.q (Ev.ldb1 2 (.t rfl) rfl ag9 rfl) rfl ?_ | refine W.q (Ev.ldb1 3 (.t rfl) rfl ag9 rfl) rfl ?_
    refine W.q (Ev.eqs (.t rfl) .k) rfl ?_
    refine W.nil ?_
    refine W.then ?_
    refine W.cond (.t rfl) (fun hc_t27 => ?_) (fun hc_t27 => ?_)
    · have hnm : d.name = [] := beq_iff_eq.1 hc_t27
      refine W.region ?_
      first | refine W.q (Ev.fae (.t rfl) fa31_0 rfl) rfl ?_ | refine W.q (Ev.fab (.t rfl) fa31_0) rfl ?_ | refine W.q (Ev.faa (.t rfl) fa31_0) rfl ?_
      first | refine W.stb 0 (.t rfl) .k rfl ty9 rfl rfl rfl ?_ | refine W.stb 1 (.t rfl) .k rfl ty9 rfl rfl rfl ?_ | refine W.stb 2 (.t rfl) .k rfl ty9 rfl rfl rfl ?_ | refine W.stb 3 (.t rfl) .k rfl ty9 rfl rfl rfl ?_
      refine W.nil ?_
      refine W.then ?_
      refine W.seq ?_
      refine W.region ?_
      first | refine W.q (Ev.fae (.t rfl) fa31_0 rfl) rfl ?_ | refine W.q (Ev.fab (.t rfl) fa31_0) rfl ?_ | refine W.q (Ev.faa (.t rfl) fa31_0) rfl ?_
      first | refine W.q (Ev.lde1 (.t rfl) ag9) rfl ?_ | refine W.q (Ev.ldb1 0 (.t rfl) rfl ag9 rfl) rfl ?_ | refine W.q (Ev.ldb1 1 (.t rfl) rfl ag9 rfl) rfl ?_ | refine W.q (Ev.ldb1 2 (.t rfl) rfl ag9 rfl) rfl ?_ | refine W.q (Ev.ldb1 3 (.t rfl) rfl ag9 rfl) rfl ?_
      refine W.call (WStr.c_WriteString b3 (some ⟨b3, 0, none⟩) v20 ((Pk.tx (ps.take i)) ++ [32]) (.inr rfl) _ (by first | omega | (simp only [List.length_append, List.length_cons, List.length_nil]; omega))) ⟨(.t rfl), (.t rfl), trivial⟩ (.refl _) rfl ?_
      rintro _ _ ⟨rfl, v31, rfl⟩
      refine W.nil ?_
      refine W.then ?_
      refine W.seq ?_
      refine W.region ?_
      first | refine W.q (Ev.fae (.t rfl) fa31_1 rfl) rfl ?_ | refine W.q (Ev.fab (.t rfl) fa31_1) rfl ?_ | refine W.q (Ev.faa (.t rfl) fa31_1) rfl ?_
      first | refine W.q (Ev.lde1 (.t rfl) ag9) rfl ?_ | refine W.q (Ev.ldb1 0 (.t rfl) rfl ag9 rfl) rfl ?_ | refine W.q (Ev.ldb1 1 (.t rfl) rfl ag9 rfl) rfl ?_ | refine W.q (Ev.ldb1 2 (.t rfl) rfl ag9 rfl) rfl ?_ | refine W.q (Ev.ldb1 3 (.t rfl) rfl ag9 rfl) rfl ?_
      refine W.q (Ev.nes (.t rfl) .k) rfl ?_
      refine W.nil ?_
      refine W.then ?_
      refine W.cond (.t rfl) (fun hc_t34 => ?_) (fun hc_t34 => ?_)
      · have hat : d.attr ≠ [] := by simpa using hc_t34
        refine W.region ?_
        first | refine W.q (Ev.fae (.t rfl) fa31_1 rfl) rfl ?_ | refine W.q (Ev.fab (.t rfl) fa31_1) rfl ?_ | refine W.q (Ev.faa (.t rfl) fa31_1) rfl ?_
        first | refine W.q (Ev.lde1 (.t rfl) ag9) rfl ?_ | refine W.q (Ev.ldb1 0 (.t rfl) rfl ag9 rfl) rfl ?_ | refine W.q (Ev.ldb1 1 (.t rfl) rfl ag9 rfl) rfl ?_ | refine W.q (Ev.ldb1 2 (.t rfl) rfl ag9 rfl) rfl ?_ | refine W.q (Ev.ldb1 3 (.t rfl) rfl ag9 rfl) rfl ?_
        refine W.q (Ev.cat .k (.t rfl) (fun _ => by simp only [List.length_cons, List.length_nil]; omega)) rfl ?_
        refine W.q (Ev.cat (.t rfl) .k (fun _ => by simp only [List.length_append, List.length_cons, List.length_nil]; omega)) rfl ?_
        refine W.call (WStr.c_WriteString b3 (some ⟨b3, 0, none⟩) v31 _ (.inr rfl) (([91] ++ d.attr) ++ [93]) (by simp only [List.length_append, List.length_cons, List.length_nil]; omega)) ⟨(.t rfl), (.t rfl), trivial⟩ (.refl _) rfl ?_
        rintro _ _ ⟨rfl, v39, rfl⟩
        refine W.nil ?_
        refine W.blk_normal ?_
        refine W.then ?_
        refine W.region ?_
        first | refine W.q (Ev.add (.t rfl) .k (fun _ => by omega)) rfl ?_ | refine W.q (Ev.addw (.t rfl) .k) rfl ?_
        refine W.q (Ev.move (.t rfl)) rfl ?_
        refine W.nil ?_
        refine W.then ?_
        first
        | (refine W.reach (D := [_]) (i + 1, v39, (some ⟨b3, 0, none⟩)) ⟨rfl, rfl, rfl, rfl, trivial⟩ (List.Perm.append (List.Perm.cons _ (List.Perm.of_eq (congrArg (fun z => [ME.arr v39 5 1 (List.map AV.u8 z)]) ?_))) (List.Perm.refl [_])) ⟨⟨hlt, .inr rfl, .inr ?_⟩, by show ps.length - (i + 1) < ps.length - i; omega⟩
           · dsimp only; rw [htk, Pk.tx_snoc]; simp [Pk.wd, Pk.sq, hsep, hdp, hnm, hat]
           · dsimp only; rw [htk, Pk.tx_snoc]; simp [Pk.wd, hat])
        | (refine W.reach (D := [_]) (i + 1, v31, (some ⟨b3, 0, none⟩)) ⟨rfl, rfl, rfl, rfl, trivial⟩ (List.Perm.append (List.Perm.cons _ (List.Perm.of_eq (congrArg (fun z => [ME.arr v31 5 1 (List.map AV.u8 z)]) ?_))) (List.Perm.refl [_])) ⟨⟨hlt, .inr rfl, .inr ?_⟩, by show ps.length - (i + 1) < ps.length - i; omega⟩
           · dsimp only; rw [htk, Pk.tx_snoc]; simp [Pk.wd, Pk.sq, hsep, hdp, hnm, hat]
           · dsimp only; rw [htk, Pk.tx_snoc]; simp [Pk.wd, hnm, hat])
      · have hat : d.attr = [] := by simpa using hc_t34
        refine W.skip ?_
        refine W.blk_normal ?_
        refine W.then ?_
        refine W.region ?_
        first | refine W.q (Ev.add (.t rfl) .k (fun _ => by omega)) rfl ?_ | refine W.q (Ev.addw (.t rfl) .k) rfl ?_
        refine W.q (Ev.move (.t rfl)) rfl ?_
        refine W.nil ?_
        refine W.then ?_
        first
        | (refine W.reach (D := [_]) (i + 1, v39, (some ⟨b3, 0, none⟩)) ⟨rfl, rfl, rfl, rfl, trivial⟩ (List.Perm.append (List.Perm.cons _ (List.Perm.of_eq (congrArg (fun z => [ME.arr v39 5 1 (List.map AV.u8 z)]) ?_))) (List.Perm.refl [_])) ⟨⟨hlt, .inr rfl, .inr ?_⟩, by show ps.length - (i + 1) < ps.length - i; omega⟩
           · dsimp only; rw [htk, Pk.tx_snoc]; simp [Pk.wd, Pk.sq, hsep, hdp, hnm, hat]
           · dsimp only; rw [htk, Pk.tx_snoc]; simp [Pk.wd, hat])
        | (refine W.reach (D := [_]) (i + 1, v31, (some ⟨b3, 0, none⟩)) ⟨rfl, rfl, rfl, rfl, trivial⟩ (List.Perm.append (List.Perm.cons _ (List.Perm.of_eq (congrArg (fun z => [ME.arr v31 5 1 (List.map AV.u8 z)]) ?_))) (List.Perm.refl [_])) ⟨⟨hlt, .inr rfl, .inr ?_⟩, by show ps.length - (i + 1) < ps.length - i; omega⟩
           · dsimp only; rw [htk, Pk.tx_snoc]; simp [Pk.wd, Pk.sq, hsep, hdp, hnm, hat]
           · dsimp only; rw [htk, Pk.tx_snoc]; simp [Pk.wd, hnm, hat])
    · have hnm : d.name ≠ [] := by simpa using hc_t27
      refine W.skip ?_
      refine W.then ?_
      refine W.seq ?_
      refine W.region ?_
      first | refine W.q (Ev.fae (.t rfl) fa31_0 rfl) rfl ?_ | refine W.q (Ev.fab (.t rfl) fa31_0) rfl ?_ | refine W.q (Ev.faa (.t rfl) fa31_0) rfl ?_
      first | refine W.q (Ev.lde1 (.t rfl) ag9) rfl ?_ | refine W.q (Ev.ldb1 0 (.t rfl) rfl ag9 rfl) rfl ?_ | refine W.q (Ev.ldb1 1 (.t rfl) rfl ag9 rfl) rfl ?_ | refine W.q (Ev.ldb1 2 (.t rfl) rfl ag9 rfl) rfl ?_ | refine W.q (Ev.ldb1 3 (.t rfl) rfl ag9 rfl) rfl ?_
      refine W.call (WStr.c_WriteString b3 (some ⟨b3, 0, none⟩) v20 ((Pk.tx (ps.take i)) ++ [32]) (.inr rfl) _ (by first | omega | (simp only [List.length_append, List.length_cons, List.length_nil]; omega))) ⟨(.t rfl), (.t rfl), trivial⟩ (.refl _) rfl ?_
      rintro _ _ ⟨rfl, v31, rfl⟩
      refine W.nil ?_
      refine W.then ?_
      refine W.seq ?_
      refine W.region ?_
      first | refine W.q (Ev.fae (.t rfl) fa31_1 rfl) rfl ?_ | refine W.q (Ev.fab (.t rfl) fa31_1) rfl ?_ | refine W.q (Ev.faa (.t rfl) fa31_1) rfl ?_
      first | refine W.q (Ev.lde1 (.t rfl) ag9) rfl ?_ | refine W.q (Ev.ldb1 0 (.t rfl) rfl ag9 rfl) rfl ?_ | refine W.q (Ev.ldb1 1 (.t rfl) rfl ag9 rfl) rfl ?_ | refine W.q (Ev.ldb1 2 (.t rfl) rfl ag9 rfl) rfl ?_ | refine W.q (Ev.ldb1 3 (.t rfl) rfl ag9 rfl) rfl ?_
      refine W.q (Ev.nes (.t rfl) .k) rfl ?_
      refine W.nil ?_
      refine W.then ?_
      refine W.cond (.t rfl) (fun hc_t34 => ?_) (fun hc_t34 => ?_)
      · have hat : d.attr ≠ [] := by simpa using hc_t34
        refine W.region ?_
        first | refine W.q (Ev.fae (.t rfl) fa31_1 rfl) rfl ?_ | refine W.q (Ev.fab (.t rfl) fa31_1) rfl ?_ | refine W.q (Ev.faa (.t rfl) fa31_1) rfl ?_
        first | refine W.q (Ev.lde1 (.t rfl) ag9) rfl ?_ | refine W.q (Ev.ldb1 0 (.t rfl) rfl ag9 rfl) rfl ?_ | refine W.q (Ev.ldb1 1 (.t rfl) rfl ag9 rfl) rfl ?_ | refine W.q (Ev.ldb1 2 (.t rfl) rfl ag9 rfl) rfl ?_ | refine W.q (Ev.ldb1 3 (.t rfl) rfl ag9 rfl) rfl ?_
        refine W.q (Ev.cat .k (.t rfl) (fun _ => by simp only [List.length_cons, List.length_nil]; omega)) rfl ?_
        refine W.q (Ev.cat (.t rfl) .k (fun _ => by simp only [List.length_append, List.length_cons, List.length_nil]; omega)) rfl ?_
        refine W.call (WStr.c_WriteString b3 (some ⟨b3, 0, none⟩) v31 _ (.inr rfl) (([91] ++ d.attr) ++ [93]) (by simp only [List.length_append, List.length_cons, List.length_nil]; omega)) ⟨(.t rfl), (.t rfl), trivial⟩ (.refl _) rfl ?_
        rintro _ _ ⟨rfl, v39, rfl⟩
        refine W.nil ?_
        refine W.blk_normal ?_
        refine W.then ?_
        refine W.region ?_
        first | refine W.q (Ev.add (.t rfl) .k (fun _ => by omega)) rfl ?_ | refine W.q (Ev.addw (.t rfl) .k) rfl ?_
        refine W.q (Ev.move (.t rfl)) rfl ?_
        refine W.nil ?_
        refine W.then ?_
        first
        | (refine W.reach (D := [_]) (i + 1, v39, (some ⟨b3, 0, none⟩)) ⟨rfl, rfl, rfl, rfl, trivial⟩ (List.Perm.append (List.Perm.cons _ (List.Perm.of_eq (congrArg (fun z => [ME.arr v39 5 1 (List.map AV.u8 z)]) ?_))) (List.Perm.refl [_])) ⟨⟨hlt, .inr rfl, .inr ?_⟩, by show ps.length - (i + 1) < ps.length - i; omega⟩
           · dsimp only; rw [htk, Pk.tx_snoc]; simp [Pk.wd, Pk.sq, hsep, hdp, hnm, hat]
           · dsimp only; rw [htk, Pk.tx_snoc]; simp [Pk.wd, hat])
        | (refine W.reach (D := [_]) (i + 1, v31, (some ⟨b3, 0, none⟩)) ⟨rfl, rfl, rfl, rfl, trivial⟩ (List.Perm.append (List.Perm.cons _ (List.Perm.of_eq (congrArg (fun z => [ME.arr v31 5 1 (List.map AV.u8 z)]) ?_))) (List.Perm.refl [_])) ⟨⟨hlt, .inr rfl, .inr ?_⟩, by show ps.length - (i + 1) < ps.length - i; omega⟩
           · dsimp only; rw [htk, Pk.tx_snoc]; simp [Pk.wd, Pk.sq, hsep, hdp, hnm, hat]
           · dsimp only; rw [htk, Pk.tx_snoc]; simp [Pk.wd, hnm, hat])
      · have hat : d.attr = [] := by simpa using hc_t34
        refine W.skip ?_
        refine W.blk_normal ?_
        refine W.then ?_
        refine W.region ?_
        first | refine W.q (Ev.add (.t rfl) .k (fun _ => by omega)) rfl ?_ | refine W.q (Ev.addw (.t rfl) .k) rfl ?_
        refine W.q (Ev.move (.t rfl)) rfl ?_
        refine W.nil ?_
        refine W.then ?_
        first
        | (refine W.reach (D := [_]) (i + 1, v39, (some ⟨b3, 0, none⟩)) ⟨rfl, rfl, rfl, rfl, trivial⟩ (List.Perm.append (List.Perm.cons _ (List.Perm.of_eq (congrArg (fun z => [ME.arr v39 5 1 (List.map AV.u8 z)]) ?_))) (List.Perm.refl [_])) ⟨⟨hlt, .inr rfl, .inr ?_⟩, by show ps.length - (i + 1) < ps.length - i; omega⟩
           · dsimp only; rw [htk, Pk.tx_snoc]; simp [Pk.wd, Pk.sq, hsep, hdp, hnm, hat]
           · dsimp only; rw [htk, Pk.tx_snoc]; simp [Pk.wd, hat])
        | (refine W.reach (D := [_]) (i + 1, v31, (some ⟨b3, 0, none⟩)) ⟨rfl, rfl, rfl, rfl, trivial⟩ (List.Perm.append (List.Perm.cons _ (List.Perm.of_eq (congrArg (fun z => [ME.arr v31 5 1 (List.map AV.u8 z)]) ?_))) (List.Perm.refl [_])) ⟨⟨hlt, .inr rfl, .inr ?_⟩, by show ps.length - (i + 1) < ps.length - i; omega⟩
           · dsimp only; rw [htk, Pk.tx_snoc]; simp [Pk.wd, Pk.sq, hsep, hdp, hnm, hat]
           · dsimp only; rw [htk, Pk.tx_snoc]; simp [Pk.wd, hnm, hat])
  · have hga := getD_mapG kav Pk.dfl ps i hlt
    have hdm := getD_memG Pk.dfl ps i hlt
    have htk := take_getDG Pk.dfl ps i hlt
    generalize ps.getD i Pk.dfl = d at hga hdm htk hdp
    have hdl := (hd d hdm).len
    have hxl := Pk.tx_len (ps.take i) (fun q hq => hd q (List.mem_of_mem_take hq))
    rw [List.length_take] at hxl
    have hsep : ps.take i ≠ [] := fun e => by have := congrArg List.length e; rw [List.length_take, List.length_nil] at this; omega
    refine W.seq ?_
    refine W.region ?_
    refine W.q (Ev.lti (.t rfl) (.t rfl)) rfl ?_
    refine W.nil ?_
    refine W.then ?_
    refine W.seq ?_
    refine W.is (t := 9) (g := true) (av' := .lit (.bool true)) rfl (congrArg (fun b => AV.lit (.bool b)) (by exact decide_eq_true (by omega))) ?_
    refine W.condT (.t rfl) ?_
    refine W.skip ?_
    refine W.then ?_
    refine W.seq ?_
    refine W.block ?_
    refine W.seq ?_
    refine W.region ?_
    refine W.q (Ev.move (.t rfl)) rfl ?_
    refine W.q (Ev.at (E := 31) (.t rfl) (.t rfl) Tryd.underlying23 ty31 (fun _ => ⟨by omega, hga⟩) rfl rfl) rfl ?_
    first | refine W.q (Ev.lden (.t rfl) ag31 ty31 rfl rfl) rfl ?_ | refine W.q (Ev.ldbn 0 (.t rfl) rfl ag31 ty31 rfl) rfl ?_ | refine W.q (Ev.ldbn 1 (.t rfl) rfl ag31 ty31 rfl) rfl ?_ | refine W.q (Ev.ldbn 2 (.t rfl) rfl ag31 ty31 rfl) rfl ?_ | refine W.q (Ev.ldbn 3 (.t rfl) rfl ag31 ty31 rfl) rfl ?_
    refine W.alloc ty31 rfl rfl ?_
    intro b5
    refine W.q (Ev.assign (.t rfl)) rfl ?_
    first | refine W.stb 0 (.t rfl) (.t rfl) rfl ty31 rfl rfl rfl ?_ | refine W.stb 1 (.t rfl) (.t rfl) rfl ty31 rfl rfl rfl ?_ | refine W.stb 2 (.t rfl) (.t rfl) rfl ty31 rfl rfl rfl ?_ | refine W.stb 3 (.t rfl) (.t rfl) rfl ty31 rfl rfl rfl ?_
    refine W.nil ?_
    refine W.then ?_
    refine W.seq ?_
    refine W.block ?_
    refine W.seq ?_
    refine W.region ?_
    refine W.q (Ev.move (.t rfl)) rfl ?_
    refine W.q (Ev.gti (.t rfl) .k) rfl ?_
    refine W.q (Ev.move (.t rfl)) rfl ?_
    first | refine W.qgT rfl rfl (Ev.fae (.t rfl) fa31_2 rfl) rfl ?_ | refine W.qgT rfl rfl (Ev.fab (.t rfl) fa31_2) rfl ?_ | refine W.qgT rfl rfl (Ev.faa (.t rfl) fa31_2) rfl ?_
    first | refine W.qgT rfl rfl (Ev.lde1 (.c rfl) ag4) rfl ?_ | refine W.qgT rfl rfl (Ev.ldb1 0 (.c rfl) rfl ag4 rfl) rfl ?_ | refine W.qgT rfl rfl (Ev.ldb1 1 (.c rfl) rfl ag4 rfl) rfl ?_ | refine W.qgT rfl rfl (Ev.ldb1 2 (.c rfl) rfl ag4 rfl) rfl ?_ | refine W.qgT rfl rfl (Ev.ldb1 3 (.c rfl) rfl ag4 rfl) rfl ?_
    refine W.q (Ev.and (.t rfl) ⟨_, _, rfl, rfl, by first | (simp; done) | (intro hg_ hp_; simp [hp_]; done) | (simp <;> omega; done) | (simp_all; done) | grind⟩) rfl ?_
    refine W.q (Ev.assign (.t rfl)) rfl ?_
    refine W.nil ?_
    refine W.then ?_
    refine W.is (t := 13) (g := true) (av' := .lit (.bool false)) rfl (congrArg (fun b => AV.lit (.bool b)) (by simp [hdp])) ?_
    refine W.condF (.t rfl) ?_
    refine W.seq ?_
    refine W.region ?_
    refine W.q (Ev.move (.t rfl)) rfl ?_
    refine W.q (Ev.gti (.t rfl) .k) rfl ?_
    refine W.q (Ev.assign (.t rfl)) rfl ?_
    refine W.nil ?_
    refine W.then ?_
    refine W.is (t := 21) (g := true) (av' := .lit (.bool true)) rfl (congrArg (fun b => AV.lit (.bool b)) (by simp; omega)) ?_
    refine W.condT (.t rfl) ?_
    refine W.region ?_
    refine W.call (WStr.c_WriteString b3 p v (Pk.tx (ps.take i)) hp [32, 62, 32] (by simp only [List.length_cons, List.length_nil]; omega)) ⟨(.t rfl), .k, trivial⟩ (List.perm_append_comm (l₁ := [_])) rfl ?_
    rintro _ _ ⟨rfl, v20, rfl⟩
    refine W.nil ?_
    refine W.blk_normal ?_
    refine W.then ?_
    refine W.seq ?_
    refine W.seq ?_
    refine W.region ?_
    first | refine W.q (Ev.fae (.t rfl) fa31_0 rfl) rfl ?_ | refine W.q (Ev.fab (.t rfl) fa31_0) rfl ?_ | refine W.q (Ev.faa (.t rfl) fa31_0) rfl ?_
    first | refine W.q (Ev.lde1 (.t rfl) ag9) rfl ?_ | refine W.q (Ev.ldb1 0 (.t rfl) rfl ag9 rfl) rfl ?_ | refine W.q (Ev.ldb1 1 (.t rfl) rfl ag9 rfl) rfl ?_ | refine W.q (Ev.ldb1 2 (.t rfl) rfl ag9 rfl) rfl ?_ | refine W.q (Ev.ldb1 3 (.t rfl) rfl ag9 rfl) rfl ?_
    refine W.q (Ev.eqs (.t rfl) .k) rfl ?_
    refine W.nil ?_
    refine W.then ?_
    refine W.cond (.t rfl) (fun hc_t27 => ?_) (fun hc_t27 => ?_)
    · have hnm : d.name = [] := beq_iff_eq.1 hc_t27
      refine W.region ?_
      first | refine W.q (Ev.fae (.t rfl) fa31_0 rfl) rfl ?_ | refine W.q (Ev.fab (.t rfl) fa31_0) rfl ?_ | refine W.q (Ev.faa (.t rfl) fa31_0) rfl ?_
      first | refine W.stb 0 (.t rfl) .k rfl ty9 rfl rfl rfl ?_ | refine W.stb 1 (.t rfl) .k rfl ty9 rfl rfl rfl ?_ | refine W.stb 2 (.t rfl) .k rfl ty9 rfl rfl rfl ?_ | refine W.stb 3 (.t rfl) .k rfl ty9 rfl rfl rfl ?_
      refine W.nil ?_
      refine W.then ?_
      refine W.seq ?_
      refine W.region ?_
      first | refine W.q (Ev.fae (.t rfl) fa31_0 rfl) rfl ?_ | refine W.q (Ev.fab (.t rfl) fa31_0) rfl ?_ | refine W.q (Ev.faa (.t rfl) fa31_0) rfl ?_
      first | refine W.q (Ev.lde1 (.t rfl) ag9) rfl ?_ | refine W.q (Ev.ldb1 0 (.t rfl) rfl ag9 rfl) rfl ?_ | refine W.q (Ev.ldb1 1 (.t rfl) rfl ag9 rfl) rfl ?_ | refine W.q (Ev.ldb1 2 (.t rfl) rfl ag9 rfl) rfl ?_ | refine W.q (Ev.ldb1 3 (.t rfl) rfl ag9 rfl) rfl ?_
      refine W.call (WStr.c_WriteString b3 (some ⟨b3, 0, none⟩) v20 ((Pk.tx (ps.take i)) ++ [32, 62, 32]) (.inr rfl) _ (by first | omega | (simp only [List.length_append, List.length_cons, List.length_nil]; omega))) ⟨(.t rfl), (.t rfl), trivial⟩ (.refl _) rfl ?_
      rintro _ _ ⟨rfl, v31, rfl⟩
      refine W.nil ?_
      refine W.then ?_
      refine W.seq ?_
      refine W.region ?_
      first | refine W.q (Ev.fae (.t rfl) fa31_1 rfl) rfl ?_ | refine W.q (Ev.fab (.t rfl) fa31_1) rfl ?_ | refine W.q (Ev.faa (.t rfl) fa31_1) rfl ?_
      first | refine W.q (Ev.lde1 (.t rfl) ag9) rfl ?_ | refine W.q (Ev.ldb1 0 (.t rfl) rfl ag9 rfl) rfl ?_ | refine W.q (Ev.ldb1 1 (.t rfl) rfl ag9 rfl) rfl ?_ | refine W.q (Ev.ldb1 2 (.t rfl) rfl ag9 rfl) rfl ?_ | refine W.q (Ev.ldb1 3 (.t rfl) rfl ag9 rfl) rfl ?_
      refine W.q (Ev.nes (.t rfl) .k) rfl ?_
      refine W.nil ?_
      refine W.then ?_
      refine W.cond (.t rfl) (fun hc_t34 => ?_) (fun hc_t34 => ?_)
      · have hat : d.attr ≠ [] := by simpa using hc_t34
        refine W.region ?_
        first | refine W.q (Ev.fae (.t rfl) fa31_1 rfl) rfl ?_ | refine W.q (Ev.fab (.t rfl) fa31_1) rfl ?_ | refine W.q (Ev.faa (.t rfl) fa31_1) rfl ?_
        first | refine W.q (Ev.lde1 (.t rfl) ag9) rfl ?_ | refine W.q (Ev.ldb1 0 (.t rfl) rfl ag9 rfl) rfl ?_ | refine W.q (Ev.ldb1 1 (.t rfl) rfl ag9 rfl) rfl ?_ | refine W.q (Ev.ldb1 2 (.t rfl) rfl ag9 rfl) rfl ?_ | refine W.q (Ev.ldb1 3 (.t rfl) rfl ag9 rfl) rfl ?_
        refine W.q (Ev.cat .k (.t rfl) (fun _ => by simp only [List.length_cons, List.length_nil]; omega)) rfl ?_
        refine W.q (Ev.cat (.t rfl) .k (fun _ => by simp only [List.length_append, List.length_cons, List.length_nil]; omega)) rfl ?_
        refine W.call (WStr.c_WriteString b3 (some ⟨b3, 0, none⟩) v31 _ (.inr rfl) (([91] ++ d.attr) ++ [93]) (by simp only [List.length_append, List.length_cons, List.length_nil]; omega)) ⟨(.t rfl), (.t rfl), trivial⟩ (.refl _) rfl ?_
        rintro _ _ ⟨rfl, v39, rfl⟩
        refine W.nil ?_
        refine W.blk_normal ?_
        refine W.then ?_
        refine W.region ?_
        first | refine W.q (Ev.add (.t rfl) .k (fun _ => by omega)) rfl ?_ | refine W.q (Ev.addw (.t rfl) .k) rfl ?_
        refine W.q (Ev.move (.t rfl)) rfl ?_
        refine W.nil ?_
        refine W.then ?_
        first
        | (refine W.reach (D := [_]) (i + 1, v39, (some ⟨b3, 0, none⟩)) ⟨rfl, rfl, rfl, rfl, trivial⟩ (List.Perm.append (List.Perm.cons _ (List.Perm.of_eq (congrArg (fun z => [ME.arr v39 5 1 (List.map AV.u8 z)]) ?_))) (List.Perm.refl [_])) ⟨⟨hlt, .inr rfl, .inr ?_⟩, by show ps.length - (i + 1) < ps.length - i; omega⟩
           · dsimp only; rw [htk, Pk.tx_snoc]; simp [Pk.wd, Pk.sq, hsep, hdp, hnm, hat]
           · dsimp only; rw [htk, Pk.tx_snoc]; simp [Pk.wd, hat])
        | (refine W.reach (D := [_]) (i + 1, v31, (some ⟨b3, 0, none⟩)) ⟨rfl, rfl, rfl, rfl, trivial⟩ (List.Perm.append (List.Perm.cons _ (List.Perm.of_eq (congrArg (fun z => [ME.arr v31 5 1 (List.map AV.u8 z)]) ?_))) (List.Perm.refl [_])) ⟨⟨hlt, .inr rfl, .inr ?_⟩, by show ps.length - (i + 1) < ps.length - i; omega⟩
           · dsimp only; rw [htk, Pk.tx_snoc]; simp [Pk.wd, Pk.sq, hsep, hdp, hnm, hat]
           · dsimp only; rw [htk, Pk.tx_snoc]; simp [Pk.wd, hnm, hat])
      · have hat : d.attr = [] := by simpa using hc_t34
        refine W.skip ?_
        refine W.blk_normal ?_
        refine W.then ?_
        refine W.region ?_
        first | refine W.q (Ev.add (.t rfl) .k (fun _ => by omega)) rfl ?_ | refine W.q (Ev.addw (.t rfl) .k) rfl ?_
        refine W.q (Ev.move (.t rfl)) rfl ?_
        refine W.nil ?_
        refine W.then ?_
        first
        | (refine W.reach (D := [_]) (i + 1, v39, (some ⟨b3, 0, none⟩)) ⟨rfl, rfl, rfl, rfl, trivial⟩ (List.Perm.append (List.Perm.cons _ (List.Perm.of_eq (congrArg (fun z => [ME.arr v39 5 1 (List.map AV.u8 z)]) ?_))) (List.Perm.refl [_])) ⟨⟨hlt, .inr rfl, .inr ?_⟩, by show ps.length - (i + 1) < ps.length - i; omega⟩
           · dsimp only; rw [htk, Pk.tx_snoc]; simp [Pk.wd, Pk.sq, hsep, hdp, hnm, hat]
           · dsimp only; rw [htk, Pk.tx_snoc]; simp [Pk.wd, hat])
        | (refine W.reach (D := [_]) (i + 1, v31, (some ⟨b3, 0, none⟩)) ⟨rfl, rfl, rfl, rfl, trivial⟩ (List.Perm.append (List.Perm.cons _ (List.Perm.of_eq (congrArg (fun z => [ME.arr v31 5 1 (List.map AV.u8 z)]) ?_))) (List.Perm.refl [_])) ⟨⟨hlt, .inr rfl, .inr ?_⟩, by show ps.length - (i + 1) < ps.length - i; omega⟩
           · dsimp only; rw [htk, Pk.tx_snoc]; simp [Pk.wd, Pk.sq, hsep, hdp, hnm, hat]
           · dsimp only; rw [htk, Pk.tx_snoc]; simp [Pk.wd, hnm, hat])
    · have hnm : d.name ≠ [] := by simpa using hc_t27
      refine W.skip ?_
      refine W.then ?_
      refine W.seq ?_
      refine W.region ?_
      first | refine W.q (Ev.fae (.t rfl) fa31_0 rfl) rfl ?_ | refine W.q (Ev.fab (.t rfl) fa31_0) rfl ?_ | refine W.q (Ev.faa (.t rfl) fa31_0) rfl ?_
      first | refine W.q (Ev.lde1 (.t rfl) ag9) rfl ?_ | refine W.q (Ev.ldb1 0 (.t rfl) rfl ag9 rfl) rfl ?_ | refine W.q (Ev.ldb1 1 (.t rfl) rfl ag9 rfl) rfl ?_ | refine W.q (Ev.ldb1 2 (.t rfl) rfl ag9 rfl) rfl ?_ | refine W.q (Ev.ldb1 3 (.t rfl) rfl ag9 rfl) rfl ?_
      refine W.call (WStr.c_WriteString b3 (some ⟨b3, 0, none⟩) v20 ((Pk.tx (ps.take i)) ++ [32, 62, 32]) (.inr rfl) _ (by first | omega | (simp only [List.length_append, List.length_cons, List.length_nil]; omega))) ⟨(.t rfl), (.t rfl), trivial⟩ (.refl _) rfl ?_
      rintro _ _ ⟨rfl, v31, rfl⟩
      refine W.nil ?_
      refine W.then ?_
      refine W.seq ?_
      refine W.region ?_
      first | refine W.q (Ev.fae (.t rfl) fa31_1 rfl) rfl ?_ | refine W.q (Ev.fab (.t rfl) fa31_1) rfl ?_ | refine W.q (Ev.faa (.t rfl) fa31_1) rfl ?_
      first | refine W.q (Ev.lde1 (.t rfl) ag9) rfl ?_ | refine W.q (Ev.ldb1 0 (.t rfl) rfl ag9 rfl) rfl ?_ | refine W.q (Ev.ldb1 1 (.t rfl) rfl ag9 rfl) rfl ?_ | refine W.q (Ev.ldb1 2 (.t rfl) rfl ag9 rfl) rfl ?_ | refine W.q (Ev.ldb1 3 (.t rfl) rfl ag9 rfl) rfl ?_
      refine W.q (Ev.nes (.t rfl) .k) rfl ?_
      refine W.nil ?_
      refine W.then ?_
      refine W.cond (.t rfl) (fun hc_t34 => ?_) (fun hc_t34 => ?_)
      · have hat : d.attr ≠ [] := by simpa using hc_t34
        refine W.region ?_
        first | refine W.q (Ev.fae (.t rfl) fa31_1 rfl) rfl ?_ | refine W.q (Ev.fab (.t rfl) fa31_1) rfl ?_ | refine W.q (Ev.faa (.t rfl) fa31_1) rfl ?_
        first | refine W.q (Ev.lde1 (.t rfl) ag9) rfl ?_ | refine W.q (Ev.ldb1 0 (.t rfl) rfl ag9 rfl) rfl ?_ | refine W.q (Ev.ldb1 1 (.t rfl) rfl ag9 rfl) rfl ?_ | refine W.q (Ev.ldb1 2 (.t rfl) rfl ag9 rfl) rfl ?_ | refine W.q (Ev.ldb1 3 (.t rfl) rfl ag9 rfl) rfl ?_
        refine W.q (Ev.cat .k (.t rfl) (fun _ => by simp only [List.length_cons, List.length_nil]; omega)) rfl ?_
        refine W.q (Ev.cat (.t rfl) .k (fun _ => by simp only [List.length_append, List.length_cons, List.length_nil]; omega)) rfl ?_
        refine W.call (WStr.c_WriteString b3 (some ⟨b3, 0, none⟩) v31 _ (.inr rfl) (([91] ++ d.attr) ++ [93]) (by simp only [List.length_append, List.length_cons, List.length_nil]; omega)) ⟨(.t rfl), (.t rfl), trivial⟩ (.refl _) rfl ?_
        rintro _ _ ⟨rfl, v39, rfl⟩
        refine W.nil ?_
        refine W.blk_normal ?_
        refine W.then ?_
        refine W.region ?_
        first | refine W.q (Ev.add (.t rfl) .k (fun _ => by omega)) rfl ?_ | refine W.q (Ev.addw (.t rfl) .k) rfl ?_
        refine W.q (Ev.move (.t rfl)) rfl ?_
        refine W.nil ?_
        refine W.then ?_
        first
        | (refine W.reach (D := [_]) (i + 1, v39, (some ⟨b3, 0, none⟩)) ⟨rfl, rfl, rfl, rfl, trivial⟩ (List.Perm.append (List.Perm.cons _ (List.Perm.of_eq (congrArg (fun z => [ME.arr v39 5 1 (List.map AV.u8 z)]) ?_))) (List.Perm.refl [_])) ⟨⟨hlt, .inr rfl, .inr ?_⟩, by show ps.length - (i + 1) < ps.length - i; omega⟩
           · dsimp only; rw [htk, Pk.tx_snoc]; simp [Pk.wd, Pk.sq, hsep, hdp, hnm, hat]
           · dsimp only; rw [htk, Pk.tx_snoc]; simp [Pk.wd, hat])
        | (refine W.reach (D := [_]) (i + 1, v31, (some ⟨b3, 0, none⟩)) ⟨rfl, rfl, rfl, rfl, trivial⟩ (List.Perm.append (List.Perm.cons _ (List.Perm.of_eq (congrArg (fun z => [ME.arr v31 5 1 (List.map AV.u8 z)]) ?_))) (List.Perm.refl [_])) ⟨⟨hlt, .inr rfl, .inr ?_⟩, by show ps.length - (i + 1) < ps.length - i; omega⟩
           · dsimp only; rw [htk, Pk.tx_snoc]; simp [Pk.wd, Pk.sq, hsep, hdp, hnm, hat]
           · dsimp only; rw [htk, Pk.tx_snoc]; simp [Pk.wd, hnm, hat])
      · have hat : d.attr = [] := by simpa using hc_t34
        refine W.skip ?_
        refine W.blk_normal ?_
        refine W.then ?_
        refine W.region ?_
        first | refine W.q (Ev.add (.t rfl) .k (fun _ => by omega)) rfl ?_ | refine W.q (Ev.addw (.t rfl) .k) rfl ?_
        refine W.q (Ev.move (.t rfl)) rfl ?_
        refine W.nil ?_
        refine W.then ?_
        first
        | (refine W.reach (D := [_]) (i + 1, v39, (some ⟨b3, 0, none⟩)) ⟨rfl, rfl, rfl, rfl, trivial⟩ (List.Perm.append (List.Perm.cons _ (List.Perm.of_eq (congrArg (fun z => [ME.arr v39 5 1 (List.map AV.u8 z)]) ?_))) (List.Perm.refl [_])) ⟨⟨hlt, .inr rfl, .inr ?_⟩, by show ps.length - (i + 1) < ps.length - i; omega⟩
           · dsimp only; rw [htk, Pk.tx_snoc]; simp [Pk.wd, Pk.sq, hsep, hdp, hnm, hat]
           · dsimp only; rw [htk, Pk.tx_snoc]; simp [Pk.wd, hat])
        | (refine W.reach (D := [_]) (i + 1, v31, (some ⟨b3, 0, none⟩)) ⟨rfl, rfl, rfl, rfl, trivial⟩ (List.Perm.append (List.Perm.cons _ (List.Perm.of_eq (congrArg (fun z => [ME.arr v31 5 1 (List.map AV.u8 z)]) ?_))) (List.Perm.refl [_])) ⟨⟨hlt, .inr rfl, .inr ?_⟩, by show ps.length - (i + 1) < ps.length - i; omega⟩
           · dsimp only; rw [htk, Pk.tx_snoc]; simp [Pk.wd, Pk.sq, hsep, hdp, hnm, hat]
           · dsimp only; rw [htk, Pk.tx_snoc]; simp [Pk.wd, hnm, hat])
  · have hga := getD_mapG kav Pk.dfl ps i hlt
    have hdm := getD_memG Pk.dfl ps i hlt
    have htk := take_getDG Pk.dfl ps i hlt
    generalize ps.getD i Pk.dfl = d at hga hdm htk
    have hdl := (hd d hdm).len
    have hxl := Pk.tx_len (ps.take i) (fun q hq => hd q (List.mem_of_mem_take hq))
    rw [List.length_take] at hxl
    have hsep : ps.take i = [] := by rw [hi0]; rfl
    have hdp : True := trivial
    refine W.seq ?_
    refine W.region ?_
    refine W.q (Ev.lti (.t rfl) (.t rfl)) rfl ?_
    refine W.nil ?_
    refine W.then ?_
    refine W.seq ?_
    refine W.is (t := 9) (g := true) (av' := .lit (.bool true)) rfl (congrArg (fun b => AV.lit (.bool b)) (by exact decide_eq_true (by omega))) ?_
    refine W.condT (.t rfl) ?_
    refine W.skip ?_
    refine W.then ?_
    refine W.seq ?_
    refine W.block ?_
    refine W.seq ?_
    refine W.region ?_
    refine W.q (Ev.move (.t rfl)) rfl ?_
    refine W.q (Ev.at (E := 31) (.t rfl) (.t rfl) Tryd.underlying23 ty31 (fun _ => ⟨by omega, hga⟩) rfl rfl) rfl ?_
    first | refine W.q (Ev.lden (.t rfl) ag31 ty31 rfl rfl) rfl ?_ | refine W.q (Ev.ldbn 0 (.t rfl) rfl ag31 ty31 rfl) rfl ?_ | refine W.q (Ev.ldbn 1 (.t rfl) rfl ag31 ty31 rfl) rfl ?_ | refine W.q (Ev.ldbn 2 (.t rfl) rfl ag31 ty31 rfl) rfl ?_ | refine W.q (Ev.ldbn 3 (.t rfl) rfl ag31 ty31 rfl) rfl ?_
    refine W.alloc ty31 rfl rfl ?_
    intro b5
    refine W.q (Ev.assign (.t rfl)) rfl ?_
    first | refine W.stb 0 (.t rfl) (.t rfl) rfl ty31 rfl rfl rfl ?_ | refine W.stb 1 (.t rfl) (.t rfl) rfl ty31 rfl rfl rfl ?_ | refine W.stb 2 (.t rfl) (.t rfl) rfl ty31 rfl rfl rfl ?_ | refine W.stb 3 (.t rfl) (.t rfl) rfl ty31 rfl rfl rfl ?_
    refine W.nil ?_
    refine W.then ?_
    refine W.seq ?_
    refine W.block ?_
    refine W.seq ?_
    refine W.region ?_
    refine W.q (Ev.move (.t rfl)) rfl ?_
    refine W.q (Ev.gti (.t rfl) .k) rfl ?_
    refine W.q (Ev.move (.t rfl)) rfl ?_
    first | refine W.qgT rfl rfl (Ev.fae (.t rfl) fa31_2 rfl) rfl ?_ | refine W.qgT rfl rfl (Ev.fab (.t rfl) fa31_2) rfl ?_ | refine W.qgT rfl rfl (Ev.faa (.t rfl) fa31_2) rfl ?_
    first | refine W.qgT rfl rfl (Ev.lde1 (.c rfl) ag4) rfl ?_ | refine W.qgT rfl rfl (Ev.ldb1 0 (.c rfl) rfl ag4 rfl) rfl ?_ | refine W.qgT rfl rfl (Ev.ldb1 1 (.c rfl) rfl ag4 rfl) rfl ?_ | refine W.qgT rfl rfl (Ev.ldb1 2 (.c rfl) rfl ag4 rfl) rfl ?_ | refine W.qgT rfl rfl (Ev.ldb1 3 (.c rfl) rfl ag4 rfl) rfl ?_
    refine W.q (Ev.and (.t rfl) ⟨_, _, rfl, rfl, by first | (simp; done) | (intro hg_ hp_; simp [hp_]; done) | (simp <;> omega; done) | (simp_all; done) | grind⟩) rfl ?_
    refine W.q (Ev.assign (.t rfl)) rfl ?_
    refine W.nil ?_
    refine W.then ?_
    refine W.is (t := 13) (g := true) (av' := .lit (.bool false)) rfl (congrArg (fun b => AV.lit (.bool b)) (by simp [hi0])) ?_
    refine W.condF (.t rfl) ?_
    refine W.seq ?_
    refine W.region ?_
    refine W.q (Ev.move (.t rfl)) rfl ?_
    refine W.q (Ev.gti (.t rfl) .k) rfl ?_
    refine W.q (Ev.assign (.t rfl)) rfl ?_
    refine W.nil ?_
    refine W.then ?_
    refine W.is (t := 21) (g := true) (av' := .lit (.bool false)) rfl (congrArg (fun b => AV.lit (.bool b)) (by simp [hi0])) ?_
    refine W.condF (.t rfl) ?_
    refine W.skip ?_
    refine W.blk_normal ?_
    refine W.then ?_
    refine W.seq ?_
    refine W.seq ?_
    refine W.region ?_
    first | refine W.q (Ev.fae (.t rfl) fa31_0 rfl) rfl ?_ | refine W.q (Ev.fab (.t rfl) fa31_0) rfl ?_ | refine W.q (Ev.faa (.t rfl) fa31_0) rfl ?_
    first | refine W.q (Ev.lde1 (.t rfl) ag9) rfl ?_ | refine W.q (Ev.ldb1 0 (.t rfl) rfl ag9 rfl) rfl ?_ | refine W.q (Ev.ldb1 1 (.t rfl) rfl ag9 rfl) rfl ?_ | refine W.q (Ev.ldb1 2 (.t rfl) rfl ag9 rfl) rfl ?_ | refine W.q (Ev.ldb1 3 (.t rfl) rfl ag9 rfl) rfl ?_
    refine W.q (Ev.eqs (.t rfl) .k) rfl ?_
    refine W.nil ?_
    refine W.then ?_
    refine W.cond (.t rfl) (fun hc_t27 => ?_) (fun hc_t27 => ?_)
    · have hnm : d.name = [] := beq_iff_eq.1 hc_t27
      refine W.region ?_
      first | refine W.q (Ev.fae (.t rfl) fa31_0 rfl) rfl ?_ | refine W.q (Ev.fab (.t rfl) fa31_0) rfl ?_ | refine W.q (Ev.faa (.t rfl) fa31_0) rfl ?_
      first | refine W.stb 0 (.t rfl) .k rfl ty9 rfl rfl rfl ?_ | refine W.stb 1 (.t rfl) .k rfl ty9 rfl rfl rfl ?_ | refine W.stb 2 (.t rfl) .k rfl ty9 rfl rfl rfl ?_ | refine W.stb 3 (.t rfl) .k rfl ty9 rfl rfl rfl ?_
      refine W.nil ?_
      refine W.then ?_
      refine W.seq ?_
      refine W.region ?_
      first | refine W.q (Ev.fae (.t rfl) fa31_0 rfl) rfl ?_ | refine W.q (Ev.fab (.t rfl) fa31_0) rfl ?_ | refine W.q (Ev.faa (.t rfl) fa31_0) rfl ?_
      first | refine W.q (Ev.lde1 (.t rfl) ag9) rfl ?_ | refine W.q (Ev.ldb1 0 (.t rfl) rfl ag9 rfl) rfl ?_ | refine W.q (Ev.ldb1 1 (.t rfl) rfl ag9 rfl) rfl ?_ | refine W.q (Ev.ldb1 2 (.t rfl) rfl ag9 rfl) rfl ?_ | refine W.q (Ev.ldb1 3 (.t rfl) rfl ag9 rfl) rfl ?_
      refine W.call (WStr.c_WriteString b3 p v (Pk.tx (ps.take i)) hp _ (by first | omega | (simp only [List.length_append, List.length_cons, List.length_nil]; omega))) ⟨(.t rfl), (.t rfl), trivial⟩ (List.perm_append_comm (l₁ := [_])) rfl ?_
      rintro _ _ ⟨rfl, v31, rfl⟩
      refine W.nil ?_
      refine W.then ?_
      refine W.seq ?_
      refine W.region ?_
      first | refine W.q (Ev.fae (.t rfl) fa31_1 rfl) rfl ?_ | refine W.q (Ev.fab (.t rfl) fa31_1) rfl ?_ | refine W.q (Ev.faa (.t rfl) fa31_1) rfl ?_
      first | refine W.q (Ev.lde1 (.t rfl) ag9) rfl ?_ | refine W.q (Ev.ldb1 0 (.t rfl) rfl ag9 rfl) rfl ?_ | refine W.q (Ev.ldb1 1 (.t rfl) rfl ag9 rfl) rfl ?_ | refine W.q (Ev.ldb1 2 (.t rfl) rfl ag9 rfl) rfl ?_ | refine W.q (Ev.ldb1 3 (.t rfl) rfl ag9 rfl) rfl ?_
      refine W.q (Ev.nes (.t rfl) .k) rfl ?_
      refine W.nil ?_
      refine W.then ?_
      refine W.cond (.t rfl) (fun hc_t34 => ?_) (fun hc_t34 => ?_)
      · have hat : d.attr ≠ [] := by simpa using hc_t34
        refine W.region ?_
        first | refine W.q (Ev.fae (.t rfl) fa31_1 rfl) rfl ?_ | refine W.q (Ev.fab (.t rfl) fa31_1) rfl ?_ | refine W.q (Ev.faa (.t rfl) fa31_1) rfl ?_
        first | refine W.q (Ev.lde1 (.t rfl) ag9) rfl ?_ | refine W.q (Ev.ldb1 0 (.t rfl) rfl ag9 rfl) rfl ?_ | refine W.q (Ev.ldb1 1 (.t rfl) rfl ag9 rfl) rfl ?_ | refine W.q (Ev.ldb1 2 (.t rfl) rfl ag9 rfl) rfl ?_ | refine W.q (Ev.ldb1 3 (.t rfl) rfl ag9 rfl) rfl ?_
        refine W.q (Ev.cat .k (.t rfl) (fun _ => by simp only [List.length_cons, List.length_nil]; omega)) rfl ?_
        refine W.q (Ev.cat (.t rfl) .k (fun _ => by simp only [List.length_append, List.length_cons, List.length_nil]; omega)) rfl ?_
        refine W.call (WStr.c_WriteString b3 (some ⟨b3, 0, none⟩) v31 _ (.inr rfl) (([91] ++ d.attr) ++ [93]) (by simp only [List.length_append, List.length_cons, List.length_nil]; omega)) ⟨(.t rfl), (.t rfl), trivial⟩ (.refl _) rfl ?_
        rintro _ _ ⟨rfl, v39, rfl⟩
        refine W.nil ?_
        refine W.blk_normal ?_
        refine W.then ?_
        refine W.region ?_
        first | refine W.q (Ev.add (.t rfl) .k (fun _ => by omega)) rfl ?_ | refine W.q (Ev.addw (.t rfl) .k) rfl ?_
        refine W.q (Ev.move (.t rfl)) rfl ?_
        refine W.nil ?_
        refine W.then ?_
        first
        | (refine W.reach (D := [_]) (i + 1, v39, (some ⟨b3, 0, none⟩)) ⟨rfl, rfl, rfl, rfl, trivial⟩ (List.Perm.append (List.Perm.cons _ (List.Perm.of_eq (congrArg (fun z => [ME.arr v39 5 1 (List.map AV.u8 z)]) ?_))) (List.Perm.refl [_])) ⟨⟨hlt, .inr rfl, .inr ?_⟩, by show ps.length - (i + 1) < ps.length - i; omega⟩
           · dsimp only; rw [htk, Pk.tx_snoc]; simp [Pk.wd, Pk.sq, hsep, hdp, hnm, hat]
           · dsimp only; rw [htk, Pk.tx_snoc]; simp [Pk.wd, hat])
        | (refine W.reach (D := [_]) (i + 1, v31, (some ⟨b3, 0, none⟩)) ⟨rfl, rfl, rfl, rfl, trivial⟩ (List.Perm.append (List.Perm.cons _ (List.Perm.of_eq (congrArg (fun z => [ME.arr v31 5 1 (List.map AV.u8 z)]) ?_))) (List.Perm.refl [_])) ⟨⟨hlt, .inr rfl, .inr ?_⟩, by show ps.length - (i + 1) < ps.length - i; omega⟩
           · dsimp only; rw [htk, Pk.tx_snoc]; simp [Pk.wd, Pk.sq, hsep, hdp, hnm, hat]
           · dsimp only; rw [htk, Pk.tx_snoc]; simp [Pk.wd, hnm, hat])
      · have hat : d.attr = [] := by simpa using hc_t34
        refine W.skip ?_
        refine W.blk_normal ?_
        refine W.then ?_
        refine W.region ?_
        first | refine W.q (Ev.add (.t rfl) .k (fun _ => by omega)) rfl ?_ | refine W.q (Ev.addw (.t rfl) .k) rfl ?_
        refine W.q (Ev.move (.t rfl)) rfl ?_
        refine W.nil ?_
        refine W.then ?_
        first
        | (refine W.reach (D := [_]) (i + 1, v39, (some ⟨b3, 0, none⟩)) ⟨rfl, rfl, rfl, rfl, trivial⟩ (List.Perm.append (List.Perm.cons _ (List.Perm.of_eq (congrArg (fun z => [ME.arr v39 5 1 (List.map AV.u8 z)]) ?_))) (List.Perm.refl [_])) ⟨⟨hlt, .inr rfl, .inr ?_⟩, by show ps.length - (i + 1) < ps.length - i; omega⟩
           · dsimp only; rw [htk, Pk.tx_snoc]; simp [Pk.wd, Pk.sq, hsep, hdp, hnm, hat]
           · dsimp only; rw [htk, Pk.tx_snoc]; simp [Pk.wd, hat])
        | (refine W.reach (D := [_]) (i + 1, v31, (some ⟨b3, 0, none⟩)) ⟨rfl, rfl, rfl, rfl, trivial⟩ (List.Perm.append (List.Perm.cons _ (List.Perm.of_eq (congrArg (fun z => [ME.arr v31 5 1 (List.map AV.u8 z)]) ?_))) (List.Perm.refl [_])) ⟨⟨hlt, .inr rfl, .inr ?_⟩, by show ps.length - (i + 1) < ps.length - i; omega⟩
           · dsimp only; rw [htk, Pk.tx_snoc]; simp [Pk.wd, Pk.sq, hsep, hdp, hnm, hat]
           · dsimp only; rw [htk, Pk.tx_snoc]; simp [Pk.wd, hnm, hat])
    · have hnm : d.name ≠ [] := by simpa using hc_t27
      refine W.skip ?_
      refine W.then ?_
      refine W.seq ?_
      refine W.region ?_
      first | refine W.q (Ev.fae (.t rfl) fa31_0 rfl) rfl ?_ | refine W.q (Ev.fab (.t rfl) fa31_0) rfl ?_ | refine W.q (Ev.faa (.t rfl) fa31_0) rfl ?_
      first | refine W.q (Ev.lde1 (.t rfl) ag9) rfl ?_ | refine W.q (Ev.ldb1 0 (.t rfl) rfl ag9 rfl) rfl ?_ | refine W.q (Ev.ldb1 1 (.t rfl) rfl ag9 rfl) rfl ?_ | refine W.q (Ev.ldb1 2 (.t rfl) rfl ag9 rfl) rfl ?_ | refine W.q (Ev.ldb1 3 (.t rfl) rfl ag9 rfl) rfl ?_
      refine W.call (WStr.c_WriteString b3 p v (Pk.tx (ps.take i)) hp _ (by first | omega | (simp only [List.length_append, List.length_cons, List.length_nil]; omega))) ⟨(.t rfl), (.t rfl), trivial⟩ (List.perm_append_comm (l₁ := [_])) rfl ?_
      rintro _ _ ⟨rfl, v31, rfl⟩
      refine W.nil ?_
      refine W.then ?_
      refine W.seq ?_
      refine W.region ?_
      first | refine W.q (Ev.fae (.t rfl) fa31_1 rfl) rfl ?_ | refine W.q (Ev.fab (.t rfl) fa31_1) rfl ?_ | refine W.q (Ev.faa (.t rfl) fa31_1) rfl ?_
      first | refine W.q (Ev.lde1 (.t rfl) ag9) rfl ?_ | refine W.q (Ev.ldb1 0 (.t rfl) rfl ag9 rfl) rfl ?_ | refine W.q (Ev.ldb1 1 (.t rfl) rfl ag9 rfl) rfl ?_ | refine W.q (Ev.ldb1 2 (.t rfl) rfl ag9 rfl) rfl ?_ | refine W.q (Ev.ldb1 3 (.t rfl) rfl ag9 rfl) rfl ?_
      refine W.q (Ev.nes (.t rfl) .k) rfl ?_
      refine W.nil ?_
      refine W.then ?_
      refine W.cond (.t rfl) (fun hc_t34 => ?_) (fun hc_t34 => ?_)
      · have hat : d.attr ≠ [] := by simpa using hc_t34
        refine W.region ?_
        first | refine W.q (Ev.fae (.t rfl) fa31_1 rfl) rfl ?_ | refine W.q (Ev.fab (.t rfl) fa31_1) rfl ?_ | refine W.q (Ev.faa (.t rfl) fa31_1) rfl ?_
        first | refine W.q (Ev.lde1 (.t rfl) ag9) rfl ?_ | refine W.q (Ev.ldb1 0 (.t rfl) rfl ag9 rfl) rfl ?_ | refine W.q (Ev.ldb1 1 (.t rfl) rfl ag9 rfl) rfl ?_ | refine W.q (Ev.ldb1 2 (.t rfl) rfl ag9 rfl) rfl ?_ | refine W.q (Ev.ldb1 3 (.t rfl) rfl ag9 rfl) rfl ?_
        refine W.q (Ev.cat .k (.t rfl) (fun _ => by simp only [List.length_cons, List.length_nil]; omega)) rfl ?_
        refine W.q (Ev.cat (.t rfl) .k (fun _ => by simp only [List.length_append, List.length_cons, List.length_nil]; omega)) rfl ?_
        refine W.call (WStr.c_WriteString b3 (some ⟨b3, 0, none⟩) v31 _ (.inr rfl) (([91] ++ d.attr) ++ [93]) (by simp only [List.length_append, List.length_cons, List.length_nil]; omega)) ⟨(.t rfl), (.t rfl), trivial⟩ (.refl _) rfl ?_
        rintro _ _ ⟨rfl, v39, rfl⟩
        refine W.nil ?_
        refine W.blk_normal ?_
        refine W.then ?_
        refine W.region ?_
        first | refine W.q (Ev.add (.t rfl) .k (fun _ => by omega)) rfl ?_ | refine W.q (Ev.addw (.t rfl) .k) rfl ?_
        refine W.q (Ev.move (.t rfl)) rfl ?_
        refine W.nil ?_
        refine W.then ?_
        first
        | (refine W.reach (D := [_]) (i + 1, v39, (some ⟨b3, 0, none⟩)) ⟨rfl, rfl, rfl, rfl, trivial⟩ (List.Perm.append (List.Perm.cons _ (List.Perm.of_eq (congrArg (fun z => [ME.arr v39 5 1 (List.map AV.u8 z)]) ?_))) (List.Perm.refl [_])) ⟨⟨hlt, .inr rfl, .inr ?_⟩, by show ps.length - (i + 1) < ps.length - i; omega⟩
           · dsimp only; rw [htk, Pk.tx_snoc]; simp [Pk.wd, Pk.sq, hsep, hdp, hnm, hat]
           · dsimp only; rw [htk, Pk.tx_snoc]; simp [Pk.wd, hat])
        | (refine W.reach (D := [_]) (i + 1, v31, (some ⟨b3, 0, none⟩)) ⟨rfl, rfl, rfl, rfl, trivial⟩ (List.Perm.append (List.Perm.cons _ (List.Perm.of_eq (congrArg (fun z => [ME.arr v31 5 1 (List.map AV.u8 z)]) ?_))) (List.Perm.refl [_])) ⟨⟨hlt, .inr rfl, .inr ?_⟩, by show ps.length - (i + 1) < ps.length - i; omega⟩
           · dsimp only; rw [htk, Pk.tx_snoc]; simp [Pk.wd, Pk.sq, hsep, hdp, hnm, hat]
           · dsimp only; rw [htk, Pk.tx_snoc]; simp [Pk.wd, hnm, hat])
      · have hat : d.attr = [] := by simpa using hc_t34
        refine W.skip ?_
        refine W.blk_normal ?_
        refine W.then ?_
        refine W.region ?_
        first | refine W.q (Ev.add (.t rfl) .k (fun _ => by omega)) rfl ?_ | refine W.q (Ev.addw (.t rfl) .k) rfl ?_
        refine W.q (Ev.move (.t rfl)) rfl ?_
        refine W.nil ?_
        refine W.then ?_
        first
        | (refine W.reach (D := [_]) (i + 1, v39, (some ⟨b3, 0, none⟩)) ⟨rfl, rfl, rfl, rfl, trivial⟩ (List.Perm.append (List.Perm.cons _ (List.Perm.of_eq (congrArg (fun z => [ME.arr v39 5 1 (List.map AV.u8 z)]) ?_))) (List.Perm.refl [_])) ⟨⟨hlt, .inr rfl, .inr ?_⟩, by show ps.length - (i + 1) < ps.length - i; omega⟩
           · dsimp only; rw [htk, Pk.tx_snoc]; simp [Pk.wd, Pk.sq, hsep, hdp, hnm, hat]
           · dsimp only; rw [htk, Pk.tx_snoc]; simp [Pk.wd, hat])
        | (refine W.reach (D := [_]) (i + 1, v31, (some ⟨b3, 0, none⟩)) ⟨rfl, rfl, rfl, rfl, trivial⟩ (List.Perm.append (List.Perm.cons _ (List.Perm.of_eq (congrArg (fun z => [ME.arr v31 5 1 (List.map AV.u8 z)]) ?_))) (List.Perm.refl [_])) ⟨⟨hlt, .inr rfl, .inr ?_⟩, by show ps.length - (i + 1) < ps.length - i; omega⟩
           · dsimp only; rw [htk, Pk.tx_snoc]; simp [Pk.wd, Pk.sq, hsep, hdp, hnm, hat]
           · dsimp only; rw [htk, Pk.tx_snoc]; simp [Pk.wd, hnm, hat])
  · subst hend
    rw [List.take_length] at hv ⊢
    have hxl := Pk.tx_len ps hd
    refine W.seq ?_
    refine W.region ?_
    refine W.q (Ev.lti (.t rfl) (.t rfl)) rfl ?_
    refine W.nil ?_
    refine W.then ?_
    refine W.seq ?_
    refine W.is (t := 9) (g := true) (av' := .lit (.bool false)) rfl (congrArg (fun b => AV.lit (.bool b)) (by exact decide_eq_false (by omega))) ?_
    refine W.condF (.t rfl) ?_
    refine W.exit ?_
    refine W.then_exit ?_
    refine W.then_exit ?_
    refine W.blk_hit ?_
    refine W.then ?_
    refine W.seq ?_
    refine W.region ?_
    refine W.call (WBld.c_String b3 p v (Pk.tx ps) hp (by omega) hv) ⟨(.t rfl), trivial⟩ (.refl _) rfl ?_
    rintro _ _ ⟨rfl, rfl⟩
    refine W.q (Ev.assign (.t rfl)) rfl ?_
    refine W.nil ?_
    refine W.then ?_
    refine W.ret ?_
    refine W.retn (M' := []) (D := _) (rs := [.tmp 2]) (avs := [_]) Tryd.results9 ⟨rfl, trivial⟩ rfl (.refl _) ?_
    exact ⟨rfl, rfl⟩

end WTextB

end Go.Proofs.YtiflifblkpjgpaaDoor
end

section
set_option linter.unusedVariables false
set_option linter.unusedSimpArgs false
set_option maxRecDepth 100000
namespace Go.Proofs.YtiflifblkpjgpaaDoor
open Go.Vl

namespace WTextT

theorem c_Text (ps : List Pk) (hd : ∀ p ∈ ps, Pk.drn p) (hp0 : 0 < ps.length) (hp1 : ps.length ≤ 10) : FnP Tryd.prog 5 [.sl 3 (ps.map kav)] (.tup [.str (Pk.tx ps), .int 0]) :=  by
  refine FnC.mk Tryd.func5 (by kernel_rfl) rfl Tryd.ntmps5 rfl (fun w0 F => ?_)
  refine W.seq ?_
  refine W.region ?_
  refine W.q (Ev.assign .k) rfl ?_
  refine W.q (Ev.assign .k) rfl ?_
  refine W.nil ?_
  refine W.then ?_
  refine W.seq ?_
  refine W.seq ?_
  refine W.region ?_
  refine W.q (Ev.move (.t rfl)) rfl ?_
  refine W.callp (WCheckB.c_check ps hp0 hp1 (fun p hp => WPicksB.ok_drn (hd p hp))) ⟨(.t rfl), trivial⟩ rfl ?_
  refine W.q (Ev.assign (.t rfl)) rfl ?_
  refine W.nil ?_
  refine W.then ?_
  refine W.seq ?_
  refine W.region ?_
  refine W.q (Ev.move (.t rfl)) rfl ?_
  refine W.q (Ev.nei (.t rfl) .k) rfl ?_
  refine W.nil ?_
  refine W.then ?_
  refine W.is (t := 8) (g := true) (av' := .lit (.bool false)) rfl (congrArg (fun b => AV.lit (.bool b)) (by rfl)) ?_
  refine W.condF (.t rfl) ?_
  refine W.skip ?_
  refine W.then ?_
  refine W.seq ?_
  refine W.region ?_
  refine W.q (Ev.move (.t rfl)) rfl ?_
  refine W.callp (WTextB.c_text ps hd hp1) ⟨(.t rfl), trivial⟩ rfl ?_
  refine W.q (Ev.assign (.t rfl)) rfl ?_
  refine W.q (Ev.assign .k) rfl ?_
  refine W.nil ?_
  refine W.then ?_
  refine W.ret ?_
  refine W.retn (M' := []) (rs := [.tmp 2, .tmp 3]) (avs := [_, _]) Tryd.results5 ⟨rfl, rfl, trivial⟩ rfl (.refl _) ?_
  exact ⟨rfl, rfl⟩

end WTextT

end Go.Proofs.YtiflifblkpjgpaaDoor
end

section
set_option linter.unusedVariables false
set_option linter.unusedSimpArgs false
namespace Go.Vl
open Go.RowKit (Below)
theorem Fr.of_below {w w' : World} (h : Below w.heap.size w w') : Fr w [] w' [] :=
  ⟨h.os, h.tape, h.output, h.size, fun k hk _ => ⟨h.block k hk, by simp⟩⟩
theorem FnP.of_below {P : Program} {f : FuncId} {args : List AV} {r : AV} (hc : CallOk P f)
    (h : ∀ (w : World) (F : List Nat) (vs : List Value), RepT w F args vs → Calls P f vs.toArray w fun e w' => ∃ v, e = .returned v ∧ Rep w' F r v ∧ Below w.heap.size w w') : FnP P f args r :=
  ⟨hc, fun w F vs hF hm ha => (h w F vs (by simpa [bl] using ha)).mono fun e w' ⟨v, he, hr, hb⟩ => ⟨v, r, [], he, ⟨rfl, rfl⟩, MOk.nil w' F, by simpa [bl] using hr, by simpa [bl] using Fr.of_below hb⟩⟩
theorem CallOk.of {P : Program} {f : FuncId} {fn : Func} (h1 : P.funcs[f]? = some fn) (h2 : (fn.name == "runtime.NumGoroutine") = false) (h3 : fn.body.isNone = false) : CallOk P f := ⟨fn, h1, h2, h3⟩
theorem RepE.strs {w : World} {N : List Nat} {l : List (List UInt8)} {row : List Value} (h : RepE w N 1 (l.map AV.str) row) (j : Nat) (x : List UInt8) (hj : l[j]? = some x) : row[j]? = some (.string ⟨x.toArray⟩) := by
  obtain ⟨h1, h2⟩ := RepE.get (i := j) (e := AV.str x) h (by rw [List.getElem?_map, hj]; rfl)
  simp only [RepC, Nat.mul_one] at h2
  have h3 : (List.take 1 (List.drop j row)) = [Value.string ⟨x.toArray⟩] := h2
  have : (List.take 1 (List.drop j row))[0]? = row[j]? := by simp [List.getElem?_take, List.getElem?_drop]
  rw [← this, h3]; rfl
end Go.Vl
end

section
namespace Go.Proofs
open Go.Shelf
def Tryd.lays104_ren : Go.Shelf.Ren := ⟨fun | 104 => 12 | 211 => 21 | 207 => 30 | n => n, fun | 9 => 9 | 4 => 4 | 24 => 42 | 3 => 3 | n => n, fun | n => n⟩
theorem Tryd.lays104 : Go.Proofs.Lays.n104 Tryd.prog Tryd.lays104_ren := {
  mixed := by kernel_rfl
  f104 := Tryd.func12.trans (congrArg some (by kernel_rfl))
  f207 := Tryd.func30.trans (congrArg some (by kernel_rfl))
  f211 := Tryd.func21.trans (congrArg some (by kernel_rfl))
  t3 := Tryd.underlying3
  a3 := Tryd.isAgg3
  z3 := Tryd.sizeOf3
  v3 := Tryd.zeroValue3
  t4 := Tryd.underlying4
  a4 := Tryd.isAgg4
  z4 := Tryd.sizeOf4
  v4 := Tryd.zeroValue4
  t9 := Tryd.underlying9
  a9 := Tryd.isAgg9
  z9 := Tryd.sizeOf9
  v9 := Tryd.zeroValue9
  t24 := Tryd.underlying42
  a24 := Tryd.isAgg42
  z24 := Tryd.sizeOf42
  v24 := Tryd.zeroValue42 }
open Go.RowKit in
/-- strings.CutSuffix: "CutSuffix returns s without the provided ending suffix string and reports whether it found the suffix. If s doesn't end with suffix, CutSuffix returns s, false. If suffix is the empty string, CutSuffix returns s, true.": IT RETURNS '(Lib.trimSuffix s p, Lib.hasSuffix s p)'; the world is as_ it was. (LAID: no walk: one application.) -/
theorem Tryd.strings_CutSuffix (s p : ByteArray) (w : World) (hs : s.size ≤ 9223372036854775807) :
    Calls Tryd.prog 12 #[.string s, .string p] w fun e w' => e = .returned (.tuple #[.string ⟨(Lib.trimSuffix s.data.toList p.data.toList).toArray⟩, .bool (Lib.hasSuffix s.data.toList p.data.toList)]) ∧ w' = w := Any.strings_CutSuffix Tryd.lays104 s p w hs
def Tryd.lays219_ren : Go.Shelf.Ren := ⟨fun | 219 => 29 | 217 => 34 | 225 => 35 | 224 => 36 | 267 => 37 | 266 => 39 | 314 => 40 | n => n, fun | 9 => 9 | 3 => 3 | 4 => 4 | 5 => 5 | 46 => 70 | 146 => 77 | 51 => 76 | n => n, fun | 1 => 0 | n => n⟩
theorem Tryd.lays219 : Go.Proofs.Lays.n219 Tryd.prog Tryd.lays219_ren := {
  mixed := by kernel_rfl
  f217 := Tryd.func34.trans (congrArg some (by kernel_rfl))
  f219 := Tryd.func29.trans (congrArg some (by kernel_rfl))
  f224 := Tryd.func36.trans (congrArg some (by kernel_rfl))
  f225 := Tryd.func35.trans (congrArg some (by kernel_rfl))
  f266 := Tryd.func39.trans (congrArg some (by kernel_rfl))
  f267 := Tryd.func37.trans (congrArg some (by kernel_rfl))
  f314 := Tryd.func40.trans (congrArg some (by kernel_rfl))
  t3 := Tryd.underlying3
  a3 := Tryd.isAgg3
  z3 := Tryd.sizeOf3
  v3 := Tryd.zeroValue3
  t4 := Tryd.underlying4
  a4 := Tryd.isAgg4
  z4 := Tryd.sizeOf4
  v4 := Tryd.zeroValue4
  t5 := Tryd.underlying5
  a5 := Tryd.isAgg5
  z5 := Tryd.sizeOf5
  v5 := Tryd.zeroValue5
  t9 := Tryd.underlying9
  a9 := Tryd.isAgg9
  z9 := Tryd.sizeOf9
  v9 := Tryd.zeroValue9
  t46 := Tryd.underlying70
  a46 := Tryd.isAgg70
  z46 := Tryd.sizeOf70
  v46 := Tryd.zeroValue70
  t51 := Tryd.underlying76
  a51 := Tryd.isAgg76
  z51 := Tryd.sizeOf76
  v51 := Tryd.zeroValue76
  t146 := Tryd.underlying77
  a146 := Tryd.isAgg77
  z146 := Tryd.sizeOf77
  v146 := Tryd.zeroValue77
  g1 := by kernel_rfl }
open Go.RowKit Go.Lib in
/-- internal/stringslite.Index (what strings.Index calls) AT A substr OF ONE BYTE c: IT RETURNS 'Lib.indexByte s c'; the world is as_ it was. (LAID: no walk: one application.) -/
theorem Tryd.stringslite_Index_one (s : ByteArray) (c : UInt8) (w : World) :
    Calls Tryd.prog 29 #[.string s, .string ⟨#[c]⟩] w fun e w' => e = .returned (.int .i64 (Lib.indexByte s.data.toList c)) ∧ w' = w := Any.stringslite_Index_one Tryd.lays219 s c w
def Tryd.lays143_ren : Go.Shelf.Ren := ⟨fun | 143 => 28 | 219 => 29 | 217 => 34 | 225 => 35 | 224 => 36 | 267 => 37 | 266 => 39 | 314 => 40 | n => n, fun | 9 => 9 | 3 => 3 | 4 => 4 | 5 => 5 | 46 => 70 | 146 => 77 | 51 => 76 | n => n, fun | 1 => 0 | n => n⟩
theorem Tryd.lays143 : Go.Proofs.Lays.n143 Tryd.prog Tryd.lays143_ren := {
  mixed := by kernel_rfl
  f143 := Tryd.func28.trans (congrArg some (by kernel_rfl))
  f217 := Tryd.func34.trans (congrArg some (by kernel_rfl))
  f219 := Tryd.func29.trans (congrArg some (by kernel_rfl))
  f224 := Tryd.func36.trans (congrArg some (by kernel_rfl))
  f225 := Tryd.func35.trans (congrArg some (by kernel_rfl))
  f266 := Tryd.func39.trans (congrArg some (by kernel_rfl))
  f267 := Tryd.func37.trans (congrArg some (by kernel_rfl))
  f314 := Tryd.func40.trans (congrArg some (by kernel_rfl))
  t3 := Tryd.underlying3
  a3 := Tryd.isAgg3
  z3 := Tryd.sizeOf3
  v3 := Tryd.zeroValue3
  t4 := Tryd.underlying4
  a4 := Tryd.isAgg4
  z4 := Tryd.sizeOf4
  v4 := Tryd.zeroValue4
  t5 := Tryd.underlying5
  a5 := Tryd.isAgg5
  z5 := Tryd.sizeOf5
  v5 := Tryd.zeroValue5
  t9 := Tryd.underlying9
  a9 := Tryd.isAgg9
  z9 := Tryd.sizeOf9
  v9 := Tryd.zeroValue9
  t46 := Tryd.underlying70
  a46 := Tryd.isAgg70
  z46 := Tryd.sizeOf70
  v46 := Tryd.zeroValue70
  t51 := Tryd.underlying76
  a51 := Tryd.isAgg76
  z51 := Tryd.sizeOf76
  v51 := Tryd.zeroValue76
  t146 := Tryd.underlying77
  a146 := Tryd.isAgg77
  z146 := Tryd.sizeOf77
  v146 := Tryd.zeroValue77
  g1 := by kernel_rfl }
open Go.RowKit Go.Lib in
/-- strings.Index: "Index returns the index of the first instance of substr in s, or -1 if substr is not present in s.": AT A substr OF ONE BYTE c: IT RETURNS 'Lib.indexByte s c'; the world is as_ it was. (LAID: no walk: one application.) -/
theorem Tryd.strings_Index_one (s : ByteArray) (c : UInt8) (w : World) :
    Calls Tryd.prog 28 #[.string s, .string ⟨#[c]⟩] w fun e w' => e = .returned (.int .i64 (Lib.indexByte s.data.toList c)) ∧ w' = w := Any.strings_Index_one Tryd.lays143 s c w
end Go.Proofs
end

section
set_option linter.unusedVariables false
set_option linter.unusedSimpArgs false
namespace Go.Vl
open Go.RowKit (Below)
theorem MOk.below {w w' : World} {M : List ME} {F : List Nat} (h : MOk w M F) (hb : Below w.heap.size w w') (hF : ∀ b ∈ F, b < w.heap.size) : MOk w' M F := by
  refine ⟨h.nodup, h.apart, fun m hm => ME.holds_keep (w := w) (N := bl M ++ F) ?_ (fun b hb' => ?_) (h.holds m hm)⟩
  · intro b c T fr hn hc
    exact ⟨hn, (hb.block b (heap_lt hc)).trans hc⟩
  · exact hb.block b (bl_lt h b (List.mem_flatMap.2 ⟨m, hm, hb'⟩))
theorem Fr.below {w w' : World} {N : List Nat} (h : Below w.heap.size w w') : Fr w N w' N :=
  ⟨h.os, h.tape, h.output, h.size, fun k hk hn => ⟨h.block k hk, hn⟩⟩
/-- nothing that was turns; the result is known -/
theorem FnC.belowM {P : Program} {f : FuncId} {args : List AV} {M0 : List ME} {r : AV} (hc : CallOk P f)
    (h : ∀ (w : World) (F : List Nat) (vs : List Value), MOk w M0 F → RepT w (bl M0 ++ F) args vs → Calls P f vs.toArray w fun e w' => ∃ v, e = .returned v ∧ Rep w' (bl M0 ++ F) r v ∧ Below w.heap.size w w') : FnC P f args M0 (fun r' M => r' = r ∧ M = M0) :=
  ⟨hc, fun w F vs hF hm ha => (h w F vs hm ha).mono fun e w' ⟨v, he, hr, hb⟩ => ⟨v, r, M0, he, ⟨rfl, rfl⟩, hm.below hb hF, hr, Fr.below hb⟩⟩
end Go.Vl
end

section
set_option linter.unusedVariables false
set_option linter.unusedSimpArgs false
set_option maxRecDepth 100000
namespace Go.Proofs.YtiflifblkpjgpaaDoor
open Go.Vl

namespace WCutB

theorem c_index1 (s : List UInt8) (c : UInt8) : FnP Tryd.prog 29 [.str s, .str [c]] (.int (Go.Lib.indexByte s c)) := by
  refine FnC.belowM (M0 := []) (CallOk.of Tryd.func29 (by kernel_rfl) (by kernel_rfl)) fun w F vs hm ha => ?_
  simp only [RepT] at ha
  obtain ⟨v0, _, rfl, ⟨hs0, hr0⟩, v1, _, rfl, ⟨hs1, hr1⟩, rfl⟩ := ha
  have e0 : v0 = .string ⟨s.toArray⟩ := Rep.lit_iff.1 (show Rep w _ (.str s) v0 from ⟨hs0, hr0⟩)
  have e1 : v1 = .string ⟨[c].toArray⟩ := Rep.lit_iff.1 (show Rep w _ (.str [c]) v1 from ⟨hs1, hr1⟩)
  subst e0 e1
  refine (Tryd.stringslite_Index_one ⟨s.toArray⟩ c w).mono ?_
  rintro e w' ⟨rfl, rfl⟩
  exact ⟨_, rfl, Rep.lit _, ⟨rfl, rfl, rfl, Nat.le_refl _, fun _ _ => rfl⟩⟩

theorem c_Index1 (s : List UInt8) (c : UInt8) : FnP Tryd.prog 28 [.str s, .str [c]] (.int (Go.Lib.indexByte s c)) := by
  refine FnC.belowM (M0 := []) (CallOk.of Tryd.func28 (by kernel_rfl) (by kernel_rfl)) fun w F vs hm ha => ?_
  simp only [RepT] at ha
  obtain ⟨v0, _, rfl, ⟨hs0, hr0⟩, v1, _, rfl, ⟨hs1, hr1⟩, rfl⟩ := ha
  have e0 : v0 = .string ⟨s.toArray⟩ := Rep.lit_iff.1 (show Rep w _ (.str s) v0 from ⟨hs0, hr0⟩)
  have e1 : v1 = .string ⟨[c].toArray⟩ := Rep.lit_iff.1 (show Rep w _ (.str [c]) v1 from ⟨hs1, hr1⟩)
  subst e0 e1
  refine (Tryd.strings_Index_one ⟨s.toArray⟩ c w).mono ?_
  rintro e w' ⟨rfl, rfl⟩
  exact ⟨_, rfl, Rep.lit _, ⟨rfl, rfl, rfl, Nat.le_refl _, fun _ _ => rfl⟩⟩

theorem c_CutSuffix (s t : List UInt8) (hs : s.length ≤ 1048576) : FnP Tryd.prog 12 [.str s, .str t] (.tup [.str (Go.Lib.trimSuffix s t), .bool (Go.Lib.hasSuffix s t)]) := by
  refine FnC.belowM (M0 := []) (CallOk.of Tryd.func12 (by kernel_rfl) (by kernel_rfl)) fun w F vs hm ha => ?_
  simp only [RepT] at ha
  obtain ⟨v0, _, rfl, ⟨hs0, hr0⟩, v1, _, rfl, ⟨hs1, hr1⟩, rfl⟩ := ha
  have e0 : v0 = .string ⟨s.toArray⟩ := Rep.lit_iff.1 (show Rep w _ (.str s) v0 from ⟨hs0, hr0⟩)
  have e1 : v1 = .string ⟨t.toArray⟩ := Rep.lit_iff.1 (show Rep w _ (.str t) v1 from ⟨hs1, hr1⟩)
  subst e0 e1
  refine (Tryd.strings_CutSuffix ⟨s.toArray⟩ ⟨t.toArray⟩ w (by simp [ByteArray.size]; omega)).mono ?_
  rintro e w' ⟨rfl, rfl⟩
  refine ⟨_, rfl, ⟨rfl, ?_⟩, ⟨rfl, rfl, rfl, Nat.le_refl _, fun _ _ => rfl⟩⟩
  simp only [RepC]
  refine ⟨_, rfl, ?_⟩
  simp only [RepT]
  exact ⟨_, _, rfl, Rep.lit _, _, _, rfl, Rep.lit _, rfl⟩

theorem c_cutY (a t : List UInt8) (c : UInt8) (hs : (a ++ c :: t).length ≤ 1048576) (hI : FnP Tryd.prog 29 [.str (a ++ c :: t), .str [c]] (.int (a.length : Int))) : FnP Tryd.prog 20 [.str (a ++ c :: t), .str [c]] (.tup [.str a, .str t, .bool true]) :=  by
  refine FnC.mk Tryd.func20 (by kernel_rfl) rfl Tryd.ntmps20 rfl (fun w0 F => ?_)
  have hc1 : ([c] : List UInt8).length = 1 := rfl
  have hl : (a ++ c :: t).length = a.length + (t.length + 1) := by rw [List.length_append, List.length_cons]
  have e1 : List.drop (Int.toNat 0) (List.take (a.length : Int).toNat (a ++ c :: t)) = a := by simp
  have e2 : List.drop ((a.length : Int) + (([c] : List UInt8).length : Int)).toNat (List.take ((a ++ c :: t).length : Int).toNat (a ++ c :: t)) = t := by rw [hc1, Int.toNat_natCast, List.take_length, show ((a.length : Int) + ((1 : Nat) : Int)).toNat = a.length + 1 from by omega, ← List.drop_drop, List.drop_left]; rfl
  refine W.seq ?_
  refine W.region ?_
  refine W.q (Ev.assign .k) rfl ?_
  refine W.q (Ev.assign .k) rfl ?_
  refine W.q (Ev.assign .k) rfl ?_
  refine W.nil ?_
  refine W.then ?_
  refine W.seq ?_
  refine W.seq ?_
  refine W.region ?_
  refine W.q (Ev.move (.t rfl)) rfl ?_
  refine W.q (Ev.move (.t rfl)) rfl ?_
  refine W.callp (hI) ⟨(.t rfl), (.t rfl), trivial⟩ rfl ?_
  refine W.q (Ev.assign (.t rfl)) rfl ?_
  refine W.nil ?_
  refine W.then ?_
  refine W.seq ?_
  refine W.region ?_
  refine W.q (Ev.move (.t rfl)) rfl ?_
  refine W.q (Ev.gei (.t rfl) .k) rfl ?_
  refine W.nil ?_
  refine W.then ?_
  refine W.is (t := 12) (g := true) (av' := .lit (.bool true)) rfl (congrArg (fun b => AV.lit (.bool b)) (by exact decide_eq_true (by omega))) ?_
  refine W.condT (.t rfl) ?_
  refine W.seq ?_
  refine W.drawn (by kernel_rfl) (by kernel_rfl) ?_
  refine DP.q (Ev.move (.t rfl)) rfl ?_
  refine DP.q (Ev.move (.t rfl)) rfl ?_
  refine DP.q (Ev.subs (lo := none) (hi := some (.tmp 14)) (.t rfl) Tryd.underlying9 rfl (.t rfl) (fun _ => by omega)) rfl ?_
  refine DP.q (Ev.move (.t rfl)) rfl ?_
  refine DP.q (Ev.move (.t rfl)) rfl ?_
  refine DP.q (Ev.move (.t rfl)) rfl ?_
  refine DP.q (Ev.lens (.t rfl) Tryd.underlying9) rfl ?_
  first | refine DP.q (Ev.add (.t rfl) (.t rfl) (fun _ => by omega)) rfl ?_ | refine DP.q (Ev.addw (.t rfl) (.t rfl)) rfl ?_
  refine DP.q (Ev.subs (lo := some (.tmp 20)) (hi := none) (.t rfl) Tryd.underlying9 (.t rfl) rfl (fun _ => by omega)) rfl ?_
  refine DP.q (Ev.assign (.t rfl)) rfl ?_
  refine DP.q (Ev.assign (.t rfl)) rfl ?_
  refine DP.q (Ev.assign .k) rfl ?_
  refine DP.nil ?_
  refine W.then ?_
  refine W.ret ?_
  refine W.then_ret ?_
  refine W.retn (M' := []) (rs := [.tmp 4, .tmp 5, .tmp 6]) (avs := [_, _, _]) Tryd.results20 ⟨rfl, rfl, rfl, trivial⟩ rfl (.refl _) ?_
  exact ⟨by rw [e1, e2]; rfl, rfl⟩

theorem c_cutN (s : List UInt8) (c : UInt8) (hI : FnP Tryd.prog 29 [.str s, .str [c]] (.int (-1))) : FnP Tryd.prog 20 [.str s, .str [c]] (.tup [.str s, .str [], .bool false]) :=  by
  refine FnC.mk Tryd.func20 (by kernel_rfl) rfl Tryd.ntmps20 rfl (fun w0 F => ?_)
  refine W.seq ?_
  refine W.region ?_
  refine W.q (Ev.assign .k) rfl ?_
  refine W.q (Ev.assign .k) rfl ?_
  refine W.q (Ev.assign .k) rfl ?_
  refine W.nil ?_
  refine W.then ?_
  refine W.seq ?_
  refine W.seq ?_
  refine W.region ?_
  refine W.q (Ev.move (.t rfl)) rfl ?_
  refine W.q (Ev.move (.t rfl)) rfl ?_
  refine W.callp (hI) ⟨(.t rfl), (.t rfl), trivial⟩ rfl ?_
  refine W.q (Ev.assign (.t rfl)) rfl ?_
  refine W.nil ?_
  refine W.then ?_
  refine W.seq ?_
  refine W.region ?_
  refine W.q (Ev.move (.t rfl)) rfl ?_
  refine W.q (Ev.gei (.t rfl) .k) rfl ?_
  refine W.nil ?_
  refine W.then ?_
  refine W.is (t := 12) (g := true) (av' := .lit (.bool false)) rfl (congrArg (fun b => AV.lit (.bool b)) (by exact decide_eq_false (by omega))) ?_
  refine W.condF (.t rfl) ?_
  refine W.skip ?_
  refine W.then ?_
  refine W.seq ?_
  refine W.region ?_
  refine W.q (Ev.move (.t rfl)) rfl ?_
  refine W.q (Ev.assign (.t rfl)) rfl ?_
  refine W.q (Ev.assign .k) rfl ?_
  refine W.q (Ev.assign .k) rfl ?_
  refine W.nil ?_
  refine W.then ?_
  refine W.ret ?_
  refine W.retn (M' := []) (rs := [.tmp 4, .tmp 5, .tmp 6]) (avs := [_, _, _]) Tryd.results20 ⟨rfl, rfl, rfl, trivial⟩ rfl (.refl _) ?_
  exact ⟨rfl, rfl⟩

theorem c_cut (s : List UInt8) (c : UInt8) (hs : s.length ≤ 1048576) : FnP Tryd.prog 20 [.str s, .str [c]] (.tup [.str (Pk.cutB c s).1, .str (Pk.cutB c s).2.1, .bool (Pk.cutB c s).2.2]) := by
  have hI := c_index1 s c
  rw [Pk.indexByte_cutB] at hI
  rcases Pk.cutB_spec c s with ⟨h1, h2, _⟩ | ⟨h1, h2, h3, _⟩
  · rw [h1, if_pos rfl] at hI
    rw [h1]
    generalize (Pk.cutB c s).1 = a at *
    generalize (Pk.cutB c s).2.1 = t at *
    subst h2
    exact c_cutY a t c hs hI
  · rw [h1, if_neg (by decide)] at hI
    rw [h1, h2, h3]
    exact c_cutN s c hI

theorem c_Cut (s : List UInt8) (c : UInt8) (hs : s.length ≤ 1048576) : FnP Tryd.prog 11 [.str s, .str [c]] (.tup [.str (Pk.cutB c s).1, .str (Pk.cutB c s).2.1, .bool (Pk.cutB c s).2.2]) :=  by
  refine FnC.mk Tryd.func11 (by kernel_rfl) rfl Tryd.ntmps11 rfl (fun w0 F => ?_)
  refine W.seq ?_
  refine W.region ?_
  refine W.q (Ev.assign .k) rfl ?_
  refine W.q (Ev.assign .k) rfl ?_
  refine W.q (Ev.assign .k) rfl ?_
  refine W.nil ?_
  refine W.then ?_
  refine W.seq ?_
  refine W.region ?_
  refine W.q (Ev.move (.t rfl)) rfl ?_
  refine W.q (Ev.move (.t rfl)) rfl ?_
  refine W.callp (c_cut s c hs) ⟨(.t rfl), (.t rfl), trivial⟩ rfl ?_
  refine W.q (Ev.extract (.t rfl) rfl) rfl ?_
  refine W.q (Ev.extract (.t rfl) rfl) rfl ?_
  refine W.q (Ev.extract (.t rfl) rfl) rfl ?_
  refine W.q (Ev.assign (.t rfl)) rfl ?_
  refine W.q (Ev.assign (.t rfl)) rfl ?_
  refine W.q (Ev.assign (.t rfl)) rfl ?_
  refine W.nil ?_
  refine W.then ?_
  refine W.ret ?_
  refine W.retn (M' := []) (rs := [.tmp 4, .tmp 5, .tmp 6]) (avs := [_, _, _]) Tryd.results11 ⟨rfl, rfl, rfl, trivial⟩ rfl (.refl _) ?_
  exact ⟨rfl, rfl⟩

end WCutB

end Go.Proofs.YtiflifblkpjgpaaDoor
end

section
set_option linter.unusedVariables false
set_option linter.unusedSimpArgs false
set_option linter.unusedSectionVars false
namespace Go.Vl
open Go

/-- a fence that bars nothing -/
structure Fok (F : Fence) : Prop where
  fn : ∀ f, F.fn f
  depth : F.depth = none
  calls : ∀ {n : Nat} {P : Program} {f : FuncId} {args : Array Value} {w : World} {R : Ending → World → Prop}, Calls P f args w R → CallsIn F n P f args w R
  rows : ∀ {n : Nat} {P : Program} {row : String} {args : Array Value} {w : World} {R : Value → World → Prop}, Rows P row args w R → RowsIn F n P row args w R

theorem Fok.wide : Fok Fence.wide where
  fn _ := trivial
  depth := rfl
  calls h := callsIn_wide.2 h
  rows h := fun c cs _ => let ⟨v, w', hr, hs⟩ := h c cs; ⟨v, w', hr, stepsIn_wide.2 hs⟩
theorem Fok.rnd (l : Nat) : Fok (Fence.wide.inRound l) where
  fn _ := trivial
  depth := rfl
  calls h := CallsIn.inRound l (callsIn_wide.2 h)
  rows h := fun c cs hr => (Fok.wide.rows h : RowsIn Fence.wide _ _ _ _ _ _) c cs hr

/-- deferred calls beneath -/
def wd (ds : List Deferred) (a : Act) : Act := { a with defers := a.defers ++ ds }
theorem wd_eval (ds : List Deferred) (a : Act) : (wd ds a).eval = a.eval := rfl
theorem wd_put (ds : List Deferred) (a : Act) (d : Option Tmp) (v : Value) : (wd ds a).put d v = wd ds (a.put d v) := by cases d <;> rfl

def up (ds : List Deferred) (Q : Exit → Act → World → Prop) : Exit → Act → World → Prop := fun e a' w' => ∃ b, a' = wd ds b ∧ Q e b w'

theorem semAt_any {r : Option Nat} {ρ : Operand → Value} {o : Oper} (h : ∀ c, o.op ≠ .defer c) : Oper.semAt r ρ o = execOp ρ o := by
  cases r with
  | none => simp [Oper.semAt]
  | some l => exact Oper.semAt_some l _ _ h

def noDef (o : Oper) : Bool := match o.op with | .defer _ => false | _ => true
theorem noDef_ne {o : Oper} (h : noDef o = true) : ∀ c, o.op ≠ .defer c := fun c e => by simp [noDef, e] at h

theorem list_in {F : Fence} (hF : Fok F) {n : Nat} {P : Program} {ops : Array Oper} {Q Q1 : Exit → Act → World → Prop} (ds : List Deferred) (l2 : List Oper) (hQ : ∀ a w, ¬ Q1 .outgrown a w)
    (hn : ∀ a w, Q1 .normal a w → wpListIn F n P ops (up ds Q) l2 (wd ds a) w) (hp : ∀ c a w, Q1 (.panic c) a w → Q (.panic c) a w) :
    ∀ (rest : List Oper), rest.all noDef = true → ∀ (a : Act) (w : World), wpList P ops Q1 rest a w → wpListIn F n P ops (up ds Q) (rest ++ l2) (wd ds a) w
  | [], _, a, w, h => hn a w h
  | o :: rest, hd, a, w, h => by
    rw [List.all_cons, Bool.and_eq_true] at hd
    have ih := list_in hF (n := n) (P := P) (ops := ops) ds l2 hQ hn hp rest hd.2
    have hno : ¬ LetsOut Q1 := fun ⟨a, w, h⟩ => hQ a w h
    rw [List.cons_append]
    simp only [wpList, wpListIn] at h ⊢
    have ey : yielded ops (wd ds a).tmps = yielded ops a.tmps := rfl
    rw [ey]
    by_cases hw : Region.wanted o (yielded ops a.tmps) = true
    · rw [if_pos hw] at h ⊢
      rcases h with h | h
      · refine ⟨fun f _ => hF.fn f, ?_⟩
        rw [semAt_any (noDef_ne hd.1), wd_eval]
        unfold Oper.wp at h
        cases hr : (execOp a.eval o).run P w with
        | ok v w' =>
          rw [hr] at h
          cases v with
          | value v => simp only [Oper.upon, Oper.uponIn] at h ⊢; rw [wd_put]; exact ih _ _ h
          | skip => simp only [Oper.upon, Oper.uponIn] at h ⊢; rw [wd_put]; exact ih _ _ h
          | defer d => simp only [Oper.upon, Oper.uponIn] at h ⊢; exact (by have := ih _ _ h; rw [← wd_put] at this; exact this)
          | enter f args =>
            simp only [Oper.upon, Oper.uponIn] at h ⊢
            refine ⟨fun hs => (by rw [hF.depth] at hs; cases hs), hF.calls (h.mono ?_)⟩
            intro e w'' h
            cases e with
            | returned v => dsimp only at h ⊢; rw [wd_put]; exact ih _ _ h
            | panicked c => exact ⟨a, rfl, hp _ _ _ h⟩
            | outgrown => exact absurd h hno
          | row r args =>
            simp only [Oper.upon, Oper.uponIn] at h ⊢
            refine ⟨fun hs => (by rw [hF.depth] at hs; cases hs), hF.rows (h.mono ?_)⟩
            intro v w'' h
            rw [wd_put]; exact ih _ _ h
          | _ => simp [Oper.upon] at h
        | halt x w' =>
          rw [hr] at h
          cases x <;> first | exact ⟨a, rfl, hp _ _ _ h⟩ | simp [Oper.upon] at h
      · exact absurd h.2 hno
    · rw [if_neg hw] at h ⊢
      refine ⟨fun f _ => hF.fn f, ?_⟩
      rw [wd_put]; exact ih _ _ h

/-- a piece of code, met in a fence, on top of deferred calls -/
def Jn (F : Fence) (n : Nat) (P : Program) (ds : List Deferred) (c : Code) (Q : Exit → Act → World → Prop) (a : Act) (w : World) : Prop := c.wpIn F n P (up ds Q) (wd ds a) w

/-- nothing is let out -/
def Qok (Q : Exit → Act → World → Prop) : Prop := ∀ a w, ¬ Q .outgrown a w
theorem Qok.then {K : Act → World → Prop} {Q : Exit → Act → World → Prop} (h : Qok Q) : Qok (Exit.then K Q) := h
namespace J
variable {x : Cx} {L : List (Tmp × Bool × AV)} {M : List ME} {Q : Exit → Act → World → Prop} {F : Fence} {n : Nat} {ds : List Deferred}
theorem s {c d : Code} (h : W x L M (Jn F n x.P ds c (Exit.then (Jn F n x.P ds d Q) Q))) : W x L M (Jn F n x.P ds (.seq c d) Q) := fun a w hs =>
  wpIn_seq (wpIn_mono (h a w hs) (fun e a' w' ⟨b, hb, hq⟩ => by
    subst hb
    cases e <;> first | exact hq | exact ⟨b, rfl, hq⟩))
theorem r (hF : Fok F) (hQ : Qok Q) {id : Nat} {l : List Oper} (hl : l.all noDef = true) (h : W x L M (wpList x.P l.toArray Q l)) : W x L M (Jn F n x.P ds (.region id l.toArray false) Q) :=
  fun a w hs => wpIn_region_lit (by have := list_in hF (n := n) ds [] hQ (fun a w h => ⟨a, rfl, h⟩) (fun _ _ _ h => h) l hl a w (h a w hs); rwa [List.append_nil] at this)
theorem k (h : W x L M (Q .normal)) : W x L M (Jn F n x.P ds .skip Q) := fun a w hs => wpIn_skip ⟨a, rfl, h a w hs⟩
theorem ex {id : Nat} (h : W x L M (Q (.exit id))) : W x L M (Jn F n x.P ds (.exit id) Q) := fun a w hs => wpIn_exit ⟨a, rfl, h a w hs⟩
theorem ret (h : W x L M (Q .ret)) : W x L M (Jn F n x.P ds .ret Q) := fun a w hs => wpIn_ret ⟨a, rfl, h a w hs⟩
theorem b {id : Nat} {c : Code} (h : W x L M (Jn F n x.P ds c (Exit.inBlock id Q))) : W x L M (Jn F n x.P ds (.block id c) Q) := fun a w hs =>
  wpIn_block (wpIn_mono (h a w hs) (fun e a' w' ⟨b, hb, hq⟩ => by
    subst hb
    cases e with
    | exit id' =>
      simp only [Exit.inBlock] at hq ⊢
      by_cases e : id' = id
      · rw [if_pos e] at hq ⊢; exact ⟨b, rfl, hq⟩
      · rw [if_neg e] at hq ⊢; exact ⟨b, rfl, hq⟩
    | _ => exact ⟨b, rfl, hq⟩))
theorem cond {c : Operand} {y z : Code} {t : Bool} (hc : Ov true L c (.lit (.bool t))) (ht : t = true → W x L M (Jn F n x.P ds y Q)) (hf : t = false → W x L M (Jn F n x.P ds z Q)) :
    W x L M (Jn F n x.P ds (.cond c y z) Q) := fun a w hs => by
  have h0 : a.eval c = .bool t := hc.lit rfl hs
  have h : (wd ds a).eval c = .bool t := h0
  cases t with
  | true => exact wpIn_cond_true h (ht rfl a w hs)
  | false => exact wpIn_cond_false h (hf rfl a w hs)
theorem condT {c : Operand} {y z : Code} (hc : Ov true L c (.lit (.bool true))) (ht : W x L M (Jn F n x.P ds y Q)) : W x L M (Jn F n x.P ds (.cond c y z) Q) := cond hc (fun _ => ht) (fun h => by cases h)
theorem condF {c : Operand} {y z : Code} (hc : Ov true L c (.lit (.bool false))) (hf : W x L M (Jn F n x.P ds z Q)) : W x L M (Jn F n x.P ds (.cond c y z) Q) := cond hc (fun h => by cases h) (fun _ => hf)

theorem loop {ι : Type} {c : Code} {D : List ME} (Lf : ι → List (Tmp × Bool × AV)) (Mf : ι → List ME) (Pf : ι → Prop) (μ : ι → Nat) (z₀ : ι) (hL : Sub L (Lf z₀)) (hM : List.Perm M (Mf z₀ ++ D)) (hP : Pf z₀)
    (round : ∀ z, Pf z → W x (Lf z) (Mf z) (Jn F n x.P ds c (Exit.then (Reach x Lf Mf (fun y => Pf y ∧ μ y < μ z)) Q))) : W x L M (Jn F n x.P ds (.loop c) Q) := by
  intro a w hs b k cs hro hb hr
  have key : ∀ j z, μ z = j → Pf z → ∀ a w, St x (Lf z) (Mf z) a w →
      ∃ e a' w', up ds Q e a' w' ∧ ArrivesIn (Machine.fenced x.P F) x.P (lone (b.atR (wd ds a) (.code c :: .inLoop c :: k)) cs w) b k cs e a' w' := by
    intro j
    induction j using Nat.strongRecOn with
    | _ j ih =>
      intro z hz hPz a w hs
      obtain ⟨e, a₁, w₁, ⟨a1, ha, hq⟩, harr⟩ := round z hPz a w hs b (.inLoop c :: k) cs hro hb hr
      subst ha
      cases e with
      | normal =>
        obtain ⟨y, ⟨hPy, hlt⟩, hsy⟩ := hq
        obtain ⟨e₂, a₂, w₂, hq₂, harr₂⟩ := ih (μ y) (hz ▸ hlt) y rfl hPy a1 w₁ hsy
        exact ⟨e₂, a₂, w₂, hq₂, .of_steps (StepsIn.trans harr (.one (fenced_calm hb hr rfl) stepR_inLoop)) harr₂⟩
      | _ => exact ⟨_, _, w₁, ⟨a1, rfl, hq⟩, .pass (x := .inLoop c) rfl (fun _ _ => .inl (by simp)) harr⟩
  obtain ⟨e, a', w', hq, harr⟩ := key _ z₀ rfl hP a w (hs.weaken hL hM)
  exact ⟨e, a', w', hq, .of_steps (.one (fenced_calm hb hr rfl) stepR_loop) harr⟩
end J

/-- operations of a region, met in a fence -/
def Ji (F : Fence) (n : Nat) (P : Program) (ops : Array Oper) (ds : List Deferred) (Q : Exit → Act → World → Prop) (rest : List Oper) (a : Act) (w : World) : Prop := wpListIn F n P ops (up ds Q) rest (wd ds a) w

/-- A ROUND's CONTRACT: what yield of the loop R comes to, with these arguments, where the memory is M0. -/
def RdC (F : Fence) (n : Nat) (P : Program) (R : Nat) (args : List Value) (M0 : List ME) (post : AV → List ME → Prop) : Prop :=
  ∀ (w : World) (Fb : List Nat), (∀ b ∈ Fb, b < w.heap.size) → MOk w M0 Fb →
    ∃ fn tmps assign body, (Instr.yield R args.toArray).run P w = .ok (.round R fn tmps assign body) w ∧ RoundIn F n P R fn tmps assign body w (RetR w (bl M0) Fb post)

namespace J
variable {x : Cx} {L : List (Tmp × Bool × AV)} {M : List ME} {Q : Exit → Act → World → Prop} {F : Fence} {n : Nat} {ds : List Deferred} {ops : Array Oper} {rest : List Oper}
/-- a region in two parts: the first as_ everywhere -/
theorem r2 (hF : Fok F) (hQ : Qok Q) {id : Nat} (l1 l2 : List Oper) {l : List Oper} (e : l = l1 ++ l2) (hl : l1.all noDef = true)
    (h : W x L M (wpList x.P l.toArray (Exit.then (Ji F n x.P l.toArray ds Q l2) Q) l1)) : W x L M (Jn F n x.P ds (.region id l.toArray false) Q) :=
  fun a w hs => wpIn_region_lit (by have := list_in hF (n := n) (P := x.P) (ops := l.toArray) (Q := Q) (Q1 := Exit.then (Ji F n x.P l.toArray ds Q l2) Q) ds l2 hQ (fun a w h => h) (fun _ _ _ h => h) l1 hl a w (h a w hs); rwa [← e] at this)
/-- the rest as_ everywhere -/
theorem i (hF : Fok F) (hQ : Qok Q) (hl : rest.all noDef = true) (h : W x L M (wpList x.P ops Q rest)) : W x L M (Ji F n x.P ops ds Q rest) :=
  fun a w hs => by have := list_in hF (n := n) (Q := Q) ds [] hQ (fun a w h => ⟨a, rfl, h⟩) (fun _ _ _ h => h) rest hl a w (h a w hs); rwa [List.append_nil] at this
/-- YIELD IS CALLED: a round, by its contract -/
theorem y (hF : Fok F) {R : Nat} {d : Tmp} {fo o1 : Operand} {ats : Array TypeId} {ty : TypeId} {pos : String} {aft : Array Edge} {sv : Value} {Min Mr : List ME} {post : AV → List ME → Prop}
    (hc : RdC F (n - 1) x.P R [sv] Min post) (hfo : Ov true L fo (.lit (.func (.yield R) #[] #[]))) (h1 : Ov true L o1 (.lit sv)) (hM : List.Perm M (Min ++ Mr)) (hd : Nat.blt d x.n = true)
    (next : ∀ r M', post r M' → W x ((d, true, r) :: L) (M' ++ Mr) (Ji F n x.P ops ds Q rest)) :
    W x L M (Ji F n x.P ops ds Q (⟨some d, .call ⟨.value fo, #[o1], ats⟩, ty, pos, aft, none⟩ :: rest)) := by
  intro a w hs
  obtain ⟨hF', hm0, hk0⟩ := hs.ahead hM
  obtain ⟨fn, tmps, assign, body, hy, hround⟩ := hc w (bl Mr ++ x.F) hF' hm0
  unfold Ji
  simp only [wpListIn]
  rw [if_pos (by simp [Region.wanted])]
  refine ⟨fun f _ => hF.fn f, ?_⟩
  rw [semAt_any (fun c h => by cases h), wd_eval]
  have hv := hfo.lit rfl hs
  have h1v := h1.lit rfl hs
  have hr : (execOp a.eval ⟨some d, .call ⟨.value fo, #[o1], ats⟩, ty, pos, aft, none⟩).run x.P w = .ok (.round R fn tmps assign body) w := by
    simp only [execOp, resolve, hv, Deferred.ofValue, Sem.run_bind, Sem.run_pure, Result.andThen_ok, invoke]
    simpa [h1v] using hy
  rw [hr]
  simp only [Oper.uponIn]
  refine ⟨fun hs => (by rw [hF.depth] at hs; cases hs), hround.mono ?_⟩
  rintro e w' ⟨v, r, M', rfl, hp, hm', hrep, hf⟩
  have hs' := hs.back hM hm' hf
  have := next r M' hp _ _ (hs'.put hd true r v (fun _ => hrep.keep (fun b c T fr hb hc => ⟨fun h => hb (mem4.1 h), hc⟩)) (by simp))
  dsimp only
  rw [wd_put]
  exact this
end J
end Go.Vl
end
