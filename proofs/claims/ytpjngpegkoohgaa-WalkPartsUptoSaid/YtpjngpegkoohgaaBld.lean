/-
  What package strings' Builder does: pointers held against others, unsafe.Pointer and back, unsafe.String over an own row.
-/
import Derived.Test.YtpjngpegkoohgaaStr
import Derived.Lib.Builder
import Derived.Lib.UnsafeStr
import Derived.Laws.Pointers
import Derived.Laws.Externs
set_option linter.unusedVariables false
set_option linter.unusedSimpArgs false
set_option linter.unusedSectionVars false
namespace Go.Vl
open Go Go.Sem
section ev
variable {x : Cx} {g : Bool} {L : List (Tmp × Bool × AV)} {M : List ME} {ty : TypeId} {T T' : TypeId} {o1 o2 : Operand}

theorem Ev.nilc {a : Addr} (h1 : Ov g L o1 (.lit (.pointer (some a)))) : Ev x g L M (.nilCheck o1) ty (.lit (.pointer (some a))) := Ev.pure fun ac w hs hg => by
  simp [execOp, h1.lit hg hs]
theorem Ev.eqpn {p : Option Addr} {te : TypeId} (h1 : Ov g L o1 (.lit (.pointer p))) (hT : x.P.underlying T = some (.pointer te)) : Ev x g L M (.binOp .eql T o1 (.const (.pointer none)) T') ty (.lit (.bool p.isNone)) := Ev.pure fun ac w hs hg => by
  have hp : x.P.underlying T = some (.pointer (x.P.pointee T)) := by rw [hT]; simp [Program.pointee, hT]
  have hv : ac.eval (.const (.pointer none)) = .pointer none := rfl
  simp only [execOp, h1.lit hg hs, hv, eqGuard_at_pointer, Sem.run_bind, Sem.run_pure, Result.andThen_ok, run_eql_pointer_nil w T p hp]
theorem Ev.nep {a : Addr} {te k bytes : Nat} {z : Value} (h1 : Ov g L o1 (.lit (.pointer (some a)))) (h2 : Ov g L o2 (.lit (.pointer (some a)))) (hT : x.P.underlying T = some (.pointer te)) (hE : Ty x.P te k bytes z) :
    Ev x g L M (.binOp .neq T o1 o2 T') ty (.lit (.bool false)) := Ev.pure fun ac w hs hg => by
  obtain ⟨j, hj, _⟩ := hE
  simp only [execOp, h1.lit hg hs, h2.lit hg hs, eqGuard_at_pointer, Sem.run_bind, Sem.run_pure, Result.andThen_ok, Lib.run_neq_ptr_same w a hT hj]
theorem Ev.touns (i : Nat) {b U te k bytes : Nat} {z : Value} {c : AV} {cs : List AV} (h1 : Ov g L o1 (.lit (.pointer (some ⟨b, 0, none⟩)))) (hM : M[i]? = some (.box b U (c :: cs))) (hT : x.P.underlying T = some (.pointer te)) (hT' : x.P.underlying T' = some .unsafePointer) (hE : Ty x.P te (k + 1) bytes z) :
    Ev x g L M (.convert T T' o1) ty (.lit (.pointer (some ⟨b, 0, none⟩))) := Ev.pure fun ac w hs hg => by
  obtain ⟨j, hj, hk, _⟩ := hE
  obtain ⟨cur, hc, hcs⟩ := box_at (N := []) hs.mem hM
  have hl := hcs.length
  simp at hl
  simp only [execOp, h1.lit hg hs]
  simp [Lib.run_to_unsafe (P := x.P) w ⟨b, 0, none⟩ hT hT' hj (by omega) (e := U) (cells := cur.size) (by simp [World.shape?, hc]) (by show 0 < cur.size; omega)]
theorem Ev.fromuns (i : Nat) {b U te : Nat} {k bytes : Nat} {z : Value} {cs : List AV} (h1 : Ov g L o1 (.lit (.pointer (some ⟨b, 0, none⟩)))) (hM : M[i]? = some (.box b U cs)) (hT : x.P.underlying T = some .unsafePointer) (hT' : x.P.underlying T' = some (.pointer te)) (hE : Ty x.P te k bytes z)
    (hl : liesAt x.P x.P.depth U (cs.length / x.P.cellsOf U) 0 te 1 = true) : Ev x g L M (.convert T T' o1) ty (.lit (.pointer (some ⟨b, 0, none⟩))) := Ev.pure fun ac w hs hg => by
  obtain ⟨j, hj, hk, _⟩ := hE
  obtain ⟨cur, hc, hcs⟩ := box_at (N := []) hs.mem hM
  have hl' := hcs.length
  simp at hl'
  simp only [execOp, h1.lit hg hs]
  simp [Lib.run_from_unsafe (P := x.P) w ⟨b, 0, none⟩ hT hT' hj (e := U) (cells := cur.size) (by simp [World.shape?, hc]) (by rw [← hl'] at hl; exact hl)]
theorem Ev.noesc {f : FuncId} {fn : Func} {ats : Array TypeId} {av : AV} (hf : x.P.funcs[f]? = some fn) (hnm : (fn.name == "runtime.NumGoroutine") = false) (hb : fn.body.isNone = true) (hn : Extern.findNext fn = none) (he : Extern.find fn = some Extern.AbiNoEscape.same) (h1 : Ov g L o1 av) :
    Ev x g L M (.call ⟨.value (.func f), #[o1], ats⟩) ty av := fun a w hs hg => by
  have hv : a.eval (.func f) = .func (.func f) #[] #[] := rfl
  refine ⟨a.eval o1, ?_, h1.rep hg hs⟩
  have h := run_callFunc_extern hf hnm hb hn he #[a.eval o1] w
  rw [Lib.run_noEscape] at h
  simp only [execOp, resolve, hv, Deferred.ofValue, Sem.run_bind, Sem.run_pure, Result.andThen_ok, invoke]
  simp [h]
/-- the address of a row's first element -/
def dataOf : Value → Value
  | .slice a _ _ => .pointer a
  | v => v
def deadOf : Value → Value
  | .slice (some ⟨g, _, _⟩) _ _ => .slice (some ⟨g, 0, none⟩) 0 0
  | v => v
theorem Ev.usd {i : Nat} {v : Value} {U k : Nat} {es : List AV} (h1 : Ov g L o1 (.lit v)) (hM : M[i]? = some (.arr v U k es)) (hv : v = .slice none 0 0 ∨ es ≠ []) : Ev x g L M (.call ⟨.builtin .unsafeSliceData, #[o1], #[T]⟩) ty (.lit (dataOf v)) := Ev.pure fun ac w hs hg => by
  obtain ⟨ad, cap, e, h2, h3, _⟩ := hs.mem.holds _ (List.mem_of_getElem? hM)
  have e1 := h1.lit hg hs
  rw [e] at e1
  subst e
  cases ad with
  | none =>
    have h := Lib.run_unsafeSliceData_nil (P := x.P) w #[T] ty es.length cap
    simp [execOp, resolve, invoke, builtin, e1, h, dataOf]
  | some a =>
    have hc : cap ≠ 0 := by
      rcases hv with hv | hv
      · cases hv
      · have : es.length ≠ 0 := fun h => hv (List.eq_nil_of_length_eq_zero h)
        omega
    have h := Lib.run_unsafeSliceData_row (P := x.P) w #[T] ty a es.length cap hc
    simp [execOp, resolve, invoke, builtin, e1, h, dataOf]
end ev

theorem liesAt_off {P : Program} {e : TypeId} (hc : P.cellsOf e = 1) (count off n : Nat) (hn : off + n ≤ count) : liesAt P P.depth e count off e n = true := by
  have hd : P.depth = (2 * (P.types.size + Made.depth) + 1) + 1 := rfl
  rw [hd]
  simp only [liesAt, Bool.or_eq_true]
  left
  rw [hd]
  simp [rowAt, hc, hn, sameLayout]
  exact .inl (Nat.mod_one off)
theorem run_ustr {P : Program} (w : World) (pt it ty e : TypeId) (hp : P.underlying pt = some (.pointer e)) (hc : P.cellsOf e = 1) (g off cells : Nat) (hsh : w.shape? g = some (e, cells)) (l : List UInt8) (h0 : l ≠ []) (hn : off + l.length ≤ cells) (h63 : l.length ≤ 9223372036854775807)
    (hcell : ∀ j x, l[j]? = some x → w.cell? ((⟨g, off, none⟩ : Addr).add j) = some (.int .u8 x.toNat)) :
    (Builtin.unsafeString_ #[pt, it] ty #[.pointer (some ⟨g, off, none⟩), .int .i64 l.length]).run P w = .ok (.string ⟨l.toArray⟩) (w.freeze ⟨g, off, none⟩ l.length) := by
  have hl : l.length ≠ 0 := by simpa using h0
  have hlb := Lib.run_loadBytes (P := P) w l ⟨g, off, none⟩ .empty hcell
  have hlies := liesAt_off (P := P) hc (cells / P.cellsOf e) off l.length (by rw [hc]; simpa using hn)
  have h63' : ¬ (9223372036854775807 : Int) < (l.length : Int) := by omega
  have hdef : Builtin.unsafeString_ #[pt, it] ty #[.pointer (some ⟨g, off, none⟩), .int .i64 l.length] =
      (do
        let n ← asInt (.int .i64 l.length)
        if n < 0 then runtimePanic (.error "unsafe.String: len out of range")
        if n > IntKind.i64.max then unsupported (.unsafePointer "String: a length above the largest int")
        if n = 0 then Pure.pure (.string .empty)
        else if ← variablesAt ⟨g, off, none⟩ (← elemOf pt) n.toNat then do
          let s ← loadBytes ⟨g, off, none⟩ .empty n.toNat
          Go.freeze ⟨g, off, none⟩ n.toNat
          Pure.pure (.string s)
        else unsupported (.unsafePointer "String: not so many bytes at ptr")) := rfl
  rw [hdef]
  have hmax : IntKind.i64.max = 9223372036854775807 := rfl
  have hneg : ¬ (l.length : Int) < 0 := by omega
  simp [asInt, asIntOf, hmax, h63', hneg, hl, variablesAt, hsh, elemOf, run_underlying hp, hlies, hlb]
theorem u8_cells {w : World} {N : List Nat} : ∀ {l : List UInt8} {row : List Value}, RepE w N 1 (l.map AV.u8) row → ∀ (j : Nat) (y : UInt8), l[j]? = some y → row[j]? = some (.int .u8 y.toNat)
  | [], _, _, j, y, h => by simp at h
  | b :: l, row, hr, j, y, h => by
    simp only [List.map_cons, RepE] at hr
    obtain ⟨h1, h2, h3⟩ := hr
    cases row with
    | nil => simp at h1
    | cons v row =>
      cases j with
      | zero =>
        simp at h; subst h
        simp only [RepC] at h2
        have h2' : [v] = [Value.int .u8 (b.toNat : Int)] := h2
        simp only [List.getElem?_cons_zero, Option.some.injEq]
        exact (List.cons.inj h2').1
      | succ j =>
        have := u8_cells h3 j y (by simpa using h)
        simpa using this
theorem set_same {α : Type} {l : List α} {i : Nat} {a : α} (h : l[i]? = some a) : l.set i a = l := by
  apply List.ext_getElem?
  intro j
  rw [List.getElem?_set]
  split
  · rename_i e; subst e
    split
    · exact h.symm
    · rename_i hl; rw [List.getElem?_eq_none (by omega)] at h; cases h
  · rfl
theorem freeze_set {w : World} {g off n lo hi : Nat} {cur : Array Value} {T : TypeId} (h : w.heap[g]? = some (.cells cur T (lo, hi))) (hn : n ≠ 0) :
    w.freeze ⟨g, off, none⟩ n = { w with heap := w.heap.setIfInBounds g (.cells cur T (if lo == hi then (off, off + n) else (min lo off, max hi (off + n)))) } := by
  unfold World.freeze
  rw [if_neg hn]
  congr 1
  apply Array.ext_getElem?
  intro j
  rw [Array.getElem?_modify, Array.getElem?_setIfInBounds]
  have hlt : g < w.heap.size := heap_lt h
  split
  · rename_i e; subst e
    rw [h]
    simp [hlt]
  · rfl
/-- what an own row's slice is -/
theorem W.arr_inv {x : Cx} {L : List (Tmp × Bool × AV)} {M : List ME} {R : Act → World → Prop} (i : Nat) {v : Value} {U k : Nat} {es : List AV} (hM : M[i]? = some (.arr v U k es)) (h : ∀ a n c, v = .slice a n c → W x L M R) : W x L M R := fun a w hs => by
  obtain ⟨ad, cap, e, _⟩ := hs.mem.holds _ (List.mem_of_getElem? hM)
  exact h _ _ _ e a w hs
section str
variable {x : Cx} {L : List (Tmp × Bool × AV)} {M : List ME} {ty : TypeId} {T1 T2 : TypeId} {o1 o2 : Operand} {ops : Array Oper} {Q : Exit → Act → World → Prop} {rest : List Oper} {pos : String} {aft : Array Edge}
theorem W.ustr (i : Nat) {d : Tmp} {v : Value} {U : TypeId} {l : List UInt8} (h1 : Ov true L o1 (.lit (dataOf v))) (h2 : Ov true L o2 (.lit (.int .i64 (l.length : Int)))) (hM : M[i]? = some (.arr v U 1 (l.map AV.u8))) (hv : v = .slice none 0 0 ∨ l ≠ [])
    (hT : x.P.underlying T1 = some (.pointer U)) (hc : x.P.cellsOf U = 1) (hl : l.length ≤ 9223372036854775807) (hd : Nat.blt d x.n = true)
    (next : W x ((d, true, .str l) :: L) (M.set i (.arr (deadOf v) U 1 [])) (wpList x.P ops Q rest)) :
    W x L M (wpList x.P ops Q (⟨some d, .call ⟨.builtin .unsafeString, #[o1, o2], #[T1, T2]⟩, ty, pos, aft, none⟩ :: rest)) := by
  refine W.opv (ι := Unit) (fun _ => M.set i (.arr (deadOf v) U 1 [])) (fun _ => .str l) hd ?_ (fun _ => next)
  intro a w hs
  have e1 := h1.lit rfl hs
  have e2 := h2.lit rfl hs
  by_cases hl0 : l = []
  · subst hl0
    obtain rfl : v = .slice none 0 0 := by
      rcases hv with h | h
      · exact h
      · exact absurd rfl h
    refine ⟨.string ⟨[].toArray⟩, w, (), ?_, ?_, Rep.lit _⟩
    · have h := Lib.run_unsafeString_none (P := x.P) w T1 T2 ty none
      simp only [List.length_nil] at e2
      have e1' : a.eval o1 = .pointer none := e1
      simp [execOp, resolve, invoke, builtin, e1', e2]
      exact congrArg (fun r => Result.andThen r _) h
    · rw [show M.set i (.arr (deadOf (.slice none 0 0)) U 1 []) = M from set_same hM]
      exact hs
  · obtain ⟨ad, cap, e, hlc, hcm, hcase⟩ := hs.mem.holds _ (List.mem_of_getElem? hM)
    rw [List.length_map] at e hlc
    have hln : l.length ≠ 0 := fun h => hl0 (List.eq_nil_of_length_eq_zero h)
    rcases hcase with ⟨_, h0⟩ | ⟨g, off, cur, lo, hi, rfl, hg, hsz, hfr, hrE⟩
    · omega
    · subst e
      have e1' : a.eval o1 = .pointer (some ⟨g, off, none⟩) := e1
      have hcell : ∀ j y, l[j]? = some y → w.cell? ((⟨g, off, none⟩ : Addr).add j) = some (.int .u8 y.toNat) := by
        intro j y hj
        rw [Addr.add_lit, cell_of hg]
        have := u8_cells hrE j y hj
        rw [List.getElem?_drop] at this
        simpa using this
      have hrun := run_ustr (P := x.P) w T1 T2 ty U hT hc g off cur.size (by simp [World.shape?, hg]) l hl0 (by omega) hl hcell
      rw [freeze_set hg hln] at hrun
      refine ⟨.string ⟨l.toArray⟩, { w with heap := w.heap.setIfInBounds g (.cells cur U (if lo == hi then (off, off + l.length) else (min lo off, max hi (off + l.length)))) }, (), ?_, ?_, Rep.lit _⟩
      · simp [execOp, resolve, invoke, builtin, e1', e2, hrun]
      · refine hs.write hM rfl rfl ?_
        intro w' hother hnew hk
        exact ⟨some ⟨g, 0, none⟩, 0, rfl, Nat.le_refl _, by simp [maxLen], .inr ⟨g, 0, cur, _, _, rfl, hnew, by omega, .inr (by omega), by simp [RepE]⟩⟩
end str
end Go.Vl
