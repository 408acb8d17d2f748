/-
  Merged: Copy Rep Une Base WBld.
-/
import Derived.Test.YtohncieijjhnjaaDoorG3
import Derived.Lib.Overlaps
import Derived.Laws.Externs
import Derived.Lib.IfaceEq
import Derived.Lib.IfaceNeq
import Derived.Stop.IfaceNil
import Derived.Scope
import Derived.Laws.Runes
import Derived.Test.YtohncieijjhnjaaDoorRows

section
set_option linter.unusedVariables false
set_option linter.unusedSimpArgs false
set_option linter.unusedSectionVars false
namespace Go.Vl
open Go Go.Sem
section view
variable {x : Cx} {L : List (Tmp × Bool × AV)} {M : List ME} {ops : Array Oper} {Q : Exit → Act → World → Prop} {rest : List Oper} {ty : TypeId} {pos : String} {aft : Array Edge}
/-- a source of sn elements, of which the first are xs -/
def SrcN (P : Program) (w : World) (N : List Nat) (k : Nat) (v : Value) (sn : Nat) (xs : List AV) : Prop :=
  (Builtin.lenOf v).run P w = .ok sn w ∧ xs.length ≤ sn ∧ ∃ news : Array Value, news.size = xs.length * k ∧ RepE w N k xs news.toList ∧ (∀ u ∈ news.toList, shV u = 0) ∧
    ∀ w' : World, w'.heap = w.heap → (Builtin.firstCells k xs.length v).run P w' = .ok news w'
theorem Src.toN {P : Program} {w : World} {N : List Nat} {k sn cap cap' : Nat} {ad : Option Addr} {xs : List AV} (h : Src P w N k (.slice ad xs.length cap) xs) (hs : xs.length ≤ sn) : SrcN P w N k (.slice ad sn cap') sn xs := by
  obtain ⟨_, news, h2, h3, h4, h5⟩ := h
  refine ⟨by simp [Builtin.lenOf], hs, news, h2, h3, h4, fun w' hw => ?_⟩
  have := h5 w' hw
  cases ad <;> simpa only [Builtin.firstCells] using this
theorem SrcN.to {P : Program} {w : World} {N : List Nat} {k : Nat} {v : Value} {xs : List AV} (h : SrcN P w N k v xs.length xs) : Src P w N k v xs := ⟨h.1, h.2.2⟩
/-- an operand that copy may take its elements from -/
def VwOv (x : Cx) (L : List (Tmp × Bool × AV)) (M : List ME) (o : Operand) (k sn : Nat) (xs : List AV) : Prop := ∀ a w, St x L M a w → SrcN x.P w (bl M ++ x.F) k (a.eval o) sn xs
/-- elements of an own row -/
theorem VwOv.own (i : Nat) {o : Operand} {g off n cap p sn c U k : Nat} {ad : Option Addr} {es xs : List AV} (h : Ov true L o (.lit (.slice ad sn c))) (ha : xs = [] ∨ ad = some ⟨g, off + p * k, none⟩) (hM : M[i]? = some (ME.arr (.slice (some ⟨g, off, none⟩) n cap) U k es)) (hx : xs = (es.drop p).take xs.length) (hp : p ≤ es.length) (hq : xs.length ≤ sn) (ho : ∀ e ∈ xs, e.okc = true) : VwOv x L M o k sn xs := by
  intro a w hs
  rw [h.lit rfl hs]
  refine Src.toN (cap := c) ?_ hq
  refine src_cells rfl ho ?_
  obtain ⟨ad, cp, e, h1, h2, h3⟩ := hs.mem.holds _ (List.mem_of_getElem? hM)
  cases e
  rcases h3 with ⟨h3, _⟩ | ⟨g', off', cur, lo, hi, h4, h5, _, _, h6⟩
  · cases h3
  · cases h4
    rcases ha with ha | ha
    · exact .inl ha
    refine .inr ⟨g, _, cur, U, (lo, hi), ha, h5, ?_⟩
    rw [hx, ← List.drop_drop]
    exact (h6.drop p hp).take _
/-- the elements of a box, seen as_ a row of one -/
theorem VwOv.box (i : Nat) {o : Operand} {b c U k : Nat} {cs : List AV} {e : AV} (h : Ov true L o (.lit (.slice (some ⟨b, 0, none⟩) 1 c))) (hM : M[i]? = some (ME.box b U cs)) (hk : cs.length = k) (he : e.cells = cs) (ho : e.okc = true) : VwOv x L M o k 1 [e] := by
  intro a w hs
  rw [h.lit rfl hs]
  refine Src.toN (cap := c) ?_ (by simp)
  refine src_cells rfl (by simpa using ho) (.inr ?_)
  obtain ⟨cur, h1, h2⟩ := hs.mem.holds _ (List.mem_of_getElem? hM)
  refine ⟨b, 0, cur, U, _, rfl, h1, ?_⟩
  have hl := h2.length
  rw [List.drop_zero]
  refine ⟨by omega, RepC.ofL ho ?_, trivial⟩
  rw [List.take_of_length_le (by omega), he]
  exact h2
theorem VwOv.src {o : Operand} {k : Nat} {xs : List AV} (h : SrcOv x L M o k xs) : VwOv x L M o k xs.length xs := fun a w hs => by
  have h1 := h.src hs
  exact ⟨h1.1, Nat.le_refl _, h1.2⟩

theorem run_copy {P : Program} {w : World} {T T' E k bytes : Nat} {z : Value} {g p dn dc lo hi sn : Nat} {cur : Array Value} {U : TypeId} {xv : Value} {N : List Nat} {xs : List AV} (hT : P.underlying T = some (.slice E)) (hE : Ty P E k bytes z)
    (hc : w.heap[g]? = some (.cells cur U (lo, hi))) (hsz : p + xs.length * k ≤ cur.size) (hfr : hi ≤ lo ∨ p + xs.length * k ≤ lo) (hx : SrcN P w N k xv sn xs) (hq : xs.length = Nat.min sn dn) :
    ∃ news : Array Value, news.size = xs.length * k ∧ RepE w N k xs news.toList ∧ (Builtin.copy_ #[T, T'] ty #[.slice (some ⟨g, p, none⟩) dn dc, xv]).run P w =
      .ok (.int .i64 (xs.length : Int)) { w with heap := w.heap.setIfInBounds g (.cells (wr cur p news.toList) U (lo, hi)) } := by
  obtain ⟨hlen, _, news, hn1, hn2, hn3, hn4⟩ := hx
  have hf := hn4 w rfl
  have hst := run_storeCells (P := P) (g := g) (off := p) (T := U) (lo := lo) (hi := hi) news.toList 0 cur w hc (by simp; omega) (by simp; omega) hn3
  refine ⟨news, hn1, hn2, ?_⟩
  rw [Nat.add_zero] at hst
  rw [hq] at hf
  simp only [Builtin.copy_, List.getElem?_toArray, List.getElem?_cons_zero, List.getElem?_cons_succ, Sem.run_bind, run_underlying hT, Result.andThen_ok, hE.size, hlen, hf, hst, Sem.run_pure, goInt, hq]

/-- what a row holds after a write of elements -/
theorem RepE.over {w : World} {N : List Nat} {k j off : Nat} {es xs : List AV} {cur nl : List Value} (h : RepE w N k es (cur.drop off)) (hx : RepE w N k xs nl) (hn : nl.length = xs.length * k) (hj : j ≤ es.length) (hoff : off ≤ cur.length) :
    RepE w N k (es.take j ++ xs ++ es.drop (j + xs.length)) ((cur.take (off + j * k) ++ nl ++ cur.drop (off + j * k + nl.length)).drop off) := by
  have hlen := h.len
  have hjk : j * k ≤ es.length * k := Nat.mul_le_mul_right _ hj
  rw [List.length_drop] at hlen
  have e1 : (cur.take (off + j * k) ++ nl ++ cur.drop (off + j * k + nl.length)).drop off = (cur.drop off).take (j * k) ++ (nl ++ (cur.drop off).drop (j * k + nl.length)) := by
    rw [List.append_assoc, List.drop_append_of_le_length (by rw [List.length_take]; omega), List.drop_take, Nat.add_sub_cancel_left, List.drop_drop, Nat.add_assoc]
  rw [e1]
  have hS : (cur.drop off).length = cur.length - off := List.length_drop ..
  generalize cur.drop off = S at h hS
  have htl : (S.take (j * k)).length = j * k := by rw [List.length_take]; omega
  have hjl : (es.take j).length = j := by rw [List.length_take]; omega
  rw [List.append_assoc]
  refine RepE.append (RepE.congr (h.take j) ?_) ?_
  · rw [hjl, List.take_append_of_le_length (by omega), List.take_take, Nat.min_self]
  · rw [hjl, List.drop_append_of_le_length (by omega), List.drop_of_length_le (l := S.take (j * k)) (by omega), List.nil_append]
    refine RepE.append (RepE.congr hx (by rw [List.take_append_of_le_length (by omega)])) ?_
    rw [List.drop_append_of_le_length (by omega), List.drop_of_length_le (l := nl) (by omega), List.nil_append, hn, ← Nat.add_mul]
    by_cases hle : j + xs.length ≤ es.length
    · exact h.drop _ hle
    · rw [List.drop_of_length_le (by omega)]; simp [RepE]

theorem W.copy (i : Nat) {d : Tmp} {T T' E k bytes : Nat} {z : Value} {o1 o2 : Operand} {g off n cap j dn dc sn U : Nat} {es xs : List AV} (h1 : Ov true L o1 (.lit (.slice (some ⟨g, off + j * k, none⟩) dn dc))) (hM : M[i]? = some (ME.arr (.slice (some ⟨g, off, none⟩) n cap) U k es)) (h2 : VwOv x L M o2 k sn xs)
    (hT : x.P.underlying T = some (.slice E)) (hE : Ty x.P E k bytes z) (hq : xs.length = Nat.min sn dn) (hj : j ≤ es.length) (hc : j + xs.length ≤ cap) {n' : Nat} {es' : List AV} (he' : es' = es.take j ++ xs ++ es.drop (j + xs.length)) (hn' : n' = es'.length) (hd : Nat.blt d x.n = true)
    (next : W x ((d, true, .lit (.int .i64 (xs.length : Int))) :: L) (M.set i (ME.arr (.slice (some ⟨g, off, none⟩) n' cap) U k es')) (wpList x.P ops Q rest)) :
    W x L M (wpList x.P ops Q (⟨some d, .call ⟨.builtin .copy, #[o1, o2], #[T, T']⟩, ty, pos, aft, none⟩ :: rest)) := by
  subst he'
  refine W.opv (ι := Unit) (fun _ => M.set i (ME.arr (.slice (some ⟨g, off, none⟩) n' cap) U k (es.take j ++ xs ++ es.drop (j + xs.length)))) (fun _ => .lit (.int .i64 (xs.length : Int))) hd ?_ (fun _ => next)
  intro a w hs
  have hsrc := h2 a w hs
  have e1 := h1.lit rfl hs
  obtain ⟨ad, cp, e, hlc, hcm, hcase⟩ := hs.mem.holds _ (List.mem_of_getElem? hM)
  cases e
  rcases hcase with ⟨h3, _⟩ | ⟨g', off', cur, lo, hi, h4, hcur, hsz, hfr, hrE⟩
  · cases h3
  cases h4
  have hmul : (j + xs.length) * k ≤ cap * k := Nat.mul_le_mul_right _ hc
  rw [Nat.add_mul] at hmul
  obtain ⟨news, hn1, hn2, hrun⟩ := run_copy (ty := ty) (T' := T') (dc := dc) hT hE hcur (p := off + j * k) (by omega) (by omega) hsrc hq
  have hlt : (es.take j ++ xs ++ es.drop (j + xs.length)).length ≤ cap := by simp only [List.length_append, List.length_take, List.length_drop]; omega
  refine ⟨.int .i64 (xs.length : Int), { w with heap := w.heap.setIfInBounds g (.cells (wr cur (off + j * k) news.toList) U (lo, hi)) }, (), ?_, ?_, Rep.lit _⟩
  · simp only [execOp, resolve, invoke, builtin, Sem.run_bind, Sem.run_pure, Result.andThen_ok, List.map_toArray, List.map_cons, List.map_nil, e1, hrun]
  · refine hs.write hM rfl rfl ?_
    intro w' hother hnew hk'
    have hnl : news.toList.length = xs.length * k := by simpa using hn1
    refine ⟨some ⟨g, off, none⟩, cap, by rw [hn'], hlt, hcm, .inr ⟨g, off, _, lo, hi, rfl, hnew, ?_, hfr, ?_⟩⟩
    · rw [wr_size _ _ _ (by omega)]; exact hsz
    · simp only [wr, List.toList_toArray]
      exact RepE.over (RepE.keep hk' _ _ _ hrE) (RepE.keep hk' _ _ _ hn2) hnl hj (by simp; omega)

/-- an operation whose value nobody keeps -/
theorem W.opn {ι : Type} {op : Op} (Mf : ι → List ME)
    (step : ∀ a w, St x L M a w → ∃ w' v z, (execOp a.eval ⟨none, op, ty, "", #[], none⟩).run x.P w = .ok (.value v) w' ∧ St x L (Mf z) a w')
    (next : ∀ z, W x L (Mf z) (wpList x.P ops Q rest)) : W x L M (wpList x.P ops Q (⟨none, op, ty, pos, aft, none⟩ :: rest)) := by
  intro a w hs
  obtain ⟨w', v, z, hr, hs'⟩ := step a w hs
  refine wpList_cons_want (by simp [Region.wanted]) ?_
  unfold Oper.wp
  rw [execOp_bare, hr]
  exact next z _ _ hs'
/-- what lies behind the elements is cleared -/
theorem W.clear (i : Nat) {T E k bytes : Nat} {z : Value} {o1 : Operand} {g off n cap j m c U : Nat} {es : List AV} (h1 : Ov true L o1 (.lit (.slice (some ⟨g, off + j * k, none⟩) m c))) (hM : M[i]? = some (ME.arr (.slice (some ⟨g, off, none⟩) n cap) U k es))
    (hT : x.P.underlying T = some (.slice E)) (hE : Ty x.P E k bytes z) (hzk : z.cells.size = k) (hz : z.cells.toList.all (fun v => shV v == 0) = true) (hj : es.length ≤ j) (hc : j + m ≤ cap)
    (next : W x L M (wpList x.P ops Q rest)) :
    W x L M (wpList x.P ops Q (⟨none, .call ⟨.builtin .clear, #[o1], #[T]⟩, ty, pos, aft, none⟩ :: rest)) := by
  have hset := set_self hM
  rw [← hset] at next
  refine W.opn (ι := Unit) (fun _ => M.set i (ME.arr (.slice (some ⟨g, off, none⟩) n cap) U k es)) ?_ (fun _ => next)
  intro a w hs
  have e1 := h1.lit rfl hs
  obtain ⟨ad, cp, e, hlc, hcm, hcase⟩ := hs.mem.holds _ (List.mem_of_getElem? hM)
  cases e
  rcases hcase with ⟨h3, _⟩ | ⟨g', off', cur, lo, hi, h4, hcur, hsz, hfr, hrE⟩
  · cases h3
  cases h4
  by_cases hm : m = 0
  · subst hm
    refine ⟨w, .tuple #[], (), ?_, by rw [hset]; exact hs⟩
    simp [execOp, resolve, invoke, builtin, e1, Builtin.clear_, run_underlying hT]
  · have hzs : (Builtin.zeroCells z.cells m).size = m * k := by simp [Builtin.zeroCells, hzk]
    have hmul : (j + m) * k ≤ cap * k := Nat.mul_le_mul_right _ hc
    rw [Nat.add_mul] at hmul
    have hzl : (Builtin.zeroCells z.cells m).toList.length = m * k := by rw [Array.length_toList]; exact hzs
    have hz0 : ∀ u ∈ (Builtin.zeroCells z.cells m).toList, shV u = 0 := by
      intro u hu
      simp only [Builtin.zeroCells, Array.toList_map, List.mem_map] at hu
      obtain ⟨q, hq, rfl⟩ := hu
      have hq' : q < m * z.cells.size := by simpa using hq
      have hpos : 0 < z.cells.size := by rcases Nat.eq_zero_or_pos z.cells.size with h | h; rw [h] at hq'; omega; exact h
      have hlt : q % z.cells.size < z.cells.size := Nat.mod_lt _ hpos
      rw [List.all_eq_true] at hz
      have := hz (z.cells[q % z.cells.size]!) (by rw [Array.mem_toList_iff, getElem!_pos z.cells _ hlt]; exact Array.getElem_mem hlt)
      simpa using this
    have hst := run_storeCells (P := x.P) (g := g) (off := off + j * k) (T := U) (lo := lo) (hi := hi) (Builtin.zeroCells z.cells m).toList 0 cur w hcur (by omega) (by omega) hz0
    rw [Nat.add_zero] at hst
    refine ⟨{ w with heap := w.heap.setIfInBounds g (.cells (wr cur (off + j * k) (Builtin.zeroCells z.cells m).toList) U (lo, hi)) }, .tuple #[], (), ?_, ?_⟩
    · simp only [execOp, resolve, invoke, builtin, Sem.run_bind, Sem.run_pure, Result.andThen_ok, List.map_toArray, List.map_cons, List.map_nil, e1, Builtin.clear_, List.getElem?_toArray, List.getElem?_cons_zero, run_underlying hT]
      cases m with
      | zero => exact absurd rfl hm
      | succ m => simp only [Sem.run_bind, hE.zero, Result.andThen_ok, hst, Sem.run_pure]
    · refine hs.write hM rfl rfl ?_
      intro w' hother hnew hk'
      have hlen := hrE.len
      have hjm : es.length * k ≤ j * k := Nat.mul_le_mul_right _ hj
      refine ⟨some ⟨g, off, none⟩, cap, rfl, hlc, hcm, .inr ⟨g, off, _, lo, hi, rfl, hnew, ?_, hfr, ?_⟩⟩
      · rw [wr_size _ _ _ (by omega)]; exact hsz
      · refine RepE.congr (RepE.keep hk' _ _ _ hrE) ?_
        have hcl : cur.toList.length = cur.size := Array.length_toList
        simp only [wr, List.toList_toArray]
        rw [List.append_assoc, List.drop_append_of_le_length (by simp; omega), List.drop_take, Nat.add_sub_cancel_left, List.take_append_of_le_length (by simp; omega), List.take_take, Nat.min_eq_left hjm]
/-- a zero value as_ an element -/
theorem RepC.zero {w : World} {N : List Nat} {z : Value} {e : AV} (hz : z.cells.toList.all (fun v => shV v == 0) = true) (he : e = match z.cells.toList with | [v] => if shV z == 1 then .agg [.lit v] else .lit v | l => .agg (l.map .lit)) : RepC w N e z.cells.toList := by
  have hL : ∀ l : List Value, l.all (fun v => shV v == 0) = true → RepL w N (l.map .lit) l := by
    intro l
    induction l with
    | nil => intro _; simp [RepL]
    | cons v l ih =>
      intro hz
      simp only [List.all_cons, Bool.and_eq_true, beq_iff_eq] at hz
      simp only [List.map_cons, RepL]
      exact ⟨v, l, rfl, ⟨hz.1, hz.1, by simp only [RepC, cells_of_sh hz.1]⟩, ih hz.2⟩
  subst he
  have := hL _ hz
  revert this hz
  generalize z.cells.toList = l
  intro hz this
  match l with
  | [] => simpa [RepC] using this
  | [v] =>
    simp only [List.all_cons, List.all_nil, Bool.and_true, beq_iff_eq] at hz
    dsimp only
    split
    · simpa only [RepC, List.map_cons, List.map_nil] using this
    · simp only [RepC, cells_of_sh hz]
  | u :: v :: l => simpa only [RepC] using this
end view
end Go.Vl
end

section
set_option linter.unusedVariables false
set_option linter.unusedSimpArgs false
namespace Go.Vl
section rep
variable {x : Cx} {g : Bool} {L : List (Tmp × Bool × AV)} {M : List ME} {ops : Array Oper} {Q : Exit → Act → World → Prop} {rest : List Oper} {ty : TypeId} {pos : String} {aft : Array Edge}
theorem Ev.mkif {T : TypeId} {o1 : Operand} {v : Value} {td : TypeDesc} (h1 : Ov g L o1 (.lit v)) (hT : x.P.underlying T = some td) (hi : ∀ ms, td ≠ .interface ms) : Ev x g L M (.makeInterface T o1) ty (.lit (.iface T v)) := Ev.pure fun a w hs hg => by
  simp only [execOp, h1.lit hg hs, Instr.makeInterface, Sem.run_bind, run_underlying hT, Result.andThen_ok]
  cases td <;> first | exact absurd rfl (hi _) | simp
/-- the model stands in for internal/bytealg.CountString -/
theorem Ev.cnt {o1 o2 : Operand} {f : FuncId} {fn : Func} {ats : Array TypeId} {l : List UInt8} {c : UInt8} (hf : x.P.funcs[f]? = some fn) (hname : (fn.name == "runtime.NumGoroutine") = false)
    (hb : fn.body.isNone = true) (hn : Extern.findNext fn = none) (he : Extern.find fn = some Extern.BytealgCount.count) (h1 : Ov g L o1 (.str l)) (h2 : Ov g L o2 (.lit (.int .u8 (c.toNat : Int)))) :
    Ev x g L M (.call ⟨.value (.func f), #[o1, o2], ats⟩) ty (.lit (.int .i64 (l.count c : Int))) :=
  Ev.pure fun a w hst hg => by
    have e1 : a.eval o1 = .string ⟨l.toArray⟩ := h1.lit hg hst
    have e2 : a.eval o2 = .int .u8 (c.toNat : Int) := h2.lit hg hst
    have hv : a.eval (.func f) = .func (.func f) #[] #[] := rfl
    have hc : ((c.toNat : Int)).toNat.toUInt8 = c := by simp
    have hr : (callFunc f #[.string ⟨l.toArray⟩, .int .u8 (c.toNat : Int)]).run x.P w = .ok (.value (.int .i64 (l.count c : Int))) w := by
      rw [run_callFunc_extern hf hname hb hn he, Lib.run_countString, Result.andThen_ok, hc]
      rfl
    simp only [execOp, resolve, hv, Deferred.ofValue, Sem.run_bind, Sem.run_pure, Result.andThen_ok, invoke, List.map_toArray, List.map_cons, List.map_nil, e1, e2]
    simpa using hr
end rep
end Go.Vl
end

section
set_option linter.unusedVariables false
set_option linter.unusedSimpArgs false
namespace Go.Vl
namespace Une
theorem snocInd {α : Type} {p : List α → Prop} (nil : p []) (snoc : ∀ l c, p l → p (l ++ [c])) (l : List α) : p l := by
  have h : ∀ r : List α, p r.reverse := by
    intro r
    induction r with
    | nil => exact nil
    | cons c r ih => rw [List.reverse_cons]; exact snoc _ _ ih
  have := h l.reverse
  rwa [List.reverse_reverse] at this
/-- what a byte is as_ a digit; 99: none -/
def dv (c : UInt8) : Nat :=
  if 48 ≤ c.toNat ∧ c.toNat ≤ 57 then c.toNat - 48
  else if 97 ≤ (c ||| 32).toNat ∧ (c ||| 32).toNat ≤ 122 then (c ||| 32).toNat - 87 else 99
def val (b : Nat) (ds : List UInt8) : Nat := ds.foldl (fun a c => a * b + dv c) 0
def okd (b : Nat) (ds : List UInt8) : Bool := ds.all fun c => decide (dv c < b)
def sgn (c : UInt8) : Bool := c == 43 || c == 45 || c == 95
def rune (n : Nat) : Nat := if n = 0 ∨ 1114111 < n ∨ (55296 ≤ n ∧ n ≤ 57343) then 65533 else n
def num (b most : Nat) (ds : List UInt8) : Nat × Bool :=
  if ds = [] ∨ most < ds.length ∨ ds.any sgn = true ∨ okd b ds = false then (0, false) else (rune (val b ds), true)
def nmd (s : List UInt8) : Nat :=
  if s = [97, 109, 112] then 38 else if s = [108, 116] then 60 else if s = [103, 116] then 62 else if s = [113, 117, 111, 116] then 34
  else if s = [110, 98, 115, 112] then 160 else if s = [99, 111, 112, 121] then 169 else 0
def ltr (s : List UInt8) : Nat × Bool :=
  if s.take 1 = [35] then
    (if s.drop 1 = [] ∨ ((s.drop 1).getD 0 0 ≠ 120 ∧ (s.drop 1).getD 0 0 ≠ 88) then num 10 7 (s.drop 1) else num 16 6 (s.drop 2))
  else (nmd s, nmd s != 0)
theorem rune_ok (n : Nat) : 1 ≤ rune n ∧ rune n ≤ 1114111 ∧ ¬ (55296 ≤ rune n ∧ rune n ≤ 57343) := by
  unfold rune; split <;> omega
theorem num_ok (b most : Nat) (ds : List UInt8) (h : (num b most ds).2 = true) : ds ≠ [] ∧ 1 ≤ (num b most ds).1 ∧ (num b most ds).1 ≤ 1114111 ∧ ¬ (55296 ≤ (num b most ds).1 ∧ (num b most ds).1 ≤ 57343) := by
  unfold num at h ⊢
  split
  · rename_i h'; rw [if_pos h'] at h; cases h
  · rename_i h'; exact ⟨fun e => h' (.inl e), rune_ok _⟩
theorem nmd_ok (s : List UInt8) (h : nmd s ≠ 0) : 2 ≤ s.length ∧ nmd s ≤ 169 := by
  unfold nmd at h ⊢
  repeat' split
  all_goals first | (subst_vars; decide) | (rename_i h'; rw [h']; decide) | (exfalso; simp_all; done)
/-- a letter that is one has room for its bytes -/
theorem ltr_ok (s : List UInt8) (h : (ltr s).2 = true) : 2 ≤ s.length ∧ 1 ≤ (ltr s).1 ∧ (ltr s).1 ≤ 1114111 ∧ ¬ (55296 ≤ (ltr s).1 ∧ (ltr s).1 ≤ 57343) := by
  unfold ltr at h ⊢
  by_cases h1 : s.take 1 = [35]
  · rw [if_pos h1] at h ⊢
    have hl : (s.take 1).length = 1 := by rw [h1]; rfl
    rw [List.length_take] at hl
    split
    · rename_i h2; rw [if_pos h2] at h
      have := num_ok _ _ _ h
      have h3 : (s.drop 1).length ≠ 0 := fun e => this.1 (List.length_eq_zero_iff.1 e)
      rw [List.length_drop] at h3
      exact ⟨by omega, this.2⟩
    · rename_i h2; rw [if_neg h2] at h
      have := num_ok _ _ _ h
      have h3 : (s.drop 2).length ≠ 0 := fun e => this.1 (List.length_eq_zero_iff.1 e)
      rw [List.length_drop] at h3
      exact ⟨by omega, this.2⟩
  · rw [if_neg h1] at h ⊢
    have h2 : nmd s ≠ 0 := by simpa using h
    have := nmd_ok s h2
    exact ⟨this.1, by show 1 ≤ nmd s; omega, by show nmd s ≤ _; omega, by show ¬ (_ ≤ nmd s ∧ _); omega⟩
/-- how far the ; is, behind an & at the start; 0: none that counts -/
def far (s : List UInt8) : Nat := (idxI (fun b => b == 59) s).toNat
/-- what a text at an & is: the letter's bytes and how much of the text it takes -/
def one (s : List UInt8) : List UInt8 × Nat :=
  if s.getD 0 0 = 38 ∧ 0 < far s ∧ (ltr ((s.take (far s)).drop 1)).2 = true then (enc ((ltr ((s.take (far s)).drop 1)).1 : Nat), far s + 1)
  else (s.take 1, 1)
def uneN : Nat → List UInt8 → List UInt8
  | 0, _ => []
  | _ + 1, [] => []
  | n + 1, s => (one s).1 ++ uneN n (s.drop (one s).2)
def une (s : List UInt8) : List UInt8 := uneN s.length s
theorem idx_lt (s : List UInt8) (p : UInt8 → Bool) : idxI p s < s.length := by
  induction s with
  | nil => simp [idxI]
  | cons c r ih => simp only [idxI]; split <;> (simp; try omega)
theorem one_pos (s : List UInt8) : 1 ≤ (one s).2 := by unfold one; split <;> simp
theorem uneN_eq : ∀ (n m : Nat) (s : List UInt8), s.length ≤ n → s.length ≤ m → uneN n s = uneN m s
  | 0, 0, _, _, _ => rfl
  | 0, m + 1, [], _, _ => rfl
  | n + 1, 0, [], _, _ => rfl
  | n + 1, m + 1, [], _, _ => rfl
  | n + 1, m + 1, c :: r, h1, h2 => by
    have h3 := one_pos (c :: r)
    have h4 : ((c :: r).drop (one (c :: r)).2).length ≤ r.length := by rw [List.length_drop]; simp only [List.length_cons]; omega
    simp only [List.length_cons] at h1 h2
    simp only [uneN]
    rw [uneN_eq n m _ (by omega) (by omega)]
theorem une_nil : une [] = [] := rfl
theorem une_cons (s : List UInt8) (h : s ≠ []) : une s = (one s).1 ++ une (s.drop (one s).2) := by
  obtain ⟨c, r, rfl⟩ := List.exists_cons_of_ne_nil h
  have h3 := one_pos (c :: r)
  show (one (c :: r)).1 ++ uneN r.length ((c :: r).drop (one (c :: r)).2) = _
  rw [une, uneN_eq _ _ _ (by rw [List.length_drop]; simp only [List.length_cons]; omega) (Nat.le_refl _)]
theorem one_len (s : List UInt8) (h : s ≠ []) : (one s).1.length ≤ (one s).2 ∧ (one s).2 ≤ s.length := by
  have hl : s.length ≠ 0 := fun e => h (List.length_eq_zero_iff.1 e)
  unfold one
  split
  · rename_i hc
    have h1 := ltr_ok _ hc.2.2
    have h2 := idx_lt s (fun b => b == 59)
    have h3 : ((s.take (far s)).drop 1).length ≤ far s - 1 := by rw [List.length_drop, List.length_take]; omega
    have h4 := (enc_len ((ltr ((s.take (far s)).drop 1)).1 : Nat)).2
    have h5 : (far s : Int) < s.length := by unfold far; omega
    have h6 : 3 ≤ far s := by omega
    have h7 : far s + 1 ≤ s.length := by omega
    generalize enc ((ltr ((s.take (far s)).drop 1)).1 : Nat) = e at h4
    generalize far s = f at h6 h7
    dsimp only
    omega
  · simp only [List.length_take]; omega
/-- letters as_ they are -/
theorem une_raw (c : UInt8) (s : List UInt8) (h : c ≠ 38) : une (c :: s) = c :: une s := by
  rw [une_cons _ (by simp)]
  have : one (c :: s) = ([c], 1) := by unfold one; rw [if_neg (by simp [h])]; rfl
  rw [this]; rfl
theorem far_app (A X : List UInt8) (h : ∀ b ∈ A, b ≠ 59) : far (A ++ 59 :: X) = A.length := by
  unfold far; rw [Pc.idx_app A X h]; rfl
/-- letters by what stands between & and ; -/
theorem une_ltr (A X : List UInt8) (h : ∀ b ∈ A, b ≠ 59) (hl : (ltr A).2 = true) : une (38 :: A ++ 59 :: X) = enc ((ltr A).1 : Nat) ++ une X := by
  rw [une_cons _ (by simp)]
  have hf : far (38 :: A ++ 59 :: X) = A.length + 1 := by
    rw [far_app (38 :: A) X (by intro b hb; rcases List.mem_cons.1 hb with rfl | hb; decide; exact h b hb)]; rfl
  have ht : ((38 :: A ++ 59 :: X).take (A.length + 1)).drop 1 = A := by simp
  have : one (38 :: A ++ 59 :: X) = (enc ((ltr A).1 : Nat), A.length + 2) := by
    unfold one; rw [hf, ht, if_pos ⟨by simp, by omega, hl⟩]
  rw [this]
  congr 1
  show une ((38 :: A ++ 59 :: X).drop (A.length + 2)) = _
  congr 1
  rw [show 38 :: A ++ 59 :: X = (38 :: A ++ [59]) ++ X from by simp, List.drop_append_of_le_length (by simp), List.drop_of_length_le (by simp)]; rfl
theorem enc_nm (c : UInt8) (h : c = 38 ∨ c = 60 ∨ c = 62 ∨ c = 34) : (ltr (Pc.nm c)).2 = true ∧ enc ((ltr (Pc.nm c)).1 : Nat) = [c] := by
  rcases h with rfl | rfl | rfl | rfl <;> decide
/-- what is escaped is read as_ it was, whatever comes behind -/
theorem une_esc (q : Bool) (s X : List UInt8) : une (esc q s ++ X) = s ++ une X := by
  rw [← Pc.esc_flat]
  have hok := Pc.ok_of q s
  have hf := Pc.fst_of q s
  generalize s.map (Pc.of q) = e at hok hf
  subst hf
  induction e with
  | nil => rfl
  | cons p e ih =>
    have ih' := ih (fun p hp => hok p (List.mem_cons_of_mem _ hp))
    have hp := hok p (List.mem_cons_self ..)
    have h1 : Pc.flat (p :: e) ++ X = Pc.txt p ++ (Pc.flat e ++ X) := by simp [Pc.flat]
    rw [h1, List.map_cons, List.cons_append, ← ih']
    obtain ⟨c, b⟩ := p
    cases b with
    | false => exact une_raw c _ (by simpa [Pc.ok] using hp)
    | true =>
      have hc : c = 38 ∨ c = 60 ∨ c = 62 ∨ c = 34 := by simpa [Pc.ok] using hp
      have h2 := enc_nm c hc
      have h3 : Pc.txt (c, true) ++ (Pc.flat e ++ X) = 38 :: Pc.nm c ++ 59 :: (Pc.flat e ++ X) := by simp [Pc.txt]
      rw [h3, une_ltr _ _ (fun b hb => (Pc.nm_no c b hb).1) h2.1, h2.2]; rfl
theorem une_amp (X : List UInt8) : une (38 :: 97 :: 109 :: 112 :: 59 :: X) = 38 :: une X := by
  have := une_ltr [97, 109, 112] X (by decide) (by decide)
  rw [show enc ((ltr [97, 109, 112]).1 : Nat) = [38] from by decide] at this
  exact this
/-- no ; : nothing is read -/
theorem une_no (s : List UInt8) (h : ∀ b ∈ s, b ≠ 59) : une s = s := by
  induction s with
  | nil => rfl
  | cons c r ih =>
    rw [une_cons _ (by simp)]
    have hi : ∀ l : List UInt8, (∀ b ∈ l, b ≠ 59) → idxI (fun b => b == 59) l = -1 := by
      intro l
      induction l with
      | nil => intro _; rfl
      | cons c r ih2 =>
        intro h
        have h0 := h c (List.mem_cons_self ..)
        have h2 := ih2 (fun b hb => h b (List.mem_cons_of_mem _ hb))
        simp [idxI, h0, h2]
    have : one (c :: r) = ([c], 1) := by unfold one; rw [if_neg (by unfold far; rw [hi _ h]; simp)]; rfl
    rw [this]
    show [c] ++ une r = _
    rw [ih (fun b hb => h b (List.mem_cons_of_mem _ hb))]; rfl
set_option maxRecDepth 100000 in
theorem or32 (c : UInt8) : bits .or .u8 (c.toNat : Int) 32 = ((c ||| 32).toNat : Int) := by
  have h : ∀ n : Fin 256, bits .or .u8 ((n.val : Nat) : Int) 32 = (((UInt8.ofNat n.val) ||| 32).toNat : Int) := by decide
  have := h ⟨c.toNat, c.toNat_lt⟩
  simpa using this
theorem dv_dig (c : UInt8) (h : 48 ≤ c.toNat ∧ c.toNat ≤ 57) : dv c = c.toNat - 48 := if_pos h
theorem dv_let (c : UInt8) (h0 : ¬ (48 ≤ c.toNat ∧ c.toNat ≤ 57)) (h : 97 ≤ (c ||| 32).toNat ∧ (c ||| 32).toNat ≤ 122) : dv c = (c ||| 32).toNat - 87 := by
  unfold dv; rw [if_neg h0, if_pos h]
theorem dv_no (c : UInt8) (h0 : ¬ (48 ≤ c.toNat ∧ c.toNat ≤ 57)) (h : ¬ (97 ≤ (c ||| 32).toNat ∧ (c ||| 32).toNat ≤ 122)) : dv c = 99 := by
  unfold dv; rw [if_neg h0, if_neg h]
theorem val_snoc (b : Nat) (ds : List UInt8) (c : UInt8) : val b (ds ++ [c]) = val b ds * b + dv c := by simp [val]
theorem okd_snoc (b : Nat) (ds : List UInt8) (c : UInt8) (h : okd b ds = true) (hc : dv c < b) : okd b (ds ++ [c]) = true := by
  unfold okd at h ⊢
  rw [List.all_append, h]; simp [hc]
theorem okd_bad (b : Nat) (ds : List UInt8) (c : UInt8) (hm : c ∈ ds) (hc : b ≤ dv c) : okd b ds = false := by
  unfold okd
  rw [List.all_eq_false]
  exact ⟨c, hm, by simp; omega⟩
theorem val_lt (b : Nat) : ∀ ds : List UInt8, okd b ds = true → val b ds < b ^ ds.length := by
  intro ds
  induction ds using snocInd with
  | nil => intro _; simp [val]
  | snoc l c ih =>
    intro h
    unfold okd at h
    rw [List.all_append, Bool.and_eq_true] at h
    have h1 := ih h.1
    have h2 : dv c < b := by simpa using h.2
    rw [val_snoc, List.length_append, List.length_singleton, Nat.pow_succ]
    have : (val b l + 1) * b ≤ b ^ l.length * b := Nat.mul_le_mul_right _ h1
    rw [Nat.add_mul, Nat.one_mul] at this
    omega
theorem val_small (b : Nat) (hb : b = 10 ∨ b = 16) (ds : List UInt8) (hl : ds.length ≤ 7) (h : okd b ds = true) : val b ds < 268435456 := by
  have h1 := val_lt b ds h
  have h2 : b ^ ds.length ≤ 16 ^ ds.length := Nat.pow_le_pow_left (by omega : b ≤ 16) _
  have h3 : 16 ^ ds.length ≤ 16 ^ 7 := Nat.pow_le_pow_right (Nat.le_of_ble_eq_true rfl) hl
  exact Nat.lt_of_lt_of_le h1 (Nat.le_trans h2 (Nat.le_trans h3 (Nat.le_of_ble_eq_true rfl)))
/-- what ParseUint answers -/
def pu (T b : Nat) (s : List UInt8) : AV :=
  if okd b s = true then .tup [.lit (.int .u64 (val b s : Int)), .lit .nilIface] else .tup [.lit (.int .u64 0), .lit (.iface T (.int .i64 2))]
/-- a letter of several bytes ends with one that is no ASCII -/
theorem enc_last (r : Nat) (h : 128 ≤ r ∧ r ≤ 1114111) : ∃ A b, enc (r : Int) = A ++ [b] ∧ 1 ≤ A.length ∧ A.length ≤ 3 ∧ 128 ≤ b.toNat := by
  unfold enc
  have hc : 128 ≤ (if Utf8.valid (r : Int) then (r : Int).toNat else 65533) := by split <;> omega
  generalize (if Utf8.valid (r : Int) then (r : Int).toNat else 65533) = n at hc
  unfold encN
  rw [if_neg (by omega)]
  split
  · exact ⟨[_], _, rfl, by simp, by simp, by rw [o8_toNat _ (by omega)]; omega⟩
  split
  · exact ⟨[_, _], _, rfl, by simp, by simp, by rw [o8_toNat _ (by omega)]; omega⟩
  · exact ⟨[_, _, _], _, rfl, by simp, by simp, by rw [o8_toNat _ (by omega)]; omega⟩
theorem ct_hi {b : UInt8} (h : ct b = true) : ¬ b.toNat < 128 := by
  simp [ct] at h; omega
theorem sgn_lo {b : UInt8} (h : sgn b = true) : b.toNat < 128 := by
  simp only [sgn, Bool.or_eq_true, beq_iff_eq] at h
  rcases h with (rfl | rfl) | rfl <;> decide
/-- the bytes of a letter that is no ASCII hold no sign -/
theorem dec_sgn (l : List UInt8) (hl : l ≠ []) (h : 128 ≤ (dec l).1) : (l.take (dec l).2).any sgn = false := by
  obtain ⟨a, r, rfl⟩ := List.exists_cons_of_ne_nil hl
  rw [List.any_eq_false]
  intro b hb hs
  have hlo := sgn_lo hs
  rcases dec_cases a r with ⟨h1, h2⟩ | ⟨b1, r', rfl, h1, h2⟩ | ⟨b1, b2, r', rfl, h1, h2⟩ | ⟨b1, b2, b3, r', rfl, h1, h2⟩ | ⟨h1, _, _, _, h2⟩
  · rw [h2] at h; dsimp only at h; omega
  · have h3 := k2_hi h1
    simp only [k2, Bool.and_eq_true] at h1
    have h4 := ct_hi h1.1.2
    rw [h2] at hb
    simp only [List.take_succ_cons, List.take_zero, List.mem_cons, List.not_mem_nil, or_false] at hb
    rcases hb with rfl | rfl <;> omega
  · have h3 := (k3_hi h1).1
    simp only [k3, Bool.and_eq_true] at h1
    have h4 := ct_hi h1.1.1.2
    have h5 := ct_hi h1.1.2
    rw [h2] at hb
    simp only [List.take_succ_cons, List.take_zero, List.mem_cons, List.not_mem_nil, or_false] at hb
    rcases hb with rfl | rfl | rfl <;> omega
  · have h3 := (k4_hi h1).1
    simp only [k4, Bool.and_eq_true] at h1
    have h4 := ct_hi h1.1.1.1.2
    have h5 := ct_hi h1.1.1.2
    have h6 := ct_hi h1.1.2
    rw [h2] at hb
    simp only [List.take_succ_cons, List.take_zero, List.mem_cons, List.not_mem_nil, or_false] at hb
    rcases hb with rfl | rfl | rfl | rfl <;> omega
  · rw [h2] at hb
    simp only [er, List.take_succ_cons, List.take_zero, List.mem_cons, List.not_mem_nil, or_false] at hb
    subst hb; omega
/-- an ASCII letter is its byte -/
theorem dec_asc (l : List UInt8) (hl : l ≠ []) (h : (dec l).1 < 128) : (dec l).2 = 1 ∧ ∃ b, l.take 1 = [b] ∧ (dec l).1 = b.toNat := by
  obtain ⟨h1, h2⟩ := dec_low l hl h
  obtain ⟨a, r, rfl⟩ := List.exists_cons_of_ne_nil hl
  refine ⟨h1, a, rfl, ?_⟩
  have : a = o8 (dec (a :: r)).1 := by simpa using h2
  rw [this, o8_toNat _ (by have := dec_le (a :: r); omega)]
  rw [← this]
theorem rune_t (n : Nat) (h : (((n : Int) == 0 || decide ((1114111 : Int) < n)) || !Utf8.valid (IntKind.i32.wrap n)) = true) : rune n = 65533 := by
  unfold rune
  refine if_pos ?_
  simp only [Bool.or_eq_true, decide_eq_true_eq, beq_iff_eq, Bool.not_eq_true'] at h
  rcases h with (h | h) | h
  · exact .inl (by omega)
  · exact .inr (.inl (by omega))
  · by_cases h1 : 1114111 < n
    · exact .inr (.inl h1)
    · rw [IntWalk.i32_in _ (by omega)] at h
      right; right
      have h2 : ¬ Utf8.valid (n : Int) = true := by rw [h]; decide
      rw [valid_iff] at h2
      omega
theorem rune_f (n : Nat) (hn : n < 268435456) (h : (((n : Int) == 0 || decide ((1114111 : Int) < n)) || !Utf8.valid (IntKind.i32.wrap n)) = false) : rune n = n ∧ n ≤ 1114111 := by
  simp only [Bool.or_eq_false_iff, decide_eq_false_iff_not, beq_eq_false_iff_ne, ne_eq, Bool.not_eq_false'] at h
  rw [IntWalk.i32_in _ (by omega), valid_iff] at h
  refine ⟨if_neg (by omega), by omega⟩
theorem uneN_len : ∀ (n : Nat) (s : List UInt8), s.length ≤ n → (uneN n s).length ≤ s.length
  | 0, _, _ => Nat.zero_le _
  | _ + 1, [], _ => Nat.zero_le _
  | n + 1, c :: r, h => by
    have h1 := one_len (c :: r) (by simp)
    have h2 := one_pos (c :: r)
    have h3 : ((c :: r).drop (one (c :: r)).2).length = (c :: r).length - (one (c :: r)).2 := List.length_drop ..
    simp only [List.length_cons] at h h1 h3
    have h4 := uneN_len n ((c :: r).drop (one (c :: r)).2) (by omega)
    simp only [uneN, List.length_append, List.length_cons]
    omega
theorem une_len (s : List UInt8) : (une s).length ≤ s.length := uneN_len _ _ (Nat.le_refl _)
theorem une_parts (q : Bool) (s t : List UInt8) : une ((esc q s ++ [38, 97, 109, 112, 59]) ++ t) = (s ++ [38]) ++ une t := by
  rw [List.append_assoc, une_esc]
  show s ++ une (38 :: 97 :: 109 :: 112 :: 59 :: t) = _
  rw [une_amp]; simp
/-- the letter of a digit -/
def dc (d : Nat) : UInt8 := ([48, 49, 50, 51, 52, 53, 54, 55, 56, 57, 97, 98, 99, 100, 101, 102] : List UInt8).getD d 0
/-- a number's digits; none of 0 -/
def dg (b x : Nat) : List UInt8 := if h : x = 0 ∨ b < 2 then [] else dg b (x / b) ++ [dc (x % b)]
termination_by x
decreasing_by exact Nat.div_lt_self (by omega) (by omega)
theorem dg_zero (b : Nat) : dg b 0 = [] := by rw [dg]; simp
theorem dg_pos (b x : Nat) (hb : 2 ≤ b) (hx : 0 < x) : dg b x = dg b (x / b) ++ [dc (x % b)] := by
  rw [dg, dif_neg (by omega)]
theorem dg_ind (b : Nat) (hb : 2 ≤ b) {p : Nat → Prop} (h0 : p 0) (hs : ∀ x, 0 < x → p (x / b) → p x) (x : Nat) : p x := by
  induction x using Nat.strongRecOn with
  | ind x ih =>
    rcases Nat.eq_zero_or_pos x with rfl | hx
    · exact h0
    · exact hs x hx (ih _ (Nat.div_lt_self hx hb))
theorem dc_facts : ∀ d : Fin 16, dv (dc d.val) = d.val ∧ sgn (dc d.val) = false ∧ dc d.val ≠ 59 ∧ (d.val < 10 → (dc d.val).toNat < 58) := by decide
theorem dg_all (b : Nat) (hb : 2 ≤ b ∧ b ≤ 16) (x : Nat) : ∀ c ∈ dg b x, dv c < b ∧ sgn c = false ∧ c ≠ 59 ∧ (b ≤ 10 → c.toNat < 58) := by
  induction x using dg_ind b hb.1 with
  | h0 => rw [dg_zero]; simp
  | hs x hx ih =>
    rw [dg_pos b x hb.1 hx]
    intro c hc
    rcases List.mem_append.1 hc with h | h
    · exact ih c h
    · have hm : x % b < b := Nat.mod_lt _ (by omega)
      have hf := dc_facts ⟨x % b, by omega⟩
      rw [List.mem_singleton.1 h]
      exact ⟨by rw [hf.1]; exact hm, hf.2.1, hf.2.2.1, fun h => hf.2.2.2 (by show x % b < 10; omega)⟩
theorem dg_val (b : Nat) (hb : 2 ≤ b ∧ b ≤ 16) (x : Nat) : val b (dg b x) = x := by
  induction x using dg_ind b hb.1 with
  | h0 => rw [dg_zero]; rfl
  | hs x hx ih =>
    have hm : x % b < b := Nat.mod_lt _ (by omega)
    rw [dg_pos b x hb.1 hx, val_snoc, ih, (dc_facts ⟨x % b, by omega⟩).1]
    show x / b * b + x % b = x
    rw [Nat.mul_comm]; exact Nat.div_add_mod x b
theorem dg_len (b : Nat) (hb : 2 ≤ b) : ∀ (n x : Nat), x < b ^ n → (dg b x).length ≤ n
  | 0, x, h => by
    rw [Nat.pow_zero] at h
    rw [show x = 0 by omega, dg_zero]; exact Nat.le_refl _
  | n + 1, x, h => by
    rcases Nat.eq_zero_or_pos x with rfl | hx
    · rw [dg_zero]; exact Nat.zero_le _
    · have h1 := dg_len b hb n (x / b) (Nat.div_lt_of_lt_mul (by rw [Nat.pow_succ, Nat.mul_comm] at h; exact h))
      rw [dg_pos b x hb hx, List.length_append, List.length_singleton]
      omega
theorem dg_ne (b x : Nat) (hb : 2 ≤ b) (hx : 0 < x) : dg b x ≠ [] := by rw [dg_pos b x hb hx]; simp
theorem num_dg (b most : Nat) (hb : 2 ≤ b ∧ b ≤ 16) (x : Nat) (hx : 0 < x) (hl : (dg b x).length ≤ most) : num b most (dg b x) = (rune x, true) := by
  have ha := dg_all b hb x
  unfold num
  rw [dg_val b hb x]
  refine if_neg ?_
  rintro (h | h | h | h)
  · exact dg_ne b x hb.1 hx h
  · omega
  · obtain ⟨c, hc, h⟩ := List.any_eq_true.1 h
    rw [(ha c hc).2.1] at h; cases h
  · have : okd b (dg b x) = true := by unfold okd; rw [List.all_eq_true]; intro c hc; exact decide_eq_true (ha c hc).1
    rw [this] at h; cases h
theorem une_dec (x : Nat) (hx : 0 < x) (h : x < 10000000) : une (([38, 35] ++ dg 10 x) ++ [59]) = enc (rune x : Nat) := by
  have hl := dg_len 10 (by decide) 7 x h
  have ha := dg_all 10 (by decide) x
  have hne := dg_ne 10 x (by decide) hx
  have h1 : ltr (35 :: dg 10 x) = (rune x, true) := by
    rw [← num_dg 10 7 (by decide) x hx hl]
    unfold ltr
    rw [if_pos (by rfl)]
    refine if_pos (.inr ?_)
    obtain ⟨c, r, hcr⟩ := List.exists_cons_of_ne_nil hne
    have hc := (ha c (by rw [hcr]; exact List.mem_cons_self)).2.2.2 (by decide)
    show (dg 10 x).getD 0 0 ≠ 120 ∧ (dg 10 x).getD 0 0 ≠ 88
    rw [hcr]
    show c ≠ 120 ∧ c ≠ 88
    exact ⟨fun e => by rw [e] at hc; exact absurd hc (by decide), fun e => by rw [e] at hc; exact absurd hc (by decide)⟩
  have h2 := une_ltr (35 :: dg 10 x) [] (by intro b hb; rcases List.mem_cons.1 hb with rfl | hb; decide; exact (ha b hb).2.2.1) (by rw [h1])
  rw [h1, une_nil, List.append_nil] at h2
  exact h2
theorem une_hex (k : UInt8) (hk : k = 120 ∨ k = 88) (x : Nat) (hx : 0 < x) (h : x < 16777216) : une (([38, 35, k] ++ dg 16 x) ++ [59]) = enc (rune x : Nat) := by
  have hl := dg_len 16 (by decide) 6 x h
  have ha := dg_all 16 (by decide) x
  have h1 : ltr (35 :: k :: dg 16 x) = (rune x, true) := by
    rw [← num_dg 16 6 (by decide) x hx hl]
    unfold ltr
    rw [if_pos (by rfl)]
    refine if_neg ?_
    show ¬ (k :: dg 16 x = [] ∨ (k ≠ 120 ∧ k ≠ 88))
    rintro (h | ⟨h1, h2⟩)
    · cases h
    · rcases hk with h | h
      · exact h1 h
      · exact h2 h
  have h2 := une_ltr (35 :: k :: dg 16 x) [] (by intro b hb; rcases List.mem_cons.1 hb with rfl | hb; decide; rcases List.mem_cons.1 hb with rfl | hb; (rcases hk with rfl | rfl <;> decide); exact (ha b hb).2.2.1) (by rw [h1])
  rw [h1, une_nil, List.append_nil] at h2
  exact h2
theorem une_open (x : Nat) : une ([38, 35] ++ dg 10 x) = [38, 35] ++ dg 10 x := by
  have ha := dg_all 10 (by decide) x
  exact une_no _ (by intro b hb; rcases List.mem_cons.1 hb with rfl | hb; decide; rcases List.mem_cons.1 hb with rfl | hb; decide; exact (ha b hb).2.2.1)
theorem dig1 (b d : Nat) (h : d < b) (hb : b = 10 ∨ b = 16) (A : List UInt8) (hA : A = (if b = 10 then [48, 49, 50, 51, 52, 53, 54, 55, 56, 57] else [48, 49, 50, 51, 52, 53, 54, 55, 56, 57, 97, 98, 99, 100, 101, 102])) : (A.drop d).take 1 = [dc d] := by
  subst hA
  rcases hb with rfl | rfl
  · exact (by decide : ∀ d : Fin 10, (([48, 49, 50, 51, 52, 53, 54, 55, 56, 57] : List UInt8).drop d.val).take 1 = [dc d.val]) ⟨d, h⟩
  · exact (by decide : ∀ d : Fin 16, (([48, 49, 50, 51, 52, 53, 54, 55, 56, 57, 97, 98, 99, 100, 101, 102] : List UInt8).drop d.val).take 1 = [dc d.val]) ⟨d, h⟩
end Une
open Go Go.Sem
section
variable {x : Cx} {g : Bool} {L : List (Tmp × Bool × AV)} {M : List ME} {ty : TypeId} {T T' : TypeId} {o1 o2 : Operand}
theorem Ev.shlw {c : Nat} {k yk : IntKind} {m y : Int} (h1 : Ov g L o1 (.lit (.int k m))) (h2 : Ov g L o2 (.lit (.int yk y))) (hc : y = c) (hb : Nat.ble c k.bits = true) : Ev x g L M (.binOp .shl T o1 o2 T') ty (.lit (.int k (k.wrap (m * 2 ^ c)))) :=
  Ev.pure fun a w hs hg => by
    have hb' := Nat.le_of_ble_eq_true hb
    subst hc
    simp only [execOp, h1.lit hg hs, h2.lit hg hs, eqGuard_at_int, Sem.run_bind, Sem.run_pure, Result.andThen_ok, binOp_shl, shift_shl_any k yk m (c : Int) (by omega), Int.toNat_natCast, Nat.min_eq_left hb']
/-- an interface's value held against nil -/
theorem Ev.nenif {u : TypeId} {v : Value} (h1 : Ov g L o1 (.lit (.iface u v))) (hT : x.P.isIface T = true) : Ev x g L M (.binOp .neq T o1 (.const .nilIface) T') ty (.lit (.bool true)) := Ev.pure fun a w hs hg => by
  have hv : a.eval (.const .nilIface) = .nilIface := rfl
  simp only [execOp, h1.lit hg hs, hv, eqGuard_at_iface, Sem.run_bind, Sem.run_pure, Result.andThen_ok, run_neq_iface_nil w T hT]
theorem Ev.nenn (h1 : Ov g L o1 (.lit .nilIface)) (hT : x.P.isIface T = true) : Ev x g L M (.binOp .neq T o1 (.const .nilIface) T') ty (.lit (.bool false)) := Ev.pure fun a w hs hg => by
  have hv : a.eval (.const .nilIface) = .nilIface := rfl
  simp only [execOp, h1.lit hg hs, hv, eqGuard_nil_constR, Sem.run_bind, Sem.run_pure, Result.andThen_ok, run_neq_nil_nil_at w T hT]
/-- numbers behind interfaces -/
theorem Ev.eqif {tx : TypeId} {ms : Array (String × TypeId)} {k q : IntKind} {m n : Int} (h1 : Ov g L o1 (.lit (.iface tx (.int k m)))) (h2 : Ov g L o2 (.lit (.iface tx (.int k n))))
    (hT : x.P.underlying T = some (.interface ms)) (hc : (x.P.info? tx).map (·.comparable) = some true) (hx : x.P.underlying tx = some (.int q)) : Ev x g L M (.binOp .eql T o1 o2 T') ty (.lit (.bool (m == n))) := Ev.pure fun a w hs hg => by
  simp only [execOp, h1.lit hg hs, h2.lit hg hs, eqGuard_at_iface, Sem.run_bind, Sem.run_pure, Result.andThen_ok, Lib.run_eql_iface_int w m n hT hc hx]
/-- numbers behind interfaces, held against each other -/
theorem Ev.neif {tx : TypeId} {ms : Array (String × TypeId)} {k q : IntKind} {m n : Int} (h1 : Ov g L o1 (.lit (.iface tx (.int k m)))) (h2 : Ov g L o2 (.lit (.iface tx (.int k n))))
    (hT : x.P.underlying T = some (.interface ms)) (hc : (x.P.info? tx).map (·.comparable) = some true) (hx : x.P.underlying tx = some (.int q)) : Ev x g L M (.binOp .neq T o1 o2 T') ty (.lit (.bool (m != n))) := Ev.pure fun a w hs hg => by
  have := Lib.run_neq_iface_int (P := x.P) (k := k) w m n hT hc hx
  simp only [execOp, h1.lit hg hs, h2.lit hg hs, eqGuard_at_iface, Sem.run_bind, Sem.run_pure, Result.andThen_ok, this]
  rfl
/-- a letter as_ a text -/
theorem Ev.r2s {k : IntKind} {r : Int} {d : TypeDesc} (h1 : Ov g L o1 (.lit (.int k r))) (hT : x.P.underlying T = some d) (hT' : x.P.underlying T' = some .string) : Ev x g L M (.convert T T' o1) ty (.str (enc r)) := by
  have he : (⟨(enc r).toArray⟩ : ByteArray) = Utf8.encode r := by
    unfold enc Utf8.encode
    have hr : Utf8.runeError = 65533 := rfl
    rw [hr]
    dsimp only
    generalize (if Utf8.valid r = true then r.toNat else 65533) = c
    unfold encN
    by_cases h1 : c < 128
    · rw [if_pos h1, if_pos h1]; rfl
    rw [if_neg h1, if_neg h1]
    by_cases h2 : c < 2048
    · rw [if_pos h2, if_pos h2]; rfl
    rw [if_neg h2, if_neg h2]
    by_cases h3 : c < 65536
    · rw [if_pos h3, if_pos h3]; rfl
    · rw [if_neg h3, if_neg h3]; rfl
  refine Ev.pure fun a w hs hg => ?_
  rw [he]
  simp only [execOp, h1.lit hg hs, Sem.run_bind, run_convert_int_string w T T' k r (by rw [hT]; rfl) hT', Result.andThen_ok, Sem.run_pure]
end
theorem W.scope {x : Cx} {L : List (Tmp × Bool × AV)} {M : List ME} {Q : Exit → Act → World → Prop} {c : Code} (h : W x L M (Code.wp x.P c (Exit.noGoto Q))) : W x L M (Code.wp x.P (.scope c) Q) := fun a w hs => wp_scope_straight (h a w hs)
theorem W.sc_ret {x : Cx} {L : List (Tmp × Bool × AV)} {M : List ME} {Q : Exit → Act → World → Prop} (h : W x L M (Q .ret)) : W x L M (Exit.noGoto Q .ret) := h
end Go.Vl
end

section
set_option linter.unusedVariables false
set_option linter.unusedSimpArgs false
set_option maxRecDepth 100000
namespace Go.Proofs.YtohncieijjhnjaaDoor
open Go.Vl

namespace Base

theorem tmod_neg (a n : Int) (hn : 0 < n) (h : a.tmod n < 0) : a.tmod n + n = a % n := by
  have h1 := Int.tmod_eq_emod (a := a) (b := n)
  have h2 := Int.emod_nonneg a (by omega : n ≠ 0)
  have h3 := Int.emod_lt_of_pos a hn
  have h4 : (n.natAbs : Int) = n := by omega
  rw [h1] at h ⊢
  split at h <;> split <;> omega
theorem tmod_nonneg (a n : Int) (hn : 0 < n) (h : ¬ a.tmod n < 0) : a.tmod n = a % n := by
  have h1 := Int.tmod_eq_emod (a := a) (b := n)
  have h2 := Int.emod_nonneg a (by omega : n ≠ 0)
  have h3 := Int.emod_lt_of_pos a hn
  have h4 : (n.natAbs : Int) = n := by omega
  rw [h1] at h ⊢
  split at h <;> split <;> omega
theorem tmod_gt (a n : Int) (hn : 0 < n) : -n < a.tmod n ∧ a.tmod n < n := by
  have h1 := Int.tmod_eq_emod (a := a) (b := n)
  have h2 := Int.emod_nonneg a (by omega : n ≠ 0)
  have h3 := Int.emod_lt_of_pos a hn
  have h4 : (n.natAbs : Int) = n := by omega
  rw [h1]
  split <;> omega

theorem c_Picked (a n : Int) (hn : 0 < n) (hb : n ≤ 4611686018427387904) : FnP Tryd.prog 10 [.int a, .int n] (.int (a % n)) :=  by
  refine FnC.mk Tryd.func10 (by kernel_rfl) rfl Tryd.ntmps10 rfl (fun w0 F => ?_)
  have htm := tmod_gt a n hn
  refine W.seq ?_
  refine W.region ?_
  refine W.q (Ev.assign .k) rfl ?_
  refine W.nil ?_
  refine W.then ?_
  refine W.seq ?_
  refine W.region ?_
  refine W.q (Ev.move (.t rfl)) rfl ?_
  refine W.q (Ev.move (.t rfl)) rfl ?_
  first | refine W.q (Ev.rem (.t rfl) (.t rfl) (fun _ => by decide)) rfl ?_ | refine W.q (Ev.rem (.t rfl) (.t rfl) (fun _ => by omega)) rfl ?_
  refine W.q (Ev.assign (.t rfl)) rfl ?_
  refine W.nil ?_
  refine W.then ?_
  refine W.seq ?_
  refine W.seq ?_
  refine W.region ?_
  refine W.q (Ev.move (.t rfl)) rfl ?_
  refine W.q (Ev.lti (.t rfl) .k) rfl ?_
  refine W.nil ?_
  refine W.then ?_
  refine W.cond (.t rfl) (fun hc_t9 => ?_) (fun hc_t9 => ?_)
  · have h9 := of_decide_eq_true hc_t9
    refine W.seq ?_
    refine W.region ?_
    refine W.q (Ev.move (.t rfl)) rfl ?_
    refine W.q (Ev.move (.t rfl)) rfl ?_
    first | refine W.q (Ev.add (.t rfl) (.t rfl) (fun _ => by omega)) rfl ?_ | refine W.q (Ev.addw (.t rfl) (.t rfl)) rfl ?_
    refine W.q (Ev.assign (.t rfl)) rfl ?_
    refine W.nil ?_
    refine W.then ?_
    refine W.ret ?_
    refine W.then_ret ?_
    refine W.retn (M' := []) (rs := [.tmp 4]) (avs := [_]) Tryd.results10 ⟨rfl, trivial⟩ rfl (.refl _) ?_
    exact ⟨congrArg AV.int (by first | exact (tmod_neg a n hn h9).symm ▸ rfl | exact tmod_nonneg a n hn h9), rfl⟩
  · have h9 := of_decide_eq_false hc_t9
    refine W.skip ?_
    refine W.then ?_
    refine W.seq ?_
    refine W.region ?_
    refine W.q (Ev.move (.t rfl)) rfl ?_
    refine W.q (Ev.assign (.t rfl)) rfl ?_
    refine W.nil ?_
    refine W.then ?_
    refine W.ret ?_
    refine W.retn (M' := []) (rs := [.tmp 4]) (avs := [_]) Tryd.results10 ⟨rfl, trivial⟩ rfl (.refl _) ?_
    exact ⟨congrArg AV.int (by first | exact (tmod_neg a n hn h9).symm ▸ rfl | exact tmod_nonneg a n hn h9), rfl⟩

end Base

end Go.Proofs.YtohncieijjhnjaaDoor
end

section
set_option linter.unusedVariables false
set_option linter.unusedSimpArgs false
set_option maxRecDepth 100000
namespace Go.Proofs.YtohncieijjhnjaaDoor
open Go.Vl

namespace WBld
theorem ty5 : Ty Tryd.prog 5 1 1 (.int .u8 0) := Ty.of (by kernel_rfl)
theorem ty45 : Ty Tryd.prog 45 1 8 (.pointer none) := Ty.of (by kernel_rfl)
theorem ty46 : Ty Tryd.prog 46 1 24 (.slice none 0 0) := Ty.of (by kernel_rfl)
theorem ty48 : Ty Tryd.prog 48 2 32 (.agg #[.pointer none, .slice none 0 0]) := Ty.of (by kernel_rfl)
theorem ag45 : IsAgg Tryd.prog 45 false := ⟨_, Tryd.underlying45, rfl⟩
theorem ag46 : IsAgg Tryd.prog 46 false := ⟨_, Tryd.underlying46, rfl⟩
theorem fa48_0 : FieldAt Tryd.prog 48 0 0 1 false := ⟨_, _, Tryd.underlying48, rfl, rfl, ty45.size, ag45, by decide⟩
theorem fa48_1 : FieldAt Tryd.prog 48 1 1 1 false := ⟨_, _, Tryd.underlying48, rfl, rfl, ty46.size, ag46, by decide⟩
theorem ni46 : NotInt Tryd.prog 46 := .inl ⟨_, Tryd.underlying46⟩
theorem c_ccNew (b : Nat) (s : Value) : FnC Tryd.prog 39 [.lit (.pointer (some ⟨b, 0, none⟩))] [.box b 48 [.lit (.pointer none), .lit s]] (fun r M => r = .tup [] ∧ M = [.box b 48 [.lit (.pointer (some ⟨b, 0, none⟩)), .lit s]]) :=  by
  refine FnC.mk Tryd.func39 (by kernel_rfl) rfl Tryd.ntmps39 rfl (fun w0 F => ?_)
  refine W.seq ?_
  refine W.region ?_
  refine W.q (Ev.move (.t rfl)) rfl ?_
  refine W.q (Ev.nilc (.t rfl)) rfl ?_
  first | refine W.q (Ev.fae (.t rfl) fa48_0 rfl) rfl ?_ | refine W.q (Ev.fab (.t rfl) fa48_0) rfl ?_ | refine W.q (Ev.faa (.t rfl) fa48_0) rfl ?_
  first | refine W.q (Ev.lde1 (.t rfl) ag45) rfl ?_ | refine W.q (Ev.ldb1 0 (.t rfl) rfl ag45 rfl) rfl ?_ | refine W.q (Ev.ldb1 1 (.t rfl) rfl ag45 rfl) rfl ?_ | refine W.q (Ev.ldb1 2 (.t rfl) rfl ag45 rfl) rfl ?_ | refine W.q (Ev.ldb1 3 (.t rfl) rfl ag45 rfl) rfl ?_
  refine W.q (Ev.eqpn (.t rfl) Tryd.underlying45) rfl ?_
  refine W.nil ?_
  refine W.then ?_
  refine W.is (t := 6) (g := true) (av' := .lit (.bool true)) rfl (congrArg (fun b => AV.lit (.bool b)) (by rfl)) ?_
  refine W.condT (.t rfl) ?_
  refine W.region ?_
  refine W.q (Ev.move (.t rfl)) rfl ?_
  refine W.q (Ev.move (.t rfl)) rfl ?_
  first | refine W.q (Ev.touns 0 (.t rfl) rfl Tryd.underlying45 Tryd.underlying95 ty48) rfl ?_ | refine W.q (Ev.touns 1 (.t rfl) rfl Tryd.underlying45 Tryd.underlying95 ty48) rfl ?_ | refine W.q (Ev.touns 2 (.t rfl) rfl Tryd.underlying45 Tryd.underlying95 ty48) rfl ?_ | refine W.q (Ev.touns 3 (.t rfl) rfl Tryd.underlying45 Tryd.underlying95 ty48) rfl ?_
  refine W.q (Ev.noesc Tryd.func53 (by kernel_rfl) (by kernel_rfl) (by kernel_rfl) (by kernel_rfl) (.t rfl)) rfl ?_
  first | refine W.q (Ev.fromuns 0 (.t rfl) rfl Tryd.underlying95 Tryd.underlying45 ty48 (by kernel_rfl)) rfl ?_ | refine W.q (Ev.fromuns 1 (.t rfl) rfl Tryd.underlying95 Tryd.underlying45 ty48 (by kernel_rfl)) rfl ?_ | refine W.q (Ev.fromuns 2 (.t rfl) rfl Tryd.underlying95 Tryd.underlying45 ty48 (by kernel_rfl)) rfl ?_ | refine W.q (Ev.fromuns 3 (.t rfl) rfl Tryd.underlying95 Tryd.underlying45 ty48 (by kernel_rfl)) rfl ?_
  refine W.q (Ev.nilc (.t rfl)) rfl ?_
  first | refine W.q (Ev.fae (.t rfl) fa48_0 rfl) rfl ?_ | refine W.q (Ev.fab (.t rfl) fa48_0) rfl ?_ | refine W.q (Ev.faa (.t rfl) fa48_0) rfl ?_
  first | refine W.stb 0 (.t rfl) (.t rfl) rfl ty45 rfl rfl rfl ?_ | refine W.stb 1 (.t rfl) (.t rfl) rfl ty45 rfl rfl rfl ?_ | refine W.stb 2 (.t rfl) (.t rfl) rfl ty45 rfl rfl rfl ?_ | refine W.stb 3 (.t rfl) (.t rfl) rfl ty45 rfl rfl rfl ?_
  refine W.nil ?_
  refine W.endn (M' := [.box b 48 _]) (rs := []) (avs := []) Tryd.results39 trivial rfl (.refl _) ?_
  exact ⟨rfl, rfl⟩

theorem c_ccUsed (b : Nat) (s : Value) : FnC Tryd.prog 39 [.lit (.pointer (some ⟨b, 0, none⟩))] [.box b 48 [.lit (.pointer (some ⟨b, 0, none⟩)), .lit s]] (fun r M => r = .tup [] ∧ M = [.box b 48 [.lit (.pointer (some ⟨b, 0, none⟩)), .lit s]]) :=  by
  refine FnC.mk Tryd.func39 (by kernel_rfl) rfl Tryd.ntmps39 rfl (fun w0 F => ?_)
  refine W.seq ?_
  refine W.region ?_
  refine W.q (Ev.move (.t rfl)) rfl ?_
  refine W.q (Ev.nilc (.t rfl)) rfl ?_
  first | refine W.q (Ev.fae (.t rfl) fa48_0 rfl) rfl ?_ | refine W.q (Ev.fab (.t rfl) fa48_0) rfl ?_ | refine W.q (Ev.faa (.t rfl) fa48_0) rfl ?_
  first | refine W.q (Ev.lde1 (.t rfl) ag45) rfl ?_ | refine W.q (Ev.ldb1 0 (.t rfl) rfl ag45 rfl) rfl ?_ | refine W.q (Ev.ldb1 1 (.t rfl) rfl ag45 rfl) rfl ?_ | refine W.q (Ev.ldb1 2 (.t rfl) rfl ag45 rfl) rfl ?_ | refine W.q (Ev.ldb1 3 (.t rfl) rfl ag45 rfl) rfl ?_
  refine W.q (Ev.eqpn (.t rfl) Tryd.underlying45) rfl ?_
  refine W.nil ?_
  refine W.then ?_
  refine W.is (t := 6) (g := true) (av' := .lit (.bool false)) rfl (congrArg (fun b => AV.lit (.bool b)) (by rfl)) ?_
  refine W.condF (.t rfl) ?_
  refine W.seq ?_
  refine W.region ?_
  refine W.q (Ev.move (.t rfl)) rfl ?_
  refine W.q (Ev.nilc (.t rfl)) rfl ?_
  first | refine W.q (Ev.fae (.t rfl) fa48_0 rfl) rfl ?_ | refine W.q (Ev.fab (.t rfl) fa48_0) rfl ?_ | refine W.q (Ev.faa (.t rfl) fa48_0) rfl ?_
  first | refine W.q (Ev.lde1 (.t rfl) ag45) rfl ?_ | refine W.q (Ev.ldb1 0 (.t rfl) rfl ag45 rfl) rfl ?_ | refine W.q (Ev.ldb1 1 (.t rfl) rfl ag45 rfl) rfl ?_ | refine W.q (Ev.ldb1 2 (.t rfl) rfl ag45 rfl) rfl ?_ | refine W.q (Ev.ldb1 3 (.t rfl) rfl ag45 rfl) rfl ?_
  refine W.q (Ev.move (.t rfl)) rfl ?_
  refine W.q (Ev.nep (.t rfl) (.t rfl) Tryd.underlying45 ty48) rfl ?_
  refine W.nil ?_
  refine W.then ?_
  refine W.condF (.t rfl) ?_
  refine W.skip ?_
  refine W.endn (M' := [.box b 48 _]) (rs := []) (avs := []) Tryd.results39 trivial rfl (.refl _) ?_
  exact ⟨rfl, rfl⟩

theorem c_copyCheck (b : Nat) (s : Value) (p : Option Addr) (hp : p = none ∨ p = some ⟨b, 0, none⟩) : FnC Tryd.prog 39 [.lit (.pointer (some ⟨b, 0, none⟩))] [.box b 48 [.lit (.pointer p), .lit s]] (fun r M => r = .tup [] ∧ M = [.box b 48 [.lit (.pointer (some ⟨b, 0, none⟩)), .lit s]]) := by
  rcases hp with rfl | rfl
  · exact c_ccNew b s
  · exact c_ccUsed b s

theorem c_WriteByte (b : Nat) (p : Option Addr) (v : Value) (l : List UInt8) (hp : p = none ∨ p = some ⟨b, 0, none⟩) (hl : l.length ≤ 17592186044416) (y : UInt8) : FnC Tryd.prog 24 [.lit (.pointer (some ⟨b, 0, none⟩)), AV.u8 y] [.box b 48 [.lit (.pointer p), .lit v], .arr v 5 1 (l.map AV.u8)] (fun r M => r = .lit .nilIface ∧ ∃ v', M = [.box b 48 [.lit (.pointer (some ⟨b, 0, none⟩)), .lit v'], .arr v' 5 1 ((l ++ [y]).map AV.u8)]) :=  by
  refine FnC.mk Tryd.func24 (by kernel_rfl) rfl Tryd.ntmps24 rfl (fun w0 F => ?_)
  have hlm : (l.map AV.u8).length = l.length := List.length_map ..
  refine W.seq ?_
  refine W.region ?_
  refine W.q (Ev.assign .k) rfl ?_
  refine W.nil ?_
  refine W.then ?_
  refine W.seq ?_
  refine W.region ?_
  refine W.q (Ev.move (.t rfl)) rfl ?_
  refine W.call (c_copyCheck b v p hp) ⟨(.t rfl), trivial⟩ (.refl _) rfl ?_
  rintro _ _ ⟨rfl, rfl⟩
  refine W.nil ?_
  refine W.then ?_
  refine W.seq ?_
  refine W.region ?_
  refine W.q (Ev.move (.t rfl)) rfl ?_
  refine W.q (Ev.move (.t rfl)) rfl ?_
  refine W.q (Ev.nilc (.t rfl)) rfl ?_
  first | refine W.q (Ev.fae (.t rfl) fa48_1 rfl) rfl ?_ | refine W.q (Ev.fab (.t rfl) fa48_1) rfl ?_ | refine W.q (Ev.faa (.t rfl) fa48_1) rfl ?_
  first | refine W.q (Ev.lde1 (.t rfl) ag46) rfl ?_ | refine W.q (Ev.ldb1 0 (.t rfl) rfl ag46 rfl) rfl ?_ | refine W.q (Ev.ldb1 1 (.t rfl) rfl ag46 rfl) rfl ?_ | refine W.q (Ev.ldb1 2 (.t rfl) rfl ag46 rfl) rfl ?_ | refine W.q (Ev.ldb1 3 (.t rfl) rfl ag46 rfl) rfl ?_
  refine W.q (Ev.move (.t rfl)) rfl ?_
  refine W.bs (es := [_]) Tryd.underlying46 ty5 ⟨rfl, (.t rfl), rfl, rfl, trivial⟩ rfl (by decide) rfl rfl ?_
  first | refine W.app 0 (.t rfl) rfl (.sl (.t rfl) (by first | (simp [AV.okc, shV]; done) | (intro e he; rw [List.mem_singleton.1 he]; rfl))) Tryd.underlying46 ni46 ty5 rfl rfl (by simp; omega) rfl ?_ | refine W.app 1 (.t rfl) rfl (.sl (.t rfl) (by first | (simp [AV.okc, shV]; done) | (intro e he; rw [List.mem_singleton.1 he]; rfl))) Tryd.underlying46 ni46 ty5 rfl rfl (by simp; omega) rfl ?_ | refine W.app 2 (.t rfl) rfl (.sl (.t rfl) (by first | (simp [AV.okc, shV]; done) | (intro e he; rw [List.mem_singleton.1 he]; rfl))) Tryd.underlying46 ni46 ty5 rfl rfl (by simp; omega) rfl ?_ | refine W.app 3 (.t rfl) rfl (.sl (.t rfl) (by first | (simp [AV.okc, shV]; done) | (intro e he; rw [List.mem_singleton.1 he]; rfl))) Tryd.underlying46 ni46 ty5 rfl rfl (by simp; omega) rfl ?_ | refine W.app 0 (.t rfl) rfl (.arr 0 (.t rfl) rfl (by first | (simp [AV.okc, shV]; done) | (intro e he; rw [List.mem_singleton.1 he]; rfl))) Tryd.underlying46 ni46 ty5 rfl rfl (by simp; omega) rfl ?_ | refine W.app 0 (.t rfl) rfl (.arr 1 (.t rfl) rfl (by first | (simp [AV.okc, shV]; done) | (intro e he; rw [List.mem_singleton.1 he]; rfl))) Tryd.underlying46 ni46 ty5 rfl rfl (by simp; omega) rfl ?_ | refine W.app 0 (.t rfl) rfl (.arr 2 (.t rfl) rfl (by first | (simp [AV.okc, shV]; done) | (intro e he; rw [List.mem_singleton.1 he]; rfl))) Tryd.underlying46 ni46 ty5 rfl rfl (by simp; omega) rfl ?_ | refine W.app 0 (.t rfl) rfl (.arr 3 (.t rfl) rfl (by first | (simp [AV.okc, shV]; done) | (intro e he; rw [List.mem_singleton.1 he]; rfl))) Tryd.underlying46 ni46 ty5 rfl rfl (by simp; omega) rfl ?_ | refine W.app 1 (.t rfl) rfl (.arr 0 (.t rfl) rfl (by first | (simp [AV.okc, shV]; done) | (intro e he; rw [List.mem_singleton.1 he]; rfl))) Tryd.underlying46 ni46 ty5 rfl rfl (by simp; omega) rfl ?_ | refine W.app 1 (.t rfl) rfl (.arr 1 (.t rfl) rfl (by first | (simp [AV.okc, shV]; done) | (intro e he; rw [List.mem_singleton.1 he]; rfl))) Tryd.underlying46 ni46 ty5 rfl rfl (by simp; omega) rfl ?_ | refine W.app 1 (.t rfl) rfl (.arr 2 (.t rfl) rfl (by first | (simp [AV.okc, shV]; done) | (intro e he; rw [List.mem_singleton.1 he]; rfl))) Tryd.underlying46 ni46 ty5 rfl rfl (by simp; omega) rfl ?_ | refine W.app 1 (.t rfl) rfl (.arr 3 (.t rfl) rfl (by first | (simp [AV.okc, shV]; done) | (intro e he; rw [List.mem_singleton.1 he]; rfl))) Tryd.underlying46 ni46 ty5 rfl rfl (by simp; omega) rfl ?_ | refine W.app 2 (.t rfl) rfl (.arr 0 (.t rfl) rfl (by first | (simp [AV.okc, shV]; done) | (intro e he; rw [List.mem_singleton.1 he]; rfl))) Tryd.underlying46 ni46 ty5 rfl rfl (by simp; omega) rfl ?_ | refine W.app 2 (.t rfl) rfl (.arr 1 (.t rfl) rfl (by first | (simp [AV.okc, shV]; done) | (intro e he; rw [List.mem_singleton.1 he]; rfl))) Tryd.underlying46 ni46 ty5 rfl rfl (by simp; omega) rfl ?_ | refine W.app 2 (.t rfl) rfl (.arr 2 (.t rfl) rfl (by first | (simp [AV.okc, shV]; done) | (intro e he; rw [List.mem_singleton.1 he]; rfl))) Tryd.underlying46 ni46 ty5 rfl rfl (by simp; omega) rfl ?_ | refine W.app 2 (.t rfl) rfl (.arr 3 (.t rfl) rfl (by first | (simp [AV.okc, shV]; done) | (intro e he; rw [List.mem_singleton.1 he]; rfl))) Tryd.underlying46 ni46 ty5 rfl rfl (by simp; omega) rfl ?_ | refine W.app 3 (.t rfl) rfl (.arr 0 (.t rfl) rfl (by first | (simp [AV.okc, shV]; done) | (intro e he; rw [List.mem_singleton.1 he]; rfl))) Tryd.underlying46 ni46 ty5 rfl rfl (by simp; omega) rfl ?_ | refine W.app 3 (.t rfl) rfl (.arr 1 (.t rfl) rfl (by first | (simp [AV.okc, shV]; done) | (intro e he; rw [List.mem_singleton.1 he]; rfl))) Tryd.underlying46 ni46 ty5 rfl rfl (by simp; omega) rfl ?_ | refine W.app 3 (.t rfl) rfl (.arr 2 (.t rfl) rfl (by first | (simp [AV.okc, shV]; done) | (intro e he; rw [List.mem_singleton.1 he]; rfl))) Tryd.underlying46 ni46 ty5 rfl rfl (by simp; omega) rfl ?_ | refine W.app 3 (.t rfl) rfl (.arr 3 (.t rfl) rfl (by first | (simp [AV.okc, shV]; done) | (intro e he; rw [List.mem_singleton.1 he]; rfl))) Tryd.underlying46 ni46 ty5 rfl rfl (by simp; omega) rfl ?_
  intro v14
  refine W.arr_inv 1 rfl (fun a14 n14 c14 h14 => ?_)
  subst h14
  refine W.q (Ev.nilc (.t rfl)) rfl ?_
  first | refine W.q (Ev.fae (.t rfl) fa48_1 rfl) rfl ?_ | refine W.q (Ev.fab (.t rfl) fa48_1) rfl ?_ | refine W.q (Ev.faa (.t rfl) fa48_1) rfl ?_
  first | refine W.stb 0 (.t rfl) (.t rfl) rfl ty46 rfl rfl rfl ?_ | refine W.stb 1 (.t rfl) (.t rfl) rfl ty46 rfl rfl rfl ?_ | refine W.stb 2 (.t rfl) (.t rfl) rfl ty46 rfl rfl rfl ?_ | refine W.stb 3 (.t rfl) (.t rfl) rfl ty46 rfl rfl rfl ?_
  refine W.nil ?_
  refine W.then ?_
  refine W.seq ?_
  refine W.region ?_
  refine W.q (Ev.assign .k) rfl ?_
  refine W.nil ?_
  refine W.then ?_
  refine W.ret ?_
  refine W.retn (M' := [.box b 48 _, .arr _ 5 1 _]) (rs := [.tmp 4]) (avs := [_]) Tryd.results24 ⟨rfl, trivial⟩ rfl (.refl _) ?_
  exact ⟨rfl, _, by rw [List.map_append]; rfl⟩

theorem c_String (b : Nat) (p : Option Addr) (v : Value) (l : List UInt8) (hp : p = none ∨ p = some ⟨b, 0, none⟩) (hl : l.length ≤ 17592186044416) (hv : v = .slice none 0 0 ∨ l ≠ []) : FnC Tryd.prog 25 [.lit (.pointer (some ⟨b, 0, none⟩))] [.box b 48 [.lit (.pointer p), .lit v], .arr v 5 1 (l.map AV.u8)] (fun r M => r = .str l ∧ M = []) :=  by
  refine FnC.mk Tryd.func25 (by kernel_rfl) rfl Tryd.ntmps25 rfl (fun w0 F => ?_)
  have hlm : (l.map AV.u8).length = l.length := List.length_map ..
  have hve : v = .slice none 0 0 ∨ l.map AV.u8 ≠ [] := hv.imp id (fun h h2 => h (List.map_eq_nil_iff.1 h2))
  refine W.seq ?_
  refine W.region ?_
  refine W.q (Ev.assign .k) rfl ?_
  refine W.nil ?_
  refine W.then ?_
  refine W.seq ?_
  refine W.drawnE (ι := Unit) (fun e c => [.box b 48 [.lit (.pointer p), .lit v], .arr (bif e 10 then deadOf v else v) 5 1 (bif e 10 then [] else l.map AV.u8)]) 10 () (by kernel_rfl) (by kernel_rfl) rfl ?_
  refine DE.q (fun e c hk => (Ev.move (.t rfl))) rfl (fun _ _ => rfl) (by first | exact .inr (fun _ _ => rfl) | exact .inl (by kernel_rfl)) ?_
  refine DE.q (fun e c hk => (Ev.nilc (.t rfl))) rfl (fun _ _ => rfl) (by first | exact .inr (fun _ _ => rfl) | exact .inl (by kernel_rfl)) ?_
  first | refine DE.q (fun e c hk => (Ev.fae (.t rfl) fa48_1 rfl)) rfl (fun _ _ => rfl) (by first | exact .inr (fun _ _ => rfl) | exact .inl (by kernel_rfl)) ?_ | refine DE.q (fun e c hk => (Ev.fab (.t rfl) fa48_1)) rfl (fun _ _ => rfl) (by first | exact .inr (fun _ _ => rfl) | exact .inl (by kernel_rfl)) ?_ | refine DE.q (fun e c hk => (Ev.faa (.t rfl) fa48_1)) rfl (fun _ _ => rfl) (by first | exact .inr (fun _ _ => rfl) | exact .inl (by kernel_rfl)) ?_
  first | refine DE.q (fun e c hk => (Ev.lde1 (.t rfl) ag46)) rfl (fun _ _ => rfl) (by first | exact .inr (fun _ _ => rfl) | exact .inl (by kernel_rfl)) ?_ | refine DE.q (fun e c hk => (Ev.ldb1 0 (.t rfl) rfl ag46 rfl)) rfl (fun _ _ => rfl) (by first | exact .inr (fun _ _ => rfl) | exact .inl (by kernel_rfl)) ?_ | refine DE.q (fun e c hk => (Ev.ldb1 1 (.t rfl) rfl ag46 rfl)) rfl (fun _ _ => rfl) (by first | exact .inr (fun _ _ => rfl) | exact .inl (by kernel_rfl)) ?_ | refine DE.q (fun e c hk => (Ev.ldb1 2 (.t rfl) rfl ag46 rfl)) rfl (fun _ _ => rfl) (by first | exact .inr (fun _ _ => rfl) | exact .inl (by kernel_rfl)) ?_ | refine DE.q (fun e c hk => (Ev.ldb1 3 (.t rfl) rfl ag46 rfl)) rfl (fun _ _ => rfl) (by first | exact .inr (fun _ _ => rfl) | exact .inl (by kernel_rfl)) ?_
  refine DE.q (av := fun _ => .lit (dataOf v)) (fun e c hk => by have h := hk.down 10 (by kernel_rfl); simp only [h, cond_false]; exact Ev.usd (i := 1) (.t rfl) rfl hve) rfl (fun _ _ => rfl) (by first | exact .inr (fun _ _ => rfl) | exact .inl (by kernel_rfl)) ?_
  refine DE.q (fun e c hk => (Ev.move (.t rfl))) rfl (fun _ _ => rfl) (by first | exact .inr (fun _ _ => rfl) | exact .inl (by kernel_rfl)) ?_
  refine DE.q (fun e c hk => (Ev.nilc (.t rfl))) rfl (fun _ _ => rfl) (by first | exact .inr (fun _ _ => rfl) | exact .inl (by kernel_rfl)) ?_
  first | refine DE.q (fun e c hk => (Ev.fae (.t rfl) fa48_1 rfl)) rfl (fun _ _ => rfl) (by first | exact .inr (fun _ _ => rfl) | exact .inl (by kernel_rfl)) ?_ | refine DE.q (fun e c hk => (Ev.fab (.t rfl) fa48_1)) rfl (fun _ _ => rfl) (by first | exact .inr (fun _ _ => rfl) | exact .inl (by kernel_rfl)) ?_ | refine DE.q (fun e c hk => (Ev.faa (.t rfl) fa48_1)) rfl (fun _ _ => rfl) (by first | exact .inr (fun _ _ => rfl) | exact .inl (by kernel_rfl)) ?_
  first | refine DE.q (fun e c hk => (Ev.lde1 (.t rfl) ag46)) rfl (fun _ _ => rfl) (by first | exact .inr (fun _ _ => rfl) | exact .inl (by kernel_rfl)) ?_ | refine DE.q (fun e c hk => (Ev.ldb1 0 (.t rfl) rfl ag46 rfl)) rfl (fun _ _ => rfl) (by first | exact .inr (fun _ _ => rfl) | exact .inl (by kernel_rfl)) ?_ | refine DE.q (fun e c hk => (Ev.ldb1 1 (.t rfl) rfl ag46 rfl)) rfl (fun _ _ => rfl) (by first | exact .inr (fun _ _ => rfl) | exact .inl (by kernel_rfl)) ?_ | refine DE.q (fun e c hk => (Ev.ldb1 2 (.t rfl) rfl ag46 rfl)) rfl (fun _ _ => rfl) (by first | exact .inr (fun _ _ => rfl) | exact .inl (by kernel_rfl)) ?_ | refine DE.q (fun e c hk => (Ev.ldb1 3 (.t rfl) rfl ag46 rfl)) rfl (fun _ _ => rfl) (by first | exact .inr (fun _ _ => rfl) | exact .inl (by kernel_rfl)) ?_
  refine DE.q (av := fun _ => .lit (.int .i64 (l.length : Int))) (fun e c hk => by have h := hk.down 10 (by kernel_rfl); simp only [h, cond_false]; rw [← hlm]; exact Ev.lenar (i := 1) (.t rfl) rfl Tryd.underlying46) rfl (fun _ _ => rfl) (by first | exact .inr (fun _ _ => rfl) | exact .inl (by kernel_rfl)) ?_
  refine DE.effc (av := fun _ => .str l) rfl (.inr fun _ _ => rfl) (fun e c hk L_ hs Q h => ?_) ?_
  · have hk_10 := hk.not
    simp only [addE, hk_10, ↓reduceIte, cond_true, cond_false] at h ⊢
    refine W.ustr 1 (.t (hs _ _ rfl)) (.t (hs _ _ rfl)) rfl hv Tryd.underlying84 (by kernel_rfl) (by omega) rfl ?_
    exact h
  refine DE.q (fun e c hk => (Ev.assign (.t rfl))) rfl (fun _ _ => rfl) (by first | exact .inr (fun _ _ => rfl) | exact .inl (by kernel_rfl)) ?_
  refine DE.nil (fun c_ e_ he_ => ?_)
  simp only [he_ 10 (by decide), cond_true, cond_false]
  refine W.then ?_
  refine W.ret ?_
  refine W.retn (M' := []) (D := _) (rs := [.tmp 2]) (avs := [_]) Tryd.results25 ⟨rfl, trivial⟩ rfl (.refl _) ?_
  exact ⟨rfl, rfl⟩

end WBld

end Go.Proofs.YtohncieijjhnjaaDoor
end
