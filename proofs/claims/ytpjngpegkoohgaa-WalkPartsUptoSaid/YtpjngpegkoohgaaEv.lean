/-
  The quiet operations: what each gives, for values that are described by what they stand for.
-/
import Derived.Test.YtpjngpegkoohgaaFn
import Derived.Lib.Strings
set_option linter.unusedVariables false
set_option linter.unusedSimpArgs false
set_option linter.unusedSectionVars false
namespace Go.Vl

/-- a string, by its bytes; an int -/
abbrev AV.str (l : List UInt8) : AV := .lit (.string ⟨l.toArray⟩)
abbrev AV.int (n : Int) : AV := .lit (.int .i64 n)
abbrev AV.bool (b : Bool) : AV := .lit (.bool b)
abbrev AV.u8 (b : UInt8) : AV := .lit (.int .u8 (b.toNat : Int))

/-- a type's size in cells and in bytes, its zero value -/
def Ty (P : Program) (T : TypeId) (k bytes : Nat) (z : Value) : Prop := ∃ i, P.info? T = some i ∧ i.size = k ∧ i.bytes = bytes ∧ i.zero = some z
theorem Ty.of {P : Program} {T : TypeId} {k bytes : Nat} {z : Value} (h : (P.info? T).map (fun i => (i.size, i.bytes, i.zero)) = some (k, bytes, some z)) : Ty P T k bytes z := by
  cases e : P.info? T with
  | none => rw [e] at h; cases h
  | some i =>
    rw [e] at h
    simp only [Option.map_some, Option.some.injEq, Prod.mk.injEq] at h
    exact ⟨i, e, h.1, h.2.1, h.2.2⟩
theorem Ty.size {P : Program} {T : TypeId} {k bytes : Nat} {z : Value} (h : Ty P T k bytes z) (w : World) : (sizeOf T).run P w = .ok k w := by
  obtain ⟨i, h1, h2, _, _⟩ := h
  simp [sizeOf, typeInfo, h1, h2]
theorem Ty.zero {P : Program} {T : TypeId} {k bytes : Nat} {z : Value} (h : Ty P T k bytes z) (w : World) : (zeroValue T).run P w = .ok z w := by
  obtain ⟨i, h1, _, _, h2⟩ := h
  simp [zeroValue, typeInfo, h1, h2]

/-- a struct's or an array's type; another one -/
def IsAgg (P : Program) (T : TypeId) (b : Bool) : Prop := ∃ d, P.underlying T = some d ∧ b = (match d with | .struct _ => true | .array _ _ => true | _ => false)
theorem IsAgg.run {P : Program} {T : TypeId} {b : Bool} (h : IsAgg P T b) (w : World) : (isAgg T).run P w = .ok b w := by
  obtain ⟨d, h1, rfl⟩ := h
  unfold isAgg
  simp only [Sem.run_bind, run_underlying h1, Result.andThen_ok]
  cases d <;> rfl

/-- a field's place -/
def FieldAt (P : Program) (S : TypeId) (f off size : Nat) (agg : Bool) : Prop :=
  ∃ fields fld, P.underlying S = some (.struct fields) ∧ fields[f]? = some fld ∧ fld.offset = off ∧ (∀ w, (sizeOf fld.type).run P w = .ok size w) ∧ IsAgg P fld.type agg ∧ size ≠ 0

section ev
variable {x : Cx} {g : Bool} {L : List (Tmp × Bool × AV)} {M : List ME} {ty : TypeId}

theorem Ev.move {o : Operand} {av : AV} (h : Ov g L o av) : Ev x g L M (.move o) ty av := fun a w hs hg => ⟨_, rfl, h.rep hg hs⟩
theorem Ev.assign {o : Operand} {av : AV} (h : Ov g L o av) : Ev x g L M (.assign o) ty av := fun a w hs hg => ⟨_, rfl, h.rep hg hs⟩

/-- the general form for an operation on known values -/
theorem Ev.pure {op : Op} {v : Value} (h : ∀ a w, St x L M a w → g = true → (execOp a.eval ⟨none, op, ty, "", #[], none⟩).run x.P w = .ok (.value v) w) : Ev x g L M op ty (.lit v) :=
  fun a w hs hg => ⟨v, h a w hs hg, Rep.lit v⟩

theorem Ev.and {c t : Operand} {p q : Bool} (h1 : Ov g L c (.lit (.bool p))) (h2 : ∃ u b, t = .tmp u ∧ look L u = some (b, .lit (.bool q)) ∧ (g = true → p = true → b = true)) :
    Ev x g L M (.pick c t (.const (.bool false))) ty (.lit (.bool (p && q))) := Ev.pure fun a w hs hg => by
  have e1 := h1.lit hg hs
  obtain ⟨u, b, rfl, hl, hb⟩ := h2
  cases p with
  | false =>
    simp only [execOp, e1, asBool, Sem.run_bind, Sem.run_pure, Result.andThen_ok]
    rfl
  | true =>
    have e2 : a.eval (.tmp u) = .bool q := Rep.lit_iff.1 ((hs.slots u b _ hl).1 (hb hg rfl))
    simp [execOp, e1, asBool, e2]
theorem Ev.or {c t : Operand} {p q : Bool} (h1 : Ov g L c (.lit (.bool p))) (h2 : ∃ u b, t = .tmp u ∧ look L u = some (b, .lit (.bool q)) ∧ (g = true → p = false → b = true)) :
    Ev x g L M (.pick c (.const (.bool true)) t) ty (.lit (.bool (p || q))) := Ev.pure fun a w hs hg => by
  have e1 := h1.lit hg hs
  obtain ⟨u, b, rfl, hl, hb⟩ := h2
  cases p with
  | true =>
    simp only [execOp, e1, asBool, Sem.run_bind, Sem.run_pure, Result.andThen_ok]
    rfl
  | false =>
    have e2 : a.eval (.tmp u) = .bool q := Rep.lit_iff.1 ((hs.slots u b _ hl).1 (hb hg rfl))
    simp [execOp, e1, asBool, e2]

/-! integers -/
section ints
variable {T T' : TypeId} {o1 o2 : Operand} {k : IntKind} {m n : Int}
theorem run_bin {op : BinOp} {r : Value} {a : Act} {w : World} (e1 : a.eval o1 = .int k m) (e2 : a.eval o2 = .int k n) (hr : (binOp op T (.int k m) (.int k n)).run x.P w = .ok r w) :
    (execOp a.eval ⟨none, .binOp op T o1 o2 T', ty, "", #[], none⟩).run x.P w = .ok (.value r) w := by
  simp only [execOp, e1, e2, eqGuard_at_int, Sem.run_bind, Sem.run_pure, Result.andThen_ok, hr]
theorem Ev.arith {op : BinOp} {r : Value} (h1 : Ov g L o1 (.lit (.int k m))) (h2 : Ov g L o2 (.lit (.int k n))) (hr : ∀ w, (binOp op T (.int k m) (.int k n)).run x.P w = .ok r w) :
    Ev x g L M (.binOp op T o1 o2 T') ty (.lit r) := Ev.pure fun a w hs hg => run_bin (h1.lit hg hs) (h2.lit hg hs) (hr w)
theorem Ev.add (h1 : Ov g L o1 (.lit (.int .i64 m))) (h2 : Ov g L o2 (.lit (.int .i64 n))) (hb : g = true → -9223372036854775808 ≤ m + n ∧ m + n ≤ 9223372036854775807) :
    Ev x g L M (.binOp .add T o1 o2 T') ty (.lit (.int .i64 (m + n))) := Ev.pure fun a w hs hg => run_bin (h1.lit hg hs) (h2.lit hg hs) (by
      simp only [binOp_add, Op.intArith, Sem.run_pure, IntWalk.i64_in _ (hb hg)])
theorem Ev.sub (h1 : Ov g L o1 (.lit (.int .i64 m))) (h2 : Ov g L o2 (.lit (.int .i64 n))) (hb : g = true → -9223372036854775808 ≤ m - n ∧ m - n ≤ 9223372036854775807) :
    Ev x g L M (.binOp .sub T o1 o2 T') ty (.lit (.int .i64 (m - n))) := Ev.pure fun a w hs hg => run_bin (h1.lit hg hs) (h2.lit hg hs) (by
      simp only [binOp_sub, Op.intArith, Sem.run_pure, IntWalk.i64_in _ (hb hg)])
theorem Ev.mul (h1 : Ov g L o1 (.lit (.int .i64 m))) (h2 : Ov g L o2 (.lit (.int .i64 n))) (hb : g = true → -9223372036854775808 ≤ m * n ∧ m * n ≤ 9223372036854775807) :
    Ev x g L M (.binOp .mul T o1 o2 T') ty (.lit (.int .i64 (m * n))) := Ev.pure fun a w hs hg => run_bin (h1.lit hg hs) (h2.lit hg hs) (by
      simp only [binOp_mul, Op.intArith, Sem.run_pure, IntWalk.i64_in _ (hb hg)])
theorem Ev.addw (h1 : Ov g L o1 (.lit (.int k m))) (h2 : Ov g L o2 (.lit (.int k n))) : Ev x g L M (.binOp .add T o1 o2 T') ty (.lit (.int k (k.wrap (m + n)))) :=
  Ev.arith h1 h2 fun w => by simp only [binOp_add, Op.intArith, Sem.run_pure]
theorem Ev.subw (h1 : Ov g L o1 (.lit (.int k m))) (h2 : Ov g L o2 (.lit (.int k n))) : Ev x g L M (.binOp .sub T o1 o2 T') ty (.lit (.int k (k.wrap (m - n)))) :=
  Ev.arith h1 h2 fun w => by simp only [binOp_sub, Op.intArith, Sem.run_pure]
theorem Ev.mulw (h1 : Ov g L o1 (.lit (.int k m))) (h2 : Ov g L o2 (.lit (.int k n))) : Ev x g L M (.binOp .mul T o1 o2 T') ty (.lit (.int k (k.wrap (m * n)))) :=
  Ev.arith h1 h2 fun w => by simp only [binOp_mul, Op.intArith, Sem.run_pure]
theorem Ev.rem (h1 : Ov g L o1 (.lit (.int k m))) (h2 : Ov g L o2 (.lit (.int k n))) (hn : g = true → n ≠ 0) : Ev x g L M (.binOp .rem T o1 o2 T') ty (.lit (.int k (m.tmod n))) :=
  Ev.pure fun a w hs hg => run_bin (h1.lit hg hs) (h2.lit hg hs) (by simp only [binOp_rem, Op.intDiv, if_neg (hn hg), Sem.run_pure])
theorem Ev.quo (h1 : Ov g L o1 (.lit (.int k m))) (h2 : Ov g L o2 (.lit (.int k n))) (hn : g = true → n ≠ 0) : Ev x g L M (.binOp .quo T o1 o2 T') ty (.lit (.int k (k.wrap (m.tdiv n)))) :=
  Ev.pure fun a w hs hg => run_bin (h1.lit hg hs) (h2.lit hg hs) (by simp only [binOp_quo, Op.intDiv, if_neg (hn hg), Sem.run_pure])
theorem Ev.shr {c : Nat} {yk : IntKind} {y : Int} (h1 : Ov g L o1 (.lit (.int k m))) (h2 : Ov g L o2 (.lit (.int yk y))) (hc : y = c) (hb : Nat.ble c k.bits = true) : Ev x g L M (.binOp .shr T o1 o2 T') ty (.lit (.int k (m / 2 ^ c))) :=
  Ev.pure fun a w hs hg => by
    have hb' := Nat.le_of_ble_eq_true hb
    subst hc
    simp only [execOp, h1.lit hg hs, h2.lit hg hs, eqGuard_at_int, Sem.run_bind, Sem.run_pure, Result.andThen_ok, binOp_shr, shift_shr k yk m (c : Int) (by omega) (by omega), Int.toNat_natCast]
theorem Ev.band (h1 : Ov g L o1 (.lit (.int k m))) (h2 : Ov g L o2 (.lit (.int k n))) : Ev x g L M (.binOp .and T o1 o2 T') ty (.lit (.int k (bits .and k m n))) :=
  Ev.arith h1 h2 fun w => by simp only [binOp_and, intBits_and, Sem.run_pure]
theorem Ev.bor (h1 : Ov g L o1 (.lit (.int k m))) (h2 : Ov g L o2 (.lit (.int k n))) : Ev x g L M (.binOp .or T o1 o2 T') ty (.lit (.int k (bits .or k m n))) :=
  Ev.arith h1 h2 fun w => by simp only [binOp_or, intBits_or, Sem.run_pure]
theorem Ev.eqi (h1 : Ov g L o1 (.lit (.int k m))) (h2 : Ov g L o2 (.lit (.int k n))) : Ev x g L M (.binOp .eql T o1 o2 T') ty (.lit (.bool (m == n))) :=
  Ev.arith h1 h2 fun w => by simp only [binOp_eql, Sem.run_pure]
theorem Ev.nei (h1 : Ov g L o1 (.lit (.int k m))) (h2 : Ov g L o2 (.lit (.int k n))) : Ev x g L M (.binOp .neq T o1 o2 T') ty (.lit (.bool (m != n))) :=
  Ev.arith h1 h2 fun w => by simp only [binOp_neq, Sem.run_pure]
theorem Ev.lti (h1 : Ov g L o1 (.lit (.int k m))) (h2 : Ov g L o2 (.lit (.int k n))) : Ev x g L M (.binOp .lss T o1 o2 T') ty (.lit (.bool (decide (m < n)))) :=
  Ev.arith h1 h2 fun w => by simp only [binOp_lss, Sem.run_pure]
theorem Ev.lei (h1 : Ov g L o1 (.lit (.int k m))) (h2 : Ov g L o2 (.lit (.int k n))) : Ev x g L M (.binOp .leq T o1 o2 T') ty (.lit (.bool (decide (m ≤ n)))) :=
  Ev.arith h1 h2 fun w => by simp only [binOp_leq, Sem.run_pure]
theorem Ev.gti (h1 : Ov g L o1 (.lit (.int k m))) (h2 : Ov g L o2 (.lit (.int k n))) : Ev x g L M (.binOp .gtr T o1 o2 T') ty (.lit (.bool (decide (n < m)))) :=
  Ev.arith h1 h2 fun w => by simp only [binOp_gtr, Sem.run_pure]
theorem Ev.gei (h1 : Ov g L o1 (.lit (.int k m))) (h2 : Ov g L o2 (.lit (.int k n))) : Ev x g L M (.binOp .geq T o1 o2 T') ty (.lit (.bool (decide (n ≤ m)))) :=
  Ev.arith h1 h2 fun w => by simp only [binOp_geq, Sem.run_pure]
theorem Ev.conv (h1 : Ov g L o1 (.lit (.int k n))) (hs : ∃ d, x.P.underlying T = some d) {k' : IntKind} (hd : x.P.underlying T' = some (.int k')) : Ev x g L M (.convert T T' o1) ty (.lit (.int k' (k'.wrap n))) :=
  Ev.pure fun a w hst hg => by
    obtain ⟨d, hs⟩ := hs
    simp [execOp, h1.lit hg hst, convert, run_underlying hs, run_underlying hd, Conv.intToInt]
theorem Ev.conv64 (h1 : Ov g L o1 (.lit (.int k n))) (hs : ∃ d, x.P.underlying T = some d) (hd : x.P.underlying T' = some (.int .i64)) (hb : g = true → -9223372036854775808 ≤ n ∧ n ≤ 9223372036854775807) : Ev x g L M (.convert T T' o1) ty (.lit (.int .i64 n)) :=
  Ev.pure fun a w hst hg => by
    obtain ⟨d, hs⟩ := hs
    simp [execOp, h1.lit hg hst, convert, run_underlying hs, run_underlying hd, Conv.intToInt, IntWalk.i64_in _ (hb hg)]
theorem Ev.neg (h1 : Ov g L o1 (.lit (.int k n))) : Ev x g L M (.unOp .neg T o1) ty (.lit (.int k (k.wrap (0 - n)))) :=
  Ev.pure fun a w hst hg => by simp [execOp, h1.lit hg hst, Op.unary, Op.intArith]
theorem Ev.not {p : Bool} (h1 : Ov g L o1 (.lit (.bool p))) : Ev x g L M (.unOp .not T o1) ty (.lit (.bool (!p))) :=
  Ev.pure fun a w hst hg => by simp [execOp, h1.lit hg hst, Op.unary]
theorem run_equalIn_bool {P : Program} (d : Nat) {T : TypeId} (hT : P.underlying T = some .bool) (p q : Bool) (w : World) : (Op.equalIn (d + 1) T (.bool p) (.bool q)).run P w = .ok (p == q) w := by
  simp [Op.equalIn, run_underlying hT]
theorem run_equal_bool {P : Program} {T : TypeId} (hT : P.underlying T = some .bool) (p q : Bool) (w : World) : (Op.equal T (.bool p) (.bool q)).run P w = .ok (p == q) w := run_equalIn_bool 9999 hT p q w
theorem binOp_eqb (T : TypeId) (p q : Bool) : binOp .eql T (.bool p) (.bool q) = (do pure (.bool (← Op.equal T (.bool p) (.bool q)))) := rfl
theorem binOp_neb (T : TypeId) (p q : Bool) : binOp .neq T (.bool p) (.bool q) = (do pure (.bool (!(← Op.equal T (.bool p) (.bool q))))) := rfl
theorem Ev.eqb {p q : Bool} (h1 : Ov g L o1 (.lit (.bool p))) (h2 : Ov g L o2 (.lit (.bool q))) (hT : x.P.underlying T = some .bool) : Ev x g L M (.binOp .eql T o1 o2 T') ty (.lit (.bool (p == q))) :=
  Ev.pure fun a w hst hg => by
    simp only [execOp, h1.lit hg hst, h2.lit hg hst, eqGuard_at_bool, binOp_eqb, Sem.run_bind, Sem.run_pure, Result.andThen_ok, run_equal_bool hT]
theorem Ev.neb {p q : Bool} (h1 : Ov g L o1 (.lit (.bool p))) (h2 : Ov g L o2 (.lit (.bool q))) (hT : x.P.underlying T = some .bool) : Ev x g L M (.binOp .neq T o1 o2 T') ty (.lit (.bool (!(p == q)))) :=
  Ev.pure fun a w hst hg => by
    simp only [execOp, h1.lit hg hst, h2.lit hg hst, eqGuard_at_bool, binOp_neb, Sem.run_bind, Sem.run_pure, Result.andThen_ok, run_equal_bool hT]
end ints

/-! strings -/
section strs
variable {T T' : TypeId} {o1 o2 : Operand} {l m : List UInt8}
theorem size_mk (l : List UInt8) : (ByteArray.mk l.toArray).size = l.length := by simp [ByteArray.size]
theorem Ev.lens (h1 : Ov g L o1 (.lit (.string ⟨l.toArray⟩))) (hT : x.P.underlying T = some .string) : Ev x g L M (.call ⟨.builtin .len, #[o1], #[T]⟩) ty (.lit (.int .i64 (l.length : Int))) :=
  Ev.pure fun a w hst hg => by
    simp [execOp, resolve, invoke, builtin, h1.lit hg hst, Builtin.len_, run_underlying hT, goInt, size_mk]
theorem run_str {op : BinOp} {r : Value} {a : Act} {w : World} {s t : ByteArray} (e1 : a.eval o1 = .string s) (e2 : a.eval o2 = .string t) (hr : (Op.stringOp op s t).run x.P w = .ok r w) (ho : ∀ s t, binOp op T (.string s) (.string t) = Op.stringOp op s t) :
    (execOp a.eval ⟨none, .binOp op T o1 o2 T', ty, "", #[], none⟩).run x.P w = .ok (.value r) w := by
  simp only [execOp, e1, e2, eqGuard_at_string, Sem.run_bind, Sem.run_pure, Result.andThen_ok, ho, hr]
theorem Ev.eqs (h1 : Ov g L o1 (.lit (.string ⟨l.toArray⟩))) (h2 : Ov g L o2 (.lit (.string ⟨m.toArray⟩))) : Ev x g L M (.binOp .eql T o1 o2 T') ty (.lit (.bool (l == m))) :=
  Ev.pure fun a w hst hg => run_str (h1.lit hg hst) (h2.lit hg hst) (by simp [Op.stringOp, ByteArray.toList_mk]) (fun _ _ => rfl)
theorem Ev.nes (h1 : Ov g L o1 (.lit (.string ⟨l.toArray⟩))) (h2 : Ov g L o2 (.lit (.string ⟨m.toArray⟩))) : Ev x g L M (.binOp .neq T o1 o2 T') ty (.lit (.bool (!(l == m)))) :=
  Ev.pure fun a w hst hg => run_str (h1.lit hg hst) (h2.lit hg hst) (by simp [Op.stringOp, ByteArray.toList_mk]) (fun _ _ => rfl)
theorem Ev.lts (h1 : Ov g L o1 (.lit (.string ⟨l.toArray⟩))) (h2 : Ov g L o2 (.lit (.string ⟨m.toArray⟩))) : Ev x g L M (.binOp .lss T o1 o2 T') ty (.lit (.bool (Op.bytesLess l m))) :=
  Ev.pure fun a w hst hg => run_str (h1.lit hg hst) (h2.lit hg hst) (by simp [Op.stringOp, ByteArray.toList_mk]) (fun _ _ => rfl)
theorem Ev.cat (h1 : Ov g L o1 (.lit (.string ⟨l.toArray⟩))) (h2 : Ov g L o2 (.lit (.string ⟨m.toArray⟩))) (hb : g = true → l.length + m.length ≤ 9223372036854775807) : Ev x g L M (.binOp .add T o1 o2 T') ty (.lit (.string ⟨(l ++ m).toArray⟩)) :=
  Ev.pure fun a w hst hg => run_str (h1.lit hg hst) (h2.lit hg hst) (by
    have h := hb hg
    have hn : ¬ ((((ByteArray.mk l.toArray).size + (ByteArray.mk m.toArray).size : Nat) : Int) > IntKind.i64.max) := by rw [size_mk, size_mk, IntKind.max_i64]; omega
    have e : (ByteArray.mk l.toArray) ++ (ByteArray.mk m.toArray) = ByteArray.mk (l ++ m).toArray := by
      apply ByteArray.ext
      simp
    simp only [Op.stringOp, if_neg hn, Sem.run_pure, e]) (fun _ _ => rfl)
theorem get_mk (l : List UInt8) (i : Nat) : (ByteArray.mk l.toArray)[i]? = l[i]? := by
  rcases Nat.lt_or_ge i l.length with h | h
  · rw [List.getElem?_eq_getElem h, getElem?_pos _ _ (by rw [size_mk]; exact h)]; rfl
  · rw [List.getElem?_eq_none h, getElem?_neg _ _ (by rw [size_mk]; omega)]
theorem Ev.ats {i : Int} {b : UInt8} {k : IntKind} (h1 : Ov g L o1 (.lit (.string ⟨l.toArray⟩))) (h2 : Ov g L o2 (.lit (.int k i))) (hT : x.P.underlying T = some .string) (hb : g = true → 0 ≤ i ∧ l[i.toNat]? = some b) :
    Ev x g L M (.index T o1 o2) ty (.lit (.int .u8 (b.toNat : Int))) :=
  Ev.pure fun a w hst hg => by
    obtain ⟨h0, hi⟩ := hb hg
    simp [execOp, h1.lit hg hst, h2.lit hg hst, Instr.index, asIntOf, run_underlying hT, h0, get_mk, hi]
/-- the form for an index that a guard or the context bounds -/
theorem Ev.ats' {i : Int} {k : IntKind} (h1 : Ov g L o1 (.lit (.string ⟨l.toArray⟩))) (h2 : Ov g L o2 (.lit (.int k i))) (hT : x.P.underlying T = some .string) (hb : g = true → 0 ≤ i ∧ i < l.length) :
    Ev x g L M (.index T o1 o2) ty (.lit (.int .u8 ((l.getD i.toNat 0).toNat : Int))) := by
  cases hg : g with
  | false => exact fun a w hst h => by cases h
  | true =>
    subst hg
    obtain ⟨h0, hi⟩ := hb rfl
    refine Ev.ats h1 h2 hT (fun _ => ⟨h0, ?_⟩)
    rw [List.getD_eq_getElem?_getD, List.getElem?_eq_getElem (by omega)]
    rfl
theorem extract_mk (l : List UInt8) (a b : Nat) : (ByteArray.mk l.toArray).extract a b = ⟨((l.take b).drop a).toArray⟩ := by
  apply ByteArray.ext
  apply Array.toList_inj.1
  rw [Lib.extract_data, List.drop_take]

/-- a bound of a slice expression -/
def BndOv (g : Bool) (L : List (Tmp × Bool × AV)) (dflt : Int) : Option Operand → Int → Prop
  | none, n => n = dflt
  | some o, n => Ov g L o (.lit (.int .i64 n))

theorem run_bounds {isS : Bool} {len cap : Nat} {lo hi : Option Operand} {l h : Int} {a : Act} {w : World} (hst : St x L M a w) (hg : g = true) (hlo : BndOv g L 0 lo l) (hhi : BndOv g L len hi h) (h0 : 0 ≤ l) (h1 : l ≤ h) (h2 : h ≤ len) (h3 : len ≤ cap) :
    (Instr.sliceBounds isS len cap (lo.map a.eval) (hi.map a.eval) none).run x.P w = .ok (l.toNat, h.toNat, cap) w := by
  have hb : ∀ (n : Int) (y : Nat) c, 0 ≤ n → n ≤ y → (Instr.sliceBound (.int .i64 n) y c).run x.P w = .ok n.toNat w := fun n y c hn hy => by
    simp [Instr.sliceBound, asIntOf, hn, hy]
  unfold Instr.sliceBounds
  cases lo with
  | none =>
    simp only [BndOv] at hlo
    subst hlo
    cases hi with
    | none =>
      simp only [BndOv] at hhi
      subst hhi
      simp
    | some o =>
      have e := hhi.lit hg hst
      simp only [Option.map_none, Option.map_some, e, Sem.run_bind, Sem.run_pure, Result.andThen_ok]
      rw [hb _ _ _ (by omega) (by omega)]
      simp
  | some o' =>
    have e' := hlo.lit hg hst
    cases hi with
    | none =>
      simp only [BndOv] at hhi
      subst hhi
      simp only [Option.map_none, Option.map_some, e', Sem.run_bind, Sem.run_pure, Result.andThen_ok]
      rw [hb _ _ _ (by omega) (by omega)]
      simp
    | some o =>
      have e := hhi.lit hg hst
      simp only [Option.map_some, e, e', Sem.run_bind, Sem.run_pure, Result.andThen_ok]
      rw [hb _ _ _ (by omega) (by omega)]
      simp only [Result.andThen_ok]
      rw [hb _ _ _ (by omega) (by omega)]
      simp

theorem Ev.subs {lo hi : Option Operand} {i j : Int} (h1 : Ov g L o1 (.lit (.string ⟨l.toArray⟩))) (hT : x.P.underlying T = some .string) (hlo : BndOv g L 0 lo i) (hhi : BndOv g L (l.length : Int) hi j) (hb : g = true → 0 ≤ i ∧ i ≤ j ∧ j ≤ l.length) :
    Ev x g L M (.slice T o1 lo hi none) ty (.lit (.string ⟨((l.take j.toNat).drop i.toNat).toArray⟩)) :=
  Ev.pure fun a w hst hg => by
    obtain ⟨b1, b2, b3⟩ := hb hg
    have hr := run_bounds (isS := false) (cap := l.length) hst hg hlo hhi b1 b2 b3 (Nat.le_refl _)
    have e : (Instr.sliceAt T (.string ⟨l.toArray⟩) (lo.map a.eval) (hi.map a.eval) none) = Instr.sliceAt T (.string ⟨l.toArray⟩) (lo.map a.eval) (hi.map a.eval) none := rfl
    simp only [execOp, h1.lit hg hst, Option.map_none, Instr.sliceAt, Instr.slice, Sem.run_bind, run_underlying hT, Result.andThen_ok, size_mk, hr, Option.isSome_none, Bool.false_eq_true, if_false, Sem.run_pure, extract_mk]
end strs

/-! tuples, structs, slices -/
section aggs
variable {T T' : TypeId} {o1 o2 : Operand}

theorem RepC.cell_of_sh {w : World} {N : List Nat} {c : AV} {v : Value} (hc : c.sh = 0) (hv : shV v = 0) (h : RepC w N c [v]) : Rep w N c v := by
  refine ⟨by rw [hc, hv], ?_⟩
  have : v.cells.toList = [v] := by cases v <;> first | rfl | simp [shV] at hv
  rw [this]; exact h
theorem cells_of_sh {v : Value} (hv : shV v = 0) : v.cells.toList = [v] := by cases v <;> first | rfl | simp [shV] at hv

theorem RepT.get' {w : World} {N : List Nat} {avs : List AV} {vs : Array Value} {i : Nat} {av : AV} (h : RepT w N avs vs.toList) (hi : avs[i]? = some av) : ∃ v, vs[i]? = some v ∧ Rep w N av v := by
  obtain ⟨v, h1, h2⟩ := RepT.get h hi
  exact ⟨v, by simpa using h1, h2⟩
theorem Rep.tup_inv {w : World} {N : List Nat} {avs : List AV} {v : Value} (h : Rep w N (.tup avs) v) : ∃ us, v = .tuple us ∧ RepT w N avs us.toList := by
  obtain ⟨h1, h2⟩ := h
  simp only [AV.sh, RepC] at h1 h2
  obtain ⟨us, e, ht⟩ := h2
  cases v <;> simp [shV] at h1
  simp [Value.cells] at e
  subst e
  exact ⟨_, rfl, ht⟩
theorem Rep.agg_inv {w : World} {N : List Nat} {cs : List AV} {v : Value} (h : Rep w N (.agg cs) v) : ∃ us, v = .agg us ∧ RepL w N cs us.toList := by
  obtain ⟨h1, h2⟩ := h
  simp only [AV.sh, RepC] at h1 h2
  cases v <;> simp [shV] at h1
  exact ⟨_, rfl, h2⟩
theorem Rep.sl_inv {w : World} {N : List Nat} {k : Nat} {es : List AV} {v : Value} (h : Rep w N (.sl k es) v) : ∃ a cap, v = .slice a es.length cap ∧ es.length ≤ cap ∧ cap ≤ maxLen ∧
      (es = [] ∨ ∃ b off cur T fr, a = some ⟨b, off, none⟩ ∧ b ∉ N ∧ w.heap[b]? = some (.cells cur T fr) ∧ RepE w N k es (cur.toList.drop off)) := by
  obtain ⟨h1, h2⟩ := h
  simp only [AV.sh, RepC] at h1 h2
  obtain ⟨a, cap, e, h3⟩ := h2
  rw [cells_of_sh h1.symm] at e
  cases e
  exact ⟨a, cap, rfl, h3⟩
theorem Rep.eptr_inv {w : World} {N : List Nat} {cs : List AV} {v : Value} (h : Rep w N (.eptr cs) v) : ∃ b off cur T fr, v = .pointer (some ⟨b, off, none⟩) ∧ b ∉ N ∧ w.heap[b]? = some (.cells cur T fr) ∧
      RepL w N cs ((cur.toList.drop off).take cs.length) := by
  obtain ⟨h1, h2⟩ := h
  simp only [AV.sh, RepC] at h1 h2
  obtain ⟨b, off, cur, T, fr, e, h3⟩ := h2
  rw [cells_of_sh h1.symm] at e
  cases e
  exact ⟨b, off, cur, T, fr, rfl, h3⟩
theorem Rep.aptr_inv {w : World} {N : List Nat} {u : Value} {j : Nat} {v : Value} (h : Rep w N (.aptr u j) v) : ∃ g off n cap, u = .slice (some ⟨g, off, none⟩) n cap ∧ v = .pointer (some ⟨g, off + j, none⟩) := by
  obtain ⟨h1, h2⟩ := h
  simp only [AV.sh, RepC] at h1 h2
  obtain ⟨g, off, n, cap, rfl, e⟩ := h2
  rw [cells_of_sh h1.symm] at e
  cases e
  exact ⟨g, off, n, cap, rfl, rfl⟩
theorem Rep.slI {w : World} {N : List Nat} {k : Nat} {es : List AV} {a : Option Addr} {cap : Nat} (h1 : es.length ≤ cap) (h2 : cap ≤ maxLen)
    (h : es = [] ∨ ∃ b off cur T fr, a = some ⟨b, off, none⟩ ∧ b ∉ N ∧ w.heap[b]? = some (.cells cur T fr) ∧ RepE w N k es (cur.toList.drop off)) : Rep w N (.sl k es) (.slice a es.length cap) :=
  ⟨rfl, by simp only [RepC]; exact ⟨a, cap, rfl, h1, h2, h⟩⟩
theorem Rep.eptrI {w : World} {N : List Nat} {cs : List AV} {b off : Nat} {cur : Array Value} {T : TypeId} {fr : Nat × Nat} (hb : b ∉ N) (hc : w.heap[b]? = some (.cells cur T fr)) (hl : RepL w N cs ((cur.toList.drop off).take cs.length)) :
    Rep w N (.eptr cs) (.pointer (some ⟨b, off, none⟩)) := ⟨rfl, by simp only [RepC]; exact ⟨b, off, cur, T, fr, rfl, hb, hc, hl⟩⟩

theorem Ev.extract {i : Nat} {avs : List AV} {av : AV} (h1 : Ov g L o1 (.tup avs)) (hi : avs[i]? = some av) : Ev x g L M (.extract o1 i) ty av := fun a w hs hg => by
  obtain ⟨us, e, ht⟩ := (h1.rep hg hs).tup_inv
  obtain ⟨v, hv, hr⟩ := RepT.get' ht hi
  exact ⟨v, by simp [execOp, e, Instr.extract, hv], hr⟩

/-- several operands that are literal values -/
def LitsOv (g : Bool) (L : List (Tmp × Bool × AV)) : List Operand → List Value → Prop
  | [], [] => True
  | o :: os, v :: vs => Ov g L o (.lit v) ∧ LitsOv g L os vs
  | _, _ => False
theorem LitsOv.eval {a : Act} {w : World} (hs : St x L M a w) (hg : g = true) : ∀ {os : List Operand} {vs : List Value}, LitsOv g L os vs → os.map a.eval = vs
  | [], [], _ => rfl
  | o :: os, v :: vs, h => by simp [h.1.lit hg hs, LitsOv.eval hs hg h.2]
  | [], _ :: _, h => h.elim
  | _ :: _, [], h => h.elim
theorem Ev.mkfn {fn : Fn} {caps : List Operand} {vs : List Value} (h : LitsOv g L caps vs) : Ev x g L M (.makeFunc fn #[] caps.toArray) ty (.lit (.func fn #[] vs.toArray)) := Ev.pure fun a w hs hg => by
  have := h.eval hs hg
  simp [execOp, Instr.makeFunc, ← this]

theorem Ev.lensl {k E : Nat} {es : List AV} (h1 : Ov g L o1 (.sl k es)) (hT : x.P.underlying T = some (.slice E)) : Ev x g L M (.call ⟨.builtin .len, #[o1], #[T]⟩) ty (.lit (.int .i64 (es.length : Int))) := fun a w hs hg => by
  obtain ⟨ad, cap, e, _⟩ := (h1.rep hg hs).sl_inv
  exact ⟨_, by simp [execOp, resolve, invoke, builtin, e, Builtin.len_, run_underlying hT, goInt], Rep.lit _⟩
theorem Ev.lenar {i : Nat} {v : Value} {U k E : Nat} {es : List AV} (h1 : Ov g L o1 (.lit v)) (hM : M[i]? = some (.arr v U k es)) (hT : x.P.underlying T = some (.slice E)) : Ev x g L M (.call ⟨.builtin .len, #[o1], #[T]⟩) ty (.lit (.int .i64 (es.length : Int))) := fun a w hs hg => by
  obtain ⟨ad, cap, e, _⟩ := hs.mem.holds _ (List.mem_of_getElem? hM)
  have e1 := h1.lit hg hs
  rw [e] at e1
  exact ⟨_, by simp [execOp, resolve, invoke, builtin, e1, Builtin.len_, run_underlying hT, goInt], Rep.lit _⟩

theorem Addr.add_eq (b off n : Nat) : (⟨b, off, none⟩ : Addr).add n = ⟨b, off + n, none⟩ := Addr.add_lit b off n

theorem RepE.drop {w : World} {N : List Nat} {k : Nat} : ∀ {es : List AV} {row : List Value} (n : Nat), RepE w N k es row → n ≤ es.length → RepE w N k (es.drop n) (row.drop (n * k))
  | es, row, 0, h, _ => by simpa using h
  | [], row, n + 1, h, hn => by simp at hn
  | e :: es, row, n + 1, h, hn => by
    simp only [RepE] at h
    have := RepE.drop n h.2.2 (by simpa using hn)
    rw [List.drop_drop] at this
    simpa [Nat.add_mul, Nat.add_comm] using this
theorem RepE.take {w : World} {N : List Nat} {k : Nat} : ∀ {es : List AV} {row : List Value} (n : Nat), RepE w N k es row → RepE w N k (es.take n) row
  | es, row, 0, h => by simp [RepE]
  | [], row, n + 1, h => by simp [RepE]
  | e :: es, row, n + 1, h => by
    simp only [RepE, List.take_succ_cons] at h ⊢
    exact ⟨h.1, h.2.1, RepE.take n h.2.2⟩
theorem RepE.len {w : World} {N : List Nat} {k : Nat} : ∀ {es : List AV} {row : List Value}, RepE w N k es row → es.length * k ≤ row.length
  | [], row, h => by simp
  | e :: es, row, h => by
    simp only [RepE] at h
    have := RepE.len h.2.2
    simp at this
    simp [Nat.add_mul]; omega
/-- the i-th element's cells -/
theorem RepE.get {w : World} {N : List Nat} {k : Nat} {es : List AV} {row : List Value} {i : Nat} {e : AV} (h : RepE w N k es row) (hi : es[i]? = some e) : k ≤ (row.drop (i * k)).length ∧ RepC w N e ((row.drop (i * k)).take k) := by
  have hlt : i < es.length := by
    rcases Nat.lt_or_ge i es.length with h' | h'
    · exact h'
    · rw [List.getElem?_eq_none h'] at hi; cases hi
  have hd := RepE.drop i h (by omega)
  rw [List.drop_eq_getElem_cons hlt] at hd
  simp only [RepE] at hd
  rw [List.getElem?_eq_getElem hlt] at hi
  cases hi
  exact ⟨hd.1, hd.2.1⟩

/-- an element whose cells may be met one by one -/
def AV.okc : AV → Bool
  | .lit u => shV u == 0
  | .tup _ => false
  | _ => true
theorem RepC.cells {w : World} {N : List Nat} {e : AV} {row : List Value} (ho : e.okc = true) (h : RepC w N e row) : RepL w N e.cells row := by
  have hone : ∀ {e : AV}, e.sh = 0 → e.cells = [e] → (∃ v, row = [v] ∧ shV v = 0) → RepC w N e row → RepL w N e.cells row := by
    intro e h1 h2 h3 h4
    obtain ⟨v, rfl, hv⟩ := h3
    rw [h2]
    simp only [RepL]
    exact ⟨v, [], rfl, ⟨h1, hv, h4⟩, rfl⟩
  cases e with
  | lit u =>
    simp only [AV.okc, beq_iff_eq] at ho
    refine hone (by simpa [AV.sh] using ho) ?_ ?_ h
    · cases u <;> first | rfl | simp [shV] at ho
    · simp only [RepC] at h; rw [h, cells_of_sh ho]; exact ⟨u, rfl, ho⟩
  | agg cs => simpa only [RepC, AV.cells] using h
  | tup vs => simp [AV.okc] at ho
  | sl k es => exact hone rfl rfl (by simp only [RepC] at h; obtain ⟨a, cap, e, _⟩ := h; exact ⟨_, e, rfl⟩) h
  | eptr cs => exact hone rfl rfl (by simp only [RepC] at h; obtain ⟨b, off, cur, T, fr, e, _⟩ := h; exact ⟨_, e, rfl⟩) h
  | aptr v j => exact hone rfl rfl (by simp only [RepC] at h; obtain ⟨g, off, n, cap, _, e⟩ := h; exact ⟨_, e, rfl⟩) h
theorem RepL.to_rep {w : World} {N : List Nat} {e : AV} {v : Value} (ho : e.okc = true) (h : RepL w N e.cells v.cells.toList) (hsh : e.sh = shV v) : Rep w N e v := by
  refine ⟨hsh, ?_⟩
  cases e with
  | agg cs => simpa only [RepC, AV.cells] using h
  | tup vs => simp [AV.okc] at ho
  | lit u =>
    simp only [AV.okc, beq_iff_eq] at ho
    have hu : (AV.lit u).cells = [.lit u] := by cases u <;> first | rfl | simp [shV] at ho
    rw [hu] at h; simp only [RepL] at h; obtain ⟨_, _, e, ⟨_, _, h1⟩, rfl⟩ := h; rw [e]; exact h1
  | sl k es => simp only [AV.cells, RepL] at h; obtain ⟨_, _, e, ⟨_, _, h1⟩, rfl⟩ := h; rw [e]; exact h1
  | eptr cs => simp only [AV.cells, RepL] at h; obtain ⟨_, _, e, ⟨_, _, h1⟩, rfl⟩ := h; rw [e]; exact h1
  | aptr v j => simp only [AV.cells, RepL] at h; obtain ⟨_, _, e, ⟨_, _, h1⟩, rfl⟩ := h; rw [e]; exact h1
theorem Rep.toL {w : World} {N : List Nat} {e : AV} {v : Value} (ho : e.okc = true) (h : Rep w N e v) : RepL w N e.cells v.cells.toList := RepC.cells ho h.2

theorem Ev.at {k E : Nat} {es : List AV} {i : Int} {e : AV} {ki : IntKind} {bytes : Nat} {z : Value} (h1 : Ov g L o1 (.sl k es)) (h2 : Ov g L o2 (.lit (.int ki i))) (hT : x.P.underlying T = some (.slice E)) (hE : Ty x.P E k bytes z)
    (hi : g = true → 0 ≤ i ∧ es[i.toNat]? = some e) (ho : e.okc = true) (hk : e.cells.length = k) : Ev x g L M (.indexAddr T o1 o2) ty (.eptr e.cells) := fun a w hs hg => by
  obtain ⟨ad, cap, ev, h3, h4, h5⟩ := (h1.rep hg hs).sl_inv
  obtain ⟨hi0, hi1⟩ := hi hg
  have hlt : i.toNat < es.length := by
    rcases Nat.lt_or_ge i.toNat es.length with h' | h'
    · exact h'
    · rw [List.getElem?_eq_none h'] at hi1; cases hi1
  rcases h5 with rfl | ⟨b, off, cur, U, fr, rfl, hb, hc, hr⟩
  · simp at hlt
  · obtain ⟨hg1, hg2⟩ := hr.get hi1
    have hlt' : i < es.length := by omega
    refine ⟨.pointer (some ⟨b, off + i.toNat * k, none⟩), ?_, Rep.eptrI hb hc ?_⟩
    · simp [execOp, ev, h2.lit hg hs, Instr.indexAt, asIntOf, run_underlying hT, hi0, hlt', hE.size, Addr.add_lit]
    · rw [hk, ← List.drop_drop]; exact RepC.cells ho hg2

theorem RepL.drop {w : World} {N : List Nat} : ∀ {cs : List AV} {row : List Value} (n : Nat), RepL w N cs row → RepL w N (cs.drop n) (row.drop n)
  | cs, row, 0, h => by simpa using h
  | [], row, n + 1, h => by simp only [RepL] at h; subst h; simp [RepL]
  | c :: cs, row, n + 1, h => by
    simp only [RepL] at h
    obtain ⟨v, vs, rfl, _, h⟩ := h
    simpa using RepL.drop n h
theorem RepL.take {w : World} {N : List Nat} : ∀ {cs : List AV} {row : List Value} (n : Nat), RepL w N cs row → RepL w N (cs.take n) (row.take n)
  | cs, row, 0, h => by simp [RepL]
  | [], row, n + 1, h => by simp only [RepL] at h; subst h; simp [RepL]
  | c :: cs, row, n + 1, h => by
    simp only [RepL] at h
    obtain ⟨v, vs, rfl, h1, h⟩ := h
    simp only [List.take_succ_cons, RepL]
    exact ⟨v, _, rfl, h1, RepL.take n h⟩
theorem RepL.get {w : World} {N : List Nat} {cs : List AV} {row : List Value} {i : Nat} {c : AV} (h : RepL w N cs row) (hi : cs[i]? = some c) : ∃ v, row[i]? = some v ∧ Rep w N c v := by
  have hlt : i < cs.length := by
    rcases Nat.lt_or_ge i cs.length with h' | h'
    · exact h'
    · rw [List.getElem?_eq_none h'] at hi; cases hi
  have hd := RepL.drop i h
  rw [List.drop_eq_getElem_cons hlt] at hd
  simp only [RepL] at hd
  obtain ⟨v, vs, e, ⟨h1, h2, h3⟩, _⟩ := hd
  rw [List.getElem?_eq_getElem hlt] at hi
  cases hi
  refine ⟨v, ?_, RepC.cell_of_sh h1 h2 h3⟩
  have := congrArg (·[0]?) e
  simpa using this

theorem Ev.fae {f off size : Nat} {ag : Bool} {cs : List AV} (h1 : Ov g L o1 (.eptr cs)) (hf : FieldAt x.P T f off size ag) (hl : Nat.ble off cs.length = true) : Ev x g L M (.fieldAddr T o1 f) ty (.eptr (cs.drop off)) := fun a w hs hg => by
  obtain ⟨b, o, cur, U, fr, e, hb, hc, hr⟩ := (h1.rep hg hs).eptr_inv
  obtain ⟨fields, fld, hT, hfl, rfl, hsz, _, hne⟩ := hf
  refine ⟨.pointer (some ⟨b, o + fld.offset, none⟩), ?_, Rep.eptrI hb hc ?_⟩
  · simp [execOp, e, Instr.fieldAt, run_underlying hT, hfl, Instr.sureAddr, fieldPlace, hsz, hne, Addr.add_lit]
  · have := RepL.drop fld.offset hr
    rw [List.drop_take, List.drop_drop] at this
    rw [List.length_drop]
    exact this
theorem Ev.fab {f off size b o : Nat} {ag : Bool} (h1 : Ov g L o1 (.lit (.pointer (some ⟨b, o, none⟩)))) (hf : FieldAt x.P T f off size ag) : Ev x g L M (.fieldAddr T o1 f) ty (.lit (.pointer (some ⟨b, o + off, none⟩))) := Ev.pure fun a w hs hg => by
  obtain ⟨fields, fld, hT, hfl, rfl, hsz, _, hne⟩ := hf
  simp [execOp, h1.lit hg hs, Instr.fieldAt, run_underlying hT, hfl, Instr.sureAddr, fieldPlace, hsz, hne, Addr.add_lit]
theorem Ev.faa {f off size j : Nat} {u : Value} {ag : Bool} (h1 : Ov g L o1 (.aptr u j)) (hf : FieldAt x.P T f off size ag) : Ev x g L M (.fieldAddr T o1 f) ty (.aptr u (j + off)) := fun a w hs hg => by
  obtain ⟨b, o, n, cap, rfl, e⟩ := (h1.rep hg hs).aptr_inv
  obtain ⟨fields, fld, hT, hfl, rfl, hsz, _, hne⟩ := hf
  refine ⟨.pointer (some ⟨b, o + j + fld.offset, none⟩), ?_, rfl, ?_⟩
  · simp [execOp, e, Instr.fieldAt, run_underlying hT, hfl, Instr.sureAddr, fieldPlace, hsz, hne, Addr.add_lit]
  · simp only [RepC]; exact ⟨b, o, n, cap, rfl, by simp [Value.cells, Nat.add_assoc]⟩

/-- a load of one cell, of k cells, of known memory -/
theorem run_load1 {w : World} {b o : Nat} {cur : Array Value} {U : TypeId} {fr : Nat × Nat} {v : Value} (hT : IsAgg x.P T false) (hc : w.heap[b]? = some (.cells cur U fr)) (hv : cur[o]? = some v) {a : Act} (e : a.eval o1 = .pointer (some ⟨b, o, none⟩)) :
    (execOp a.eval ⟨none, .load T o1, ty, "", #[], none⟩).run x.P w = .ok (.value v) w := by
  have hcell : w.cell? ⟨b, o, none⟩ = some v := by rw [cell_of hc]; exact hv
  simp [execOp, e, Instr.loadAt, Instr.sureAddr, loadVar, hT.run, hcell]
theorem run_loadn {w : World} {b o k bytes : Nat} {z : Value} {cur : Array Value} {U : TypeId} {fr : Nat × Nat} (hT : IsAgg x.P T true) (hk : Ty x.P T k bytes z) (hc : w.heap[b]? = some (.cells cur U fr)) (hle : o + k ≤ cur.size) {a : Act} (e : a.eval o1 = .pointer (some ⟨b, o, none⟩)) :
    (execOp a.eval ⟨none, .load T o1, ty, "", #[], none⟩).run x.P w = .ok (.value (.agg ((cur.toList.drop o).take k).toArray)) w := by
  have := run_loadCells (P := x.P) (off := o) hc k hle
  simp [execOp, e, Instr.loadAt, Instr.sureAddr, loadVar, hT.run, hk.size, this]

theorem Ev.lde1 {c : AV} {cs : List AV} (h1 : Ov g L o1 (.eptr (c :: cs))) (hT : IsAgg x.P T false) : Ev x g L M (.load T o1) ty c := fun a w hs hg => by
  obtain ⟨b, o, cur, U, fr, e, hb, hc, hr⟩ := (h1.rep hg hs).eptr_inv
  obtain ⟨v, hv, hrep⟩ := RepL.get (i := 0) (c := c) hr rfl
  refine ⟨v, run_load1 hT hc ?_ e, hrep⟩
  simpa using hv
theorem Ev.lden {k bytes : Nat} {z : Value} {cs : List AV} (h1 : Ov g L o1 (.eptr cs)) (hT : IsAgg x.P T true) (hk : Ty x.P T k bytes z) (hl : Nat.ble k cs.length = true) (hk0 : Nat.ble 1 k = true) : Ev x g L M (.load T o1) ty (.agg (cs.take k)) := fun a w hs hg => by
  obtain ⟨b, o, cur, U, fr, e, hb, hc, hr⟩ := (h1.rep hg hs).eptr_inv
  have hl' : k ≤ cs.length := Nat.le_of_ble_eq_true hl
  have hk0' := Nat.le_of_ble_eq_true hk0
  have hlen := hr.length
  simp at hlen
  have ht := RepL.take k hr
  rw [List.take_take, Nat.min_eq_left hl'] at ht
  refine ⟨_, run_loadn hT hk hc (by omega) e, rfl, ?_⟩
  simpa only [RepC, Value.cells] using ht

theorem box_at {w : World} {N : List Nat} {F : List Nat} (hm : MOk w M F) {i b U : Nat} {cs : List AV} (hM : M[i]? = some (.box b U cs)) : ∃ cur, w.heap[b]? = some (.cells cur U (0, 0)) ∧ RepL w (bl M ++ F) cs cur.toList :=
  hm.holds _ (List.mem_of_getElem? hM)
theorem Ev.ldb1 (i : Nat) {b o U : Nat} {cs : List AV} {c : AV} (h1 : Ov g L o1 (.lit (.pointer (some ⟨b, o, none⟩)))) (hM : M[i]? = some (.box b U cs)) (hT : IsAgg x.P T false) (hc : cs[o]? = some c) : Ev x g L M (.load T o1) ty c := fun a w hs hg => by
  obtain ⟨cur, hcur, hr⟩ := box_at (N := []) hs.mem hM
  obtain ⟨v, hv, hrep⟩ := RepL.get hr hc
  exact ⟨v, run_load1 hT hcur (by simpa using hv) (h1.lit hg hs), hrep⟩
theorem Ev.ldbn (i : Nat) {b o U k bytes : Nat} {z : Value} {cs : List AV} (h1 : Ov g L o1 (.lit (.pointer (some ⟨b, o, none⟩)))) (hM : M[i]? = some (.box b U cs)) (hT : IsAgg x.P T true) (hk : Ty x.P T k bytes z) (hl : Nat.ble (o + k) cs.length = true) :
    Ev x g L M (.load T o1) ty (.agg ((cs.drop o).take k)) := fun a w hs hg => by
  obtain ⟨cur, hcur, hr⟩ := box_at (N := []) hs.mem hM
  have hlen := hr.length
  have hl' := Nat.le_of_ble_eq_true hl
  simp at hlen
  refine ⟨_, run_loadn hT hk hcur (by omega) (h1.lit hg hs), rfl, ?_⟩
  have := RepL.take k (RepL.drop o hr)
  simpa only [RepC, Value.cells] using this

/-- a slice of a slice -/
theorem Ev.subsl {k E bytes : Nat} {z : Value} {es : List AV} {lo hi : Option Operand} {i j : Int} (h1 : Ov g L o1 (.sl k es)) (hT : x.P.underlying T = some (.slice E)) (hE : Ty x.P E k bytes z) (hlo : BndOv g L 0 lo i) (hhi : BndOv g L (es.length : Int) hi j)
    (hb : g = true → 0 ≤ i ∧ i ≤ j ∧ j ≤ es.length) : Ev x g L M (.slice T o1 lo hi none) ty (.sl k ((es.take j.toNat).drop i.toNat)) := fun a w hs hg => by
  obtain ⟨ad, cap, ev, h3, h4, h5⟩ := (h1.rep hg hs).sl_inv
  obtain ⟨b1, b2, b3⟩ := hb hg
  have hr := run_bounds (isS := true) (len := es.length) (cap := cap) hs hg hlo hhi b1 b2 b3 h3
  have hlen : ((es.take j.toNat).drop i.toNat).length = j.toNat - i.toNat := by simp; omega
  refine ⟨.slice (if cap = i.toNat then ad else ad.map (·.add (i.toNat * k))) (j.toNat - i.toNat) (cap - i.toNat), ?_, ?_⟩
  · simp only [execOp, ev, Option.map_none, Instr.sliceAt, Instr.slice, Sem.run_bind, run_underlying hT, Result.andThen_ok, hr, hE.size, Sem.run_pure]
  · rw [← hlen]
    refine Rep.slI (by rw [hlen]; omega) (by omega) ?_
    rcases h5 with rfl | ⟨b, off, cur, U, fr, rfl, hbN, hc, hrE⟩
    · left; simp
    · by_cases hz : cap = i.toNat
      · left
        apply List.eq_nil_of_length_eq_zero
        rw [hlen]; omega
      · right
        rw [if_neg hz]
        refine ⟨b, off + i.toNat * k, cur, U, fr, ?_, hbN, hc, ?_⟩
        · simp [Addr.add_lit]
        · have := (hrE.take j.toNat).drop i.toNat (by simp; omega)
          rw [List.drop_drop] at this
          exact this
end aggs
end ev
end Go.Vl
