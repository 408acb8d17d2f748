/-
  Merged: Iter Utf Enc UtfLaw More Str Style Bld Tree Walk CallG Rules Drawn S2b Map ArrV Copy Emit Ref Rep Sty Url Opn Opm Lks Base WCopM WSetL WDelA WCloneA.
-/
import Derived.Test.YtgjndpgcpohnoaaGreatDoorG1
import Derived.Laws.StructEq
import Derived.Lib.Builder
import Derived.Lib.UnsafeStr
import Derived.Laws.Pointers
import Derived.Laws.Externs
import Derived.Laws.Cover3
import Derived.Lib.ConvBytes
import Derived.MapKept
import Derived.Lib.Overlaps
import Derived.Lib.Bytealg
import Derived.Lib.IndexMore
import Derived.Lib.SlTrimSet
import Derived.Test.YtgjndpgcpohnoaaGreatDoorRows

section
set_option linter.unusedVariables false
set_option linter.unusedSimpArgs false
set_option linter.unusedSectionVars false
namespace Go.Vl

/-- the first letter of a text, and its width -/
def dec (l : List UInt8) : Nat × Nat := Utf8.decode ⟨l.toArray⟩ 0

theorem get!_mk (l : List UInt8) (i : Nat) : (ByteArray.mk l.toArray).get! i = l.getD i 0 := by
  simp [ByteArray.get!]
  rcases Nat.lt_or_ge i l.length with h | h
  · simp [h]
  · rw [List.getElem?_eq_none h, Option.getD_none]
    simp [getElem!_def, h]
    rfl
section iter
variable {x : Cx} {L : List (Tmp × Bool × AV)} {M : List ME} {ops : Array Oper} {Q : Exit → Act → World → Prop} {rest : List Oper} {ty : TypeId} {pos : String} {aft : Array Edge}

/-! ### bytes as_ a string -/
theorem RepE.bytes {w : World} {N : List Nat} : ∀ {l : List UInt8} {row : List Value}, RepE w N 1 (l.map AV.u8) row → row.take l.length = l.map fun b => Value.int .u8 (b.toNat : Int)
  | [], row, _ => by simp
  | b :: l, row, h => by
    simp only [List.map_cons, RepE, RepC] at h
    obtain ⟨h1, h2, h3⟩ := h
    have ih := RepE.bytes h3
    match row, h1 with
    | v :: row, _ =>
      simp [Value.cells] at h2
      subst h2
      simp only [List.drop_succ_cons, List.drop_zero] at ih
      simp [ih]

theorem bytes_loop (P : Program) (w : World) (f : Value → ByteArray → Sem (ForInStep ByteArray)) (hf : ∀ (b : UInt8) (r : ByteArray), (f (.int .u8 (b.toNat : Int)) r).run P w = .ok (.yield (r.push b)) w) :
    ∀ (l : List UInt8) (acc : ByteArray), (forIn (m := Sem) (l.map fun b => Value.int .u8 (b.toNat : Int)) acc f).run P w = .ok ⟨(acc.data.toList ++ l).toArray⟩ w
  | [], acc => by simp
  | b :: l, acc => by
    simp only [List.map_cons, List.forIn_cons, Sem.run_bind, hf, Result.andThen_ok]
    rw [bytes_loop P w f hf l]
    simp [ByteArray.push]

theorem run_b2s {P : Program} {w : World} {N : List Nat} {ad : Option Addr} {cap : Nat} {l : List UInt8} (h : Src0 P w N 1 (.slice ad l.length cap) (l.map AV.u8)) (hnil : ad = none → l = []) : (Conv.bytesToString (.slice ad l.length cap)).run P w = .ok (.string ⟨l.toArray⟩) w := by
  obtain ⟨_, news, h1, h2, h3⟩ := h
  cases ad with
  | none => have := hnil rfl; subst this; rfl
  | some a =>
    have hf := h3 w rfl
    simp only [List.length_map, Nat.mul_one] at h1 hf
    have hl : (loadCells a l.length).run P w = .ok news w := by simpa [Builtin.firstCells] using hf
    have hn : news = (l.map fun b => Value.int .u8 (b.toNat : Int)).toArray := by
      have := RepE.bytes h2
      rw [List.take_of_length_le (by simp [h1])] at this
      rw [← this]
    simp only [Conv.bytesToString, Sem.run_bind, hl, Result.andThen_ok]
    rw [hn]
    simp only [List.forIn_toArray]
    have hpush : ∀ (b : UInt8), UInt8.ofNat ((b.toNat : Int)).toNat = b := fun b => by simp
    rw [bytes_loop P w _ (fun b r => by simp [hpush])]
    simp

theorem Ev.b2s (i : Nat) {T T' E : TypeId} {o1 : Operand} {v : Value} {U : TypeId} {l : List UInt8} (h1 : Ov true L o1 (.lit v)) (hM : M[i]? = some (ME.arr v U 1 (l.map AV.u8))) (hT : x.P.underlying T = some (.slice E)) (hE : x.P.underlying E = some (.int .u8)) (hT' : x.P.underlying T' = some .string) :
    Ev x true L M (.convert T T' o1) ty (.lit (.string ⟨l.toArray⟩)) := Ev.pure fun a w hs hg => by
  obtain ⟨ad, cap, e, hlc, hcm, hcase⟩ := hs.mem.holds _ (List.mem_of_getElem? hM)
  rw [List.length_map] at e hlc
  have e1 := h1.lit rfl hs
  have hsrc : Src0 x.P w (bl M ++ x.F) 1 (.slice ad l.length cap) (l.map AV.u8) := by
    refine src0_cells (by simp) ?_
    rcases hcase with ⟨_, hc⟩ | ⟨g, off, cur, lo, hi, rfl, hc, _, _, hE⟩
    · left; have : l.length = 0 := by omega
      rw [List.eq_nil_of_length_eq_zero this]; rfl
    · exact .inr ⟨g, off, cur, U, (lo, hi), rfl, hc, hE⟩
  have hnil : ad = none → l = [] := by
    rintro rfl
    rcases hcase with ⟨_, hc⟩ | ⟨g, off, cur, lo, hi, h, _⟩
    · exact List.eq_nil_of_length_eq_zero (by omega)
    · cases h
  have hr := run_b2s hsrc hnil
  rw [e] at e1
  simp only [execOp, e1, convert, Sem.run_bind, run_underlying hT, run_underlying hT', Result.andThen_ok, run_underlying hE, hr, Sem.run_pure]
end iter
end Go.Vl
end

section
set_option linter.unusedVariables false
set_option linter.unusedSimpArgs false
namespace Go.Vl

theorem dec_eq (l : List UInt8) : dec l =
    (if (l.getD 0 0).toNat < 128 then ((l.getD 0 0).toNat, 1)
    else if (l.getD 0 0).toNat / 32 == 6 && (decide (1 < l.length) && (l.getD 1 0).toNat / 64 == 2) then
      if ((l.getD 0 0).toNat % 32) * 64 + (l.getD 1 0).toNat % 64 ≥ 128 then (((l.getD 0 0).toNat % 32) * 64 + (l.getD 1 0).toNat % 64, 2) else (Utf8.runeError, 1)
    else if (l.getD 0 0).toNat / 16 == 14 && (decide (1 < l.length) && (l.getD 1 0).toNat / 64 == 2) && (decide (2 < l.length) && (l.getD 2 0).toNat / 64 == 2) then
      if ((l.getD 0 0).toNat % 16) * 4096 + ((l.getD 1 0).toNat % 64) * 64 + (l.getD 2 0).toNat % 64 ≥ 2048 && Utf8.valid ((((l.getD 0 0).toNat % 16) * 4096 + ((l.getD 1 0).toNat % 64) * 64 + (l.getD 2 0).toNat % 64 : Nat) : Int) then (((l.getD 0 0).toNat % 16) * 4096 + ((l.getD 1 0).toNat % 64) * 64 + (l.getD 2 0).toNat % 64, 3) else (Utf8.runeError, 1)
    else if (l.getD 0 0).toNat / 8 == 30 && (decide (1 < l.length) && (l.getD 1 0).toNat / 64 == 2) && (decide (2 < l.length) && (l.getD 2 0).toNat / 64 == 2) && (decide (3 < l.length) && (l.getD 3 0).toNat / 64 == 2) then
      if ((l.getD 0 0).toNat % 8) * 262144 + ((l.getD 1 0).toNat % 64) * 4096 + ((l.getD 2 0).toNat % 64) * 64 + (l.getD 3 0).toNat % 64 ≥ 65536 && Utf8.valid ((((l.getD 0 0).toNat % 8) * 262144 + ((l.getD 1 0).toNat % 64) * 4096 + ((l.getD 2 0).toNat % 64) * 64 + (l.getD 3 0).toNat % 64 : Nat) : Int) then (((l.getD 0 0).toNat % 8) * 262144 + ((l.getD 1 0).toNat % 64) * 4096 + ((l.getD 2 0).toNat % 64) * 64 + (l.getD 3 0).toNat % 64, 4) else (Utf8.runeError, 1)
    else (Utf8.runeError, 1)) := by
  unfold dec Utf8.decode
  simp only [get!_mk, size_mk, Nat.zero_add]

def runesN : Nat → List UInt8 → List Nat
  | 0, _ => []
  | _ + 1, [] => []
  | n + 1, b :: l => (dec (b :: l)).1 :: runesN n ((b :: l).drop (dec (b :: l)).2)
/-- the letters of a text -/
def runes (l : List UInt8) : List Nat := runesN l.length l

/-! ### how many letters -/
/-- the letter's value, and whether bytes are such a letter -/
def v2 (a b : UInt8) : Nat := (a.toNat % 32) * 64 + b.toNat % 64
def v3 (a b c : UInt8) : Nat := (a.toNat % 16) * 4096 + (b.toNat % 64) * 64 + c.toNat % 64
def v4 (a b c d : UInt8) : Nat := (a.toNat % 8) * 262144 + (b.toNat % 64) * 4096 + (c.toNat % 64) * 64 + d.toNat % 64
def ct (b : UInt8) : Bool := b.toNat / 64 == 2
def k2 (a b : UInt8) : Bool := a.toNat / 32 == 6 && ct b && decide (v2 a b ≥ 128)
abbrev er : Nat × Nat := (Utf8.runeError, 1)

theorem dec1 (a : UInt8) : dec [a] = if a.toNat < 128 then (a.toNat, 1) else er := by
  rw [dec_eq]; simp
end Go.Vl
end

section
set_option linter.unusedVariables false
set_option linter.unusedSimpArgs false
namespace Go.Vl

def o8 (n : Nat) : UInt8 := UInt8.ofNat n
/-- the bytes of a letter that is one -/
def encN (c : Nat) : List UInt8 :=
  if c < 128 then [o8 c]
  else if c < 2048 then [o8 (192 + c / 64), o8 (128 + c % 64)]
  else if c < 65536 then [o8 (224 + c / 4096), o8 (128 + c / 64 % 64), o8 (128 + c % 64)]
  else [o8 (240 + c / 262144), o8 (128 + c / 4096 % 64), o8 (128 + c / 64 % 64), o8 (128 + c % 64)]
/-- the bytes of whatever number -/
def enc (r : Int) : List UInt8 := encN (if Utf8.valid r then r.toNat else 65533)

/-! ### the bytes as_ the program reckons them -/
theorem wrap8 (z : Int) : IntKind.u8.wrap z = z % 256 := by rw [IntKind.wrap_u8]
/-! ### Clean -/
end Go.Vl
end

section
set_option linter.unusedVariables false
set_option linter.unusedSimpArgs false
namespace Go.Vl

/-! ### what is encoded is decoded -/
/-- the bytes of letters -/
def flat (cs : List Nat) : List UInt8 := cs.flatMap encN
/-- letters that Clean leaves -/
def Good (c : Nat) : Prop := Utf8.valid (c : Int) = true ∧ c ≠ 0 ∧ c ≠ 13
/-! ### Text -/
/-! ### the letters that the laws draw -/
end Go.Vl
end

section
set_option linter.unusedVariables false
set_option linter.unusedSimpArgs false
namespace Go.Vl
open Go Go.Sem
variable {x : Cx} {L : List (Tmp × Bool × AV)} {M : List ME} {ops : Array Oper} {Q : Exit → Act → World → Prop} {rest : List Oper}
end Go.Vl
end

section
set_option linter.unusedVariables false
set_option linter.unusedSimpArgs false
set_option linter.unusedSectionVars false
namespace Go.Vl
open Go Go.Sem
variable {x : Cx} {g : Bool} {L : List (Tmp × Bool × AV)} {M : List ME} {ty : TypeId}

def PlacesAt (P : Program) : List Field → List (Nat × Nat) → Prop
  | [], [] => True
  | f :: fs, (o, k) :: ps => f.offset = o ∧ (∀ w, (sizeOf f.type).run P w = .ok k w) ∧ PlacesAt P fs ps
  | _, _ => False
def StructAt (P : Program) (T : TypeId) (pl : List (Nat × Nat)) : Prop := ∃ fields : List Field, P.underlying T = some (.struct fields.toArray) ∧ PlacesAt P fields pl
theorem PlacesAt.run {P : Program} : ∀ {fs : List Field} {ps : List (Nat × Nat)}, PlacesAt P fs ps → ∀ w, (fs.mapM (fun (f : Field) => (do Pure.pure (f.offset, ← sizeOf f.type) : Sem (Nat × Nat)))).run P w = .ok ps w
  | [], [], _, w => by simp
  | f :: fs, (o, k) :: ps, h, w => by
    obtain ⟨rfl, h1, h2⟩ := h
    rw [List.mapM_cons]
    simp only [Sem.run_bind, h1, Result.andThen_ok, Sem.run_pure, h2.run w]
  | [], _ :: _, h, _ => h.elim
  | _ :: _, [], h, _ => h.elim

def BuildOv (g : Bool) (L : List (Tmp × Bool × AV)) (pl : List (Nat × Nat)) : List (Nat × Operand) → List AV → List AV → Prop
  | [], cs, res => cs = res
  | (f, o) :: ps, cs, res => ∃ off k av, pl[f]? = some (off, k) ∧ Ov g L o av ∧ av.okc = true ∧ av.cells.length = k ∧ Nat.ble (off + k) cs.length = true ∧ BuildOv g L pl ps (Vl.splice cs off av.cells) res

theorem BuildOv.run {a : Act} {w : World} (hs : St x L M a w) {pl : List (Nat × Nat)} : ∀ {ps : List (Nat × Operand)} {cs res : List AV} {cells : Array Value}, BuildOv true L pl ps cs res → RepL w (bl M ++ x.F) cs cells.toList →
    ∃ cells', Instr.fill (pl.toArray[·]?) cells (ps.map fun (i, o) => (i, a.eval o)) = some cells' ∧ RepL w (bl M ++ x.F) res cells'.toList
  | [], cs, res, cells, h, hr => by
    have h' : cs = res := h
    subst h'
    exact ⟨cells, rfl, hr⟩
  | (f, o) :: ps, cs, res, cells, h, hr => by
    obtain ⟨off, k, av, h1, h2, ho, hk, hl, h3⟩ := h
    have hv := h2.rep rfl hs
    have hvl := hv.toL ho
    have hlen : (a.eval o).cells.size = k := by have := hvl.length; simp at this; omega
    have hcl := hr.length
    have hl' := Nat.le_of_ble_eq_true hl
    simp at hcl
    have hfold := foldl_set (a.eval o).cells.toList off 0 cells (by simp [hlen]; omega)
    rw [Nat.add_zero] at hfold
    obtain ⟨cells', hf, hres⟩ := BuildOv.run hs (cells := wr cells off (a.eval o).cells.toList) h3 (hr.splice hvl)
    refine ⟨cells', ?_, hres⟩
    have hpl : (pl.toArray[f]? : Option (Nat × Nat)) = some (off, k) := by simpa using h1
    simp only [List.map_cons, Instr.fill, hpl]
    have hne : ¬ ((a.eval o).cells.size ≠ k ∨ off + (a.eval o).cells.size > cells.size) := by rw [hlen]; omega
    rw [if_neg (by simpa using hne)]
    rw [← hf]
    congr 1
    rw [← hfold]
    rw [← Array.foldl_toList, Array.toList_zipIdx]

theorem RepL.lits {w : World} {N : List Nat} : ∀ (vs : List Value), vs.all (fun v => shV v == 0) = true → RepL w N (vs.map .lit) vs
  | [], _ => by simp [RepL]
  | v :: vs, h => by
    simp only [List.all_cons, Bool.and_eq_true, beq_iff_eq] at h
    simp only [List.map_cons, RepL]
    refine ⟨v, vs, rfl, ⟨h.1, h.1, ?_⟩, RepL.lits vs h.2⟩
    simp only [RepC]
    cases v <;> first | rfl | (simp [shV] at h)

theorem Ev.build {T k bytes : Nat} {z : Value} {pl : List (Nat × Nat)} {ps : List (Nat × Operand)} {res : List AV} (hT : Ty x.P T k bytes z) (hst : StructAt x.P T pl) (hz : z.cells.toList.all (fun v => shV v == 0) = true)
    (hb : g = true → BuildOv true L pl ps (z.cells.toList.map .lit) res) : Ev x g L M (.build T ps.toArray) ty (.agg res) := fun a w hs hg => by
  obtain ⟨fields, hT', hp⟩ := hst
  obtain ⟨cells', hf, hres⟩ := BuildOv.run hs (cells := z.cells) (hb hg) (RepL.lits _ hz)
  have hf' : Instr.fill (pl.toArray[·]?) z.cells (ps.toArray.map fun p => (p.1, a.eval p.2)).toList = some cells' := by rw [← hf]; congr 1; simp
  refine ⟨.agg cells', ?_, rfl, by simp only [RepC]; exact hres⟩
  have hm : (fields.toArray.mapM (fun (f : Field) => (do Pure.pure (f.offset, ← sizeOf f.type) : Sem (Nat × Nat)))).run x.P w = .ok pl.toArray w := by
    rw [List.mapM_toArray]
    have h2 := hp.run w
    generalize (fields.mapM (fun (f : Field) => (do Pure.pure (f.offset, ← sizeOf f.type) : Sem (Nat × Nat)))) = m at h2 ⊢
    simp [h2]
  simp only [execOp, Instr.build, Sem.run_bind, hT.zero, run_underlying hT', Result.andThen_ok, hm]
  rw [hf']
  simp

theorem Ev.max {o1 o2 : Operand} {T T' : TypeId} {ki : IntKind} {p q : Int} (h1 : Ov g L o1 (.lit (.int ki p))) (h2 : Ov g L o2 (.lit (.int ki q))) : Ev x g L M (.call ⟨.builtin .max, #[o1, o2], #[T, T']⟩) ty (.lit (.int ki (if q > p then q else p))) := Ev.pure fun a w hs hg => by
  simp [execOp, resolve, invoke, builtin, h1.lit hg hs, h2.lit hg hs, Builtin.max_, Builtin.max2]

/-- a struct of two strings -/
def Str2 (P : Program) (T : TypeId) : Prop := ∃ f1 f2 : Field, P.underlying T = some (.struct (P.fieldsOf T)) ∧ (P.fieldsOf T).toList = [f1, f2] ∧ P.stoodInHeld T = false ∧ P.eqGuardType P.depth T = false ∧
  f1.name ≠ "_" ∧ f2.name ≠ "_" ∧ f1.offset = 0 ∧ f2.offset = 1 ∧ P.underlying f1.type = some .string ∧ P.underlying f2.type = some .string
theorem Str2.of {P : Program} {T : TypeId} {f1 f2 : Field} (hU : P.underlying T = some (.struct #[f1, f2])) (hp : P.stoodInHeld T = false) (hm : P.eqGuardType P.depth T = false) (n1 : f1.name ≠ "_") (n2 : f2.name ≠ "_") (k1 : f1.offset = 0) (k2 : f2.offset = 1)
    (u1 : P.underlying f1.type = some .string) (u2 : P.underlying f2.type = some .string) : Str2 P T := by
  have h : P.fieldsOf T = #[f1, f2] := by rw [Program.fieldsOf, hU]
  exact ⟨f1, f2, by rw [h, hU], by rw [h], hp, hm, n1, n2, k1, k2, u1, u2⟩
theorem Rep.agg2 {w : World} {N : List Nat} {a b : List UInt8} {v : Value} (h : Rep w N (.agg [.str a, .str b]) v) : v = .agg #[.string ⟨a.toArray⟩, .string ⟨b.toArray⟩] := by
  obtain ⟨h1, h2⟩ := h
  cases v <;> simp [AV.sh, shV] at h1
  simp only [RepC, RepL] at h2
  rename_i cells
  obtain ⟨v1, vs1, e1, ⟨_, _, r1⟩, v2, vs2, e2, ⟨_, _, r2⟩, e3⟩ := h2
  subst e3
  subst e2
  obtain rfl := List.cons.inj r1 |>.1
  obtain rfl := List.cons.inj r2 |>.1
  congr 1
  exact Array.toList_inj.1 (by simpa [Value.cells] using e1)
theorem run_part_str {P : Program} {T : TypeId} {w : World} {cs : Array Value} {o : Nat} {v : Value} (hT : P.underlying T = some .string) (hv : cs[o]? = some v) : (part T cs o).run P w = .ok v w := by
  have := IsAgg.run (P := P) (T := T) (b := false) ⟨_, hT, rfl⟩ w
  simp [part, this, hv]
theorem Ev.ne2 {o1 o2 : Operand} {T T' : TypeId} {a b c d : List UInt8} (hS : Str2 x.P T) (h1 : Ov g L o1 (.agg [.str a, .str b])) (h2 : Ov g L o2 (.agg [.str c, .str d])) :
    Ev x g L M (.binOp .neq T o1 o2 T') ty (.lit (.bool (!(a == c && b == d)))) := Ev.pure fun ac w hs hg => by
  obtain ⟨f1, f2, hT, hf, hp, hm, n1, n2, k1, k2, u1, u2⟩ := hS
  have e1 := (h1.rep hg hs).agg2
  have e2 := (h2.rep hg hs).agg2
  simp only [execOp, e1, e2, Sem.run_bind, run_eqGuard_agg w .neq T o1 o2 _ _ hm, Result.andThen_ok, run_neq_struct, run_equalIn_agg w 9999 T _ _ hT hp, hf, Op.eqFields]
  have p1 : ∀ s t : Value, (part f1.type #[s, t] f1.offset).run x.P w = .ok s w := fun s t => run_part_str u1 (by rw [k1]; rfl)
  have p2 : ∀ s t : Value, (part f2.type #[s, t] f2.offset).run x.P w = .ok t w := fun s t => run_part_str u2 (by rw [k2]; rfl)
  rw [if_pos n1, if_pos n2]
  simp only [Sem.run_bind, p1, p2, Result.andThen_ok, run_equalIn_string w 9998 _ _ _ u1]
  cases h : (a == c)
  · simp [ByteArray.toList_mk, h]
  · simp [ByteArray.toList_mk, h, p1, p2, run_equalIn_string w 9998 _ _ _ u2]
    by_cases h' : b = d <;> simp [h']
end Go.Vl
end

section
set_option linter.unusedVariables false
set_option linter.unusedSimpArgs false
namespace Go.Vl
abbrev Dc := List UInt8 × List UInt8
abbrev dav (d : Dc) : AV := .agg [.str d.1, .str d.2]
theorem getD_mapG {α : Type} (f : α → AV) (z : α) (l : List α) (i : Nat) (h : i < l.length) : (l.map f)[i]? = some (f (l.getD i z)) := by
  rw [List.getD_eq_getElem?_getD, List.getElem?_map, List.getElem?_eq_getElem h]; rfl
theorem getD_memG {α : Type} (z : α) (l : List α) (i : Nat) (h : i < l.length) : l.getD i z ∈ l := by
  rw [List.getD_eq_getElem?_getD, List.getElem?_eq_getElem h]; exact List.getElem_mem h
theorem take_getDG {α : Type} (z : α) (l : List α) (i : Nat) (h : i < l.length) : l.take (i + 1) = l.take i ++ [l.getD i z] := by
  rw [List.take_add_one, List.getD_eq_getElem?_getD, List.getElem?_eq_getElem h]; rfl
theorem drop_getDG {α : Type} (z : α) (l : List α) (i : Nat) (h : i < l.length) : l.drop i = l.getD i z :: l.drop (i + 1) := by
  rw [List.drop_eq_getElem_cons h, List.getD_eq_getElem?_getD, List.getElem?_eq_getElem h]; rfl
theorem pick_mod (l : List (List UInt8)) (z : Int) (n : Nat) (h : l.length = n) (hn : 0 < n) : ∃ s ∈ l, (l.map AV.str)[(z % (n : Int)).toNat]? = some (.str s) := by
  have h1 := Int.emod_nonneg z (show (n : Int) ≠ 0 by omega)
  have h2 := Int.emod_lt_of_pos z (show (0 : Int) < n by omega)
  exact ⟨_, getD_memG [] l _ (by omega), getD_mapG AV.str [] l _ (by omega)⟩
theorem any_take_false {α : Type} (p : α → Bool) (l : List α) (h : ∀ d ∈ l, p d = false) : l.any p = false := by
  rw [List.any_eq_false]; intro d hd; rw [h d hd]; simp
def only (ns : List (List UInt8)) : List Dc → List Dc
  | [] => []
  | d :: t => if (ns.any fun s => d.1 == s) && !(t.any fun e => e.1 == d.1) then d :: only ns t else only ns t
abbrev nmc : List UInt8 := [99, 111, 108, 111, 114]
abbrev nma : List UInt8 := [97, 45, 98]
abbrev nms : List (List UInt8) := [nmc, nma]
end Go.Vl
end

section
set_option linter.unusedVariables false
set_option linter.unusedSimpArgs false
set_option linter.unusedSectionVars false
namespace Go.Vl
open Go Go.Sem
section ev
variable {x : Cx} {g : Bool} {L : List (Tmp × Bool × AV)} {M : List ME} {ty : TypeId} {T T' : TypeId} {o1 o2 : Operand}

theorem Ev.nilc {a : Addr} (h1 : Ov g L o1 (.lit (.pointer (some a)))) : Ev x g L M (.nilCheck o1) ty (.lit (.pointer (some a))) := Ev.pure fun ac w hs hg => by
  simp [execOp, h1.lit hg hs]
end ev

theorem set_same {α : Type} {l : List α} {i : Nat} {a : α} (h : l[i]? = some a) : l.set i a = l := by
  apply List.ext_getElem?
  intro j
  rw [List.getElem?_set]
  split
  · rename_i e; subst e
    split
    · exact h.symm
    · rename_i hl; rw [List.getElem?_eq_none (by omega)] at h; cases h
  · rfl
/-- what an own row's slice is -/
theorem W.arr_inv {x : Cx} {L : List (Tmp × Bool × AV)} {M : List ME} {R : Act → World → Prop} (i : Nat) {v : Value} {U k : Nat} {es : List AV} (hM : M[i]? = some (.arr v U k es)) (h : ∀ a n c, v = .slice a n c → W x L M R) : W x L M R := fun a w hs => by
  obtain ⟨ad, cap, e, _⟩ := hs.mem.holds _ (List.mem_of_getElem? hM)
  exact h _ _ _ e a w hs
section str
variable {x : Cx} {L : List (Tmp × Bool × AV)} {M : List ME} {ty : TypeId} {T1 T2 : TypeId} {o1 o2 : Operand} {ops : Array Oper} {Q : Exit → Act → World → Prop} {rest : List Oper} {pos : String} {aft : Array Edge}
end str
end Go.Vl
end

section
set_option linter.unusedVariables false
set_option linter.unusedSimpArgs false
namespace Go.Vl
open Go Go.Sem
inductive Nd where
  | mk (name : List UInt8) (attrs : List Dc) (text : List UInt8) (parts : List Nd)
namespace Nd
def name : Nd → List UInt8 | mk n _ _ _ => n
def attrs : Nd → List Dc | mk _ a _ _ => a
def text : Nd → List UInt8 | mk _ _ t _ => t
def parts : Nd → List Nd | mk _ _ _ p => p
mutual
def av : Nd → AV
  | mk n a t p => .agg [.str n, .sl 2 (a.map dav), .str t, .sl 4 (avs p)]
def avs : List Nd → List AV
  | [] => []
  | d :: l => av d :: avs l
end
mutual
def sz : Nd → Nat
  | mk _ a _ p => 1 + a.length + szs p
def szs : List Nd → Nat
  | [] => 0
  | d :: l => sz d + szs l
end
theorem avs_map (l : List Nd) : avs l = l.map av := by
  induction l with
  | nil => rfl
  | cons d l ih => rw [avs, ih]; rfl
abbrev avx (d : Nd) : AV := .agg [.str d.name, .sl 2 (d.attrs.map dav), .str d.text, .sl 4 (d.parts.map av)]
theorem av_eq (d : Nd) : d.av = avx d := by
  cases d with | mk n a t p => rw [av, avs_map]; rfl
theorem sz_eq (d : Nd) : d.sz = 1 + d.attrs.length + szs d.parts := by cases d; rfl
theorem szs_append (l m : List Nd) : szs (l ++ m) = szs l + szs m := by
  induction l with
  | nil => simp [szs]
  | cons d l ih => rw [List.cons_append, szs, szs, ih]; omega
theorem szs_one (d : Nd) : szs [d] = d.sz := by simp [szs]
theorem szs_len (l : List Nd) : l.length ≤ szs l := by
  induction l with
  | nil => simp [szs]
  | cons d l ih => rw [szs, List.length_cons, sz_eq]; omega
theorem szs_mem {l : List Nd} {d : Nd} (h : d ∈ l) : d.sz ≤ szs l := by
  induction l with
  | nil => cases h
  | cons e l ih =>
    rw [szs]
    rcases List.mem_cons.1 h with rfl | h
    · omega
    · have := ih h; omega
mutual
def cnt : Nd → Nat
  | mk _ _ _ p => 1 + cnts p
def cnts : List Nd → Nat
  | [] => 0
  | d :: l => cnt d + cnts l
end
theorem cnt_eq (d : Nd) : d.cnt = 1 + cnts d.parts := by cases d; rfl
theorem cnts_append (l m : List Nd) : cnts (l ++ m) = cnts l + cnts m := by
  induction l with
  | nil => simp [cnts]
  | cons d l ih => rw [List.cons_append, cnts, cnts, ih]; omega
mutual
theorem cnt_le : ∀ d : Nd, d.cnt ≤ d.sz
  | mk _ a _ p => by have := cnts_le p; simp only [cnt, sz]; omega
theorem cnts_le : ∀ l : List Nd, cnts l ≤ szs l
  | [] => Nat.le_refl _
  | d :: l => by have := cnt_le d; have := cnts_le l; simp only [cnts, szs]; omega
end
mutual
def pths : Nd → List (List Int)
  | mk _ _ _ p => pthsFrom 0 p
def pthsFrom : Nat → List Nd → List (List Int)
  | _, [] => []
  | k, d :: l => [(k : Int)] :: ((pths d).map ((k : Int) :: ·) ++ pthsFrom (k + 1) l)
end
theorem pths_eq (d : Nd) : d.pths = pthsFrom 0 d.parts := by cases d; rfl
mutual
theorem pths_len : ∀ d : Nd, d.pths.length + 1 = d.cnt
  | mk _ _ _ p => by have := pthsFrom_len p 0; simp only [pths, cnt]; omega
theorem pthsFrom_len : ∀ (l : List Nd) (k : Nat), (pthsFrom k l).length = cnts l
  | [], _ => rfl
  | d :: l, k => by have h1 := pths_len d; have h2 := pthsFrom_len l (k + 1); simp only [pthsFrom, cnts, List.length_cons, List.length_append, List.length_map]; omega
end
mutual
theorem pths_deep : ∀ (d : Nd) (p : List Int), p ∈ d.pths → p.length < d.sz
  | mk _ a _ q, p, h => by have := pthsFrom_deep q 0 p h; simp only [sz]; omega
theorem pthsFrom_deep : ∀ (l : List Nd) (k : Nat) (p : List Int), p ∈ pthsFrom k l → p.length ≤ szs l
  | [], _, _, h => by simp [pthsFrom] at h
  | d :: l, k, p, h => by
    simp only [pthsFrom, List.mem_cons, List.mem_append, List.mem_map] at h
    have h1 := sz_eq d
    rcases h with rfl | ⟨q, hq, rfl⟩ | h
    · simp only [szs, List.length_singleton]; omega
    · have := pths_deep d q hq; simp only [szs, List.length_cons]; omega
    · have := pthsFrom_deep l (k + 1) p h; simp only [szs]; omega
end
def dflt : Nd := mk [] [] [] []
theorem at_av (l : List Nd) (i : Nat) (h : i < l.length) : (l.map av)[i]? = some (avx (l.getD i dflt)) := by
  rw [← av_eq]; exact getD_mapG av dflt l i h
theorem at_sz (l : List Nd) (i : Nat) (h : i < l.length) : (l.getD i dflt).sz ≤ szs l := szs_mem (getD_memG dflt l i h)
theorem map_snoc (l : List Nd) (d : Nd) : (l ++ [d]).map av = l.map av ++ [avx d] := by rw [List.map_append, ← av_eq]; rfl
theorem take_snoc (l : List Nd) (i : Nat) (h : i < l.length) : (l.take (i + 1)).map av = (l.take i).map av ++ [avx (l.getD i dflt)] := by
  rw [take_getDG dflt l i h, map_snoc]
end Nd
theorem okc_davs (l : List Dc) : ∀ e ∈ l.map dav, e.okc = true := by
  intro e he
  obtain ⟨d, _, rfl⟩ := List.mem_map.1 he
  rfl
theorem Ev.lda1g {x : Cx} {g : Bool} {L : List (Tmp × Bool × AV)} {M : List ME} {ty T : TypeId} {o1 : Operand} (i q o : Nat) {v : Value} {U k j : Nat} {es : List AV} {e c : AV} (h1 : Ov g L o1 (.aptr v j)) (hM : M[i]? = some (ME.arr v U k es)) (hq : g = true → es[q]? = some e) (hj : g = true → j = q * k + o) (ho : e.okc = true) (hk : e.cells.length = k) (hc : e.cells[o]? = some c)
    (hT : IsAgg x.P T false) : Ev x g L M (.load T o1) ty c := fun a w hs hg => Ev.lda1 i q o h1 hM (hq hg) (hj hg) ho hk hc hT a w hs hg
/-- a slice held against nil: not known, but what is nil has no element -/
theorem W.slnil {x : Cx} {L : List (Tmp × Bool × AV)} {M : List ME} {ops : Array Oper} {Q : Exit → Act → World → Prop} {rest : List Oper} {ty : TypeId} {pos : String} {aft : Array Edge} {d : Tmp} {T T' E k : TypeId} {o1 : Operand} {es : List AV}
    (h1 : Ov true L o1 (.sl k es)) (hT : x.P.underlying T = some (.slice E)) (hd : Nat.blt d x.n = true) (next : ∀ q : Bool, (q = true → es = []) → W x ((d, true, .lit (.bool q)) :: L) M (wpList x.P ops Q rest)) :
    W x L M (wpList x.P ops Q (⟨some d, .binOp .eql T o1 (.const (.slice none 0 0)) T', ty, pos, aft, none⟩ :: rest)) := by
  refine W.opv (ι := { q : Bool // q = true → es = [] }) (fun _ => M) (fun q => .lit (.bool q.1)) hd ?_ (fun q => next q.1 q.2)
  intro a w hs
  obtain ⟨ad, cap, ev, h3, h4, h5⟩ := (h1.rep rfl hs).sl_inv
  have hv : a.eval (.const (.slice none 0 0)) = .slice none 0 0 := rfl
  refine ⟨.bool ad.isNone, w, ⟨ad.isNone, fun hq => ?_⟩, ?_, hs, Rep.lit _⟩
  · rcases h5 with h5 | ⟨b, off, cur, U, fr, rfl, _⟩
    · exact h5
    · cases hq
  · simp only [execOp, ev, hv, eqGuard_at_slice, Sem.run_bind, Sem.run_pure, Result.andThen_ok]
    simp [binOp, Op.equal, Op.maxDepth, run_equalIn_slice_nil w 9999 T E ad es.length cap hT]
end Go.Vl
end

section
set_option linter.unusedVariables false
set_option linter.unusedSimpArgs false
namespace Go.Vl
/-- nil stands for the row of no element -/
def NilL : List AV → List AV → Prop
  | [], [] => True
  | a :: as_, b :: bs => (a = b ∨ (a = .lit (.slice none 0 0) ∧ ∃ k, b = .sl k [])) ∧ NilL as_ bs
  | _, _ => False
theorem NilL.rep {w : World} {N : List Nat} : ∀ {as_ bs : List AV} {row : List Value}, NilL as_ bs → RepL w N as_ row → RepL w N bs row
  | [], [], _, _, hr => hr
  | a :: as_, b :: bs, row, h, hr => by
    simp only [RepL] at hr ⊢
    obtain ⟨v, vs, e, ⟨h1, h2, h3⟩, h4⟩ := hr
    refine ⟨v, vs, e, ?_, NilL.rep h.2 h4⟩
    rcases h.1 with rfl | ⟨rfl, k, rfl⟩
    · exact ⟨h1, h2, h3⟩
    · have hv0 : [v] = (Value.slice none 0 0).cells.toList := by simpa only [RepC] using h3
      have hv : [v] = [Value.slice none 0 0] := hv0
      obtain rfl := (List.cons.inj hv).1
      exact ⟨rfl, rfl, by simp only [RepC]; exact ⟨none, 0, rfl, Nat.le_refl _, by simp [maxLen], .inl trivial⟩⟩
  | [], _ :: _, _, h, _ => h.elim
  | _ :: _, [], _, h, _ => h.elim
theorem W.nils {x : Cx} {L : List (Tmp × Bool × AV)} {M : List ME} {R : Act → World → Prop} {t : Tmp} {g : Bool} {cs cs' : List AV} (h : look L t = some (g, .agg cs)) (hc : NilL cs cs') (next : W x ((t, g, .agg cs') :: L) M R) : W x L M R := by
  intro a w hs
  refine next a w ⟨hs.defers, hs.size, ?_, hs.mem, hs.fr, hs.old⟩
  intro u g' av' hl
  rw [look_cons] at hl
  by_cases e : t = u
  · subst e; rw [if_pos rfl] at hl; cases hl
    have h1 := hs.slots t g _ h
    refine ⟨fun hg => ?_, h1.2⟩
    obtain ⟨h2, h3⟩ := h1.1 hg
    refine ⟨h2, ?_⟩
    simp only [RepC] at h3 ⊢
    exact hc.rep h3
  · rw [if_neg e] at hl; exact hs.slots u g' av' hl
namespace Nd
/-- path p leads to d -/
def atP : List Nd → List Int → Nd → Prop
  | _, [], _ => False
  | l, k :: p, d => ∃ i : Nat, k = (i : Int) ∧ i < l.length ∧ ((p = [] ∧ l.getD i dflt = d) ∨ (p ≠ [] ∧ atP (l.getD i dflt).parts p d))
theorem mem_paths : ∀ (l : List Nd) (k : Nat) (p : List Int), p ∈ pthsFrom k l → ∃ (i : Nat) (r : List Int), p = ((k + i : Nat) : Int) :: r ∧ i < l.length ∧ (r = [] ∨ r ∈ pthsFrom 0 (l.getD i dflt).parts)
  | [], k, p, h => by simp [pthsFrom] at h
  | d :: l, k, p, h => by
    simp only [pthsFrom, List.mem_cons, List.mem_append, List.mem_map] at h
    rcases h with rfl | ⟨q, hq, rfl⟩ | h
    · exact ⟨0, [], by simp, by simp, .inl rfl⟩
    · exact ⟨0, q, by simp, by simp, .inr (by rw [pths_eq] at hq; exact hq)⟩
    · obtain ⟨i, r, h1, h2, h3⟩ := mem_paths l (k + 1) p h
      exact ⟨i + 1, r, by rw [h1]; congr 2; omega, by simp; omega, by simpa using h3⟩
mutual
def wf : Nd → Prop
  | mk n _ _ p => (n = [] → p = []) ∧ wfs p
def wfs : List Nd → Prop
  | [] => True
  | d :: l => wf d ∧ wfs l
end
theorem wf_eq (d : Nd) : d.wf ↔ (d.name = [] → d.parts = []) ∧ wfs d.parts := by cases d; rfl
theorem wfs_append {l m : List Nd} (h : wfs l) (h' : wfs m) : wfs (l ++ m) := by
  induction l with
  | nil => exact h'
  | cons e l ih => exact ⟨h.1, ih h.2⟩
/-- one path stands ahead of another -/
def bfr : List Int → List Int → Bool
  | _, [] => false
  | [], _ :: _ => true
  | x :: a, y :: b => if x = y then bfr a b else decide (x < y)
theorem bfr_lt (x y : Int) (a b : List Int) (h : x < y) : bfr (x :: a) (y :: b) = true := by
  have : x ≠ y := by omega
  simp [bfr, this, h]
mutual
theorem pths_ord : ∀ d : Nd, (pths d).Pairwise (fun a b => bfr a b = true)
  | mk _ _ _ p => pthsFrom_ord p 0
theorem pthsFrom_ord : ∀ (l : List Nd) (k : Nat), (pthsFrom k l).Pairwise (fun a b => bfr a b = true)
  | [], _ => List.Pairwise.nil
  | d :: l, k => by
    rw [pthsFrom, List.pairwise_cons, List.pairwise_append, List.pairwise_map]
    refine ⟨?_, ?_, pthsFrom_ord l (k + 1), ?_⟩
    · intro p hp
      rcases List.mem_append.1 hp with hp | hp
      · obtain ⟨q, hq, rfl⟩ := List.mem_map.1 hp
        rw [pths_eq] at hq
        obtain ⟨i, r, rfl, _⟩ := mem_paths _ 0 q hq
        simp [bfr]
      · obtain ⟨i, r, rfl, _⟩ := mem_paths _ (k + 1) p hp
        exact bfr_lt _ _ _ _ (by omega)
    · refine (pths_ord d).imp ?_
      intro a b h
      simpa [bfr] using h
    · intro p hp q hq
      obtain ⟨p', _, rfl⟩ := List.mem_map.1 hp
      obtain ⟨i, r, rfl, _⟩ := mem_paths _ (k + 1) q hq
      exact bfr_lt _ _ _ _ (by omega)
end
end Nd
end Go.Vl
end

section
set_option linter.unusedVariables false
set_option linter.unusedSimpArgs false
set_option linter.unusedSectionVars false
namespace Go.Vl
open Go Go.Sem
section callg
variable {x : Cx} {L : List (Tmp × Bool × AV)} {M : List ME} {ops : Array Oper} {Q : Exit → Act → World → Prop} {rest : List Oper}
theorem W.callg {f : FuncId} {d : Tmp} {fo : Operand} {caps : List Value} {os : List Operand} {ats : Array TypeId} {ty : TypeId} {pos : String} {aft : Array Edge} {avs avs' : List AV} {r : AV} {Min Mr : List ME} {j : Nat} {want : Bool} {t : Tmp} {gb b G : Bool}
    (hj : (ops[j]?).bind (·.dst) = some t) (hl : look L t = some (gb, .lit (.bool b))) (hG : G = (gb && (b == want)))
    (hc : G = true → FnC x.P f avs' Min (fun r' M' => r' = r ∧ M' = Min)) (hfo : G = true → Ov true L fo (.lit (.func (.func f) #[] caps.toArray))) (ha : G = true → ArgsOv L os avs) (he : avs' = avs ++ caps.map .lit) (hM : List.Perm M (Min ++ Mr)) (hd : Nat.blt d x.n = true)
    (next : W x ((d, G, r) :: L) M (wpList x.P ops Q rest)) :
    W x L M (wpList x.P ops Q (⟨some d, .call ⟨.value fo, os.toArray, ats⟩, ty, pos, aft, some (j, want)⟩ :: rest)) := by
  intro a w hs
  have hw := guard_of (d := some d) (op := .call ⟨.value fo, os.toArray, ats⟩) (ty := ty) (pos := pos) (aft := aft) (want := want) hj hl hs
  rw [← hG] at hw
  cases hGv : G with
  | true =>
    have h := W.callv (ops := ops) (Q := Q) (rest := rest) (ats := ats) (ty := ty) (pos := pos) (aft := aft) (hc hGv) (hfo hGv) (ha hGv) he hM hd (fun r' M' hp => by
      obtain ⟨rfl, rfl⟩ := hp
      rw [hGv] at next
      exact W.perm hM.symm next) a w hs
    unfold wpList at h ⊢
    rw [if_pos (by rw [hw, hGv])]
    rw [if_pos (by simp [Region.wanted])] at h
    exact h
  | false =>
    refine wpList_cons_skip (by rw [hw, hGv]) ?_
    rw [hGv] at next
    exact next _ _ (hs.put hd false r undef (by simp) (fun _ => rfl))
theorem W.callgT {f : FuncId} {d : Tmp} {fo : Operand} {caps : List Value} {os : List Operand} {ats : Array TypeId} {ty : TypeId} {pos : String} {aft : Array Edge} {avs avs' : List AV} {r : AV} {Min Mr : List ME} {j : Nat} {t : Tmp} {b : Bool}
    (hj : (ops[j]?).bind (·.dst) = some t) (hl : look L t = some (true, .lit (.bool b)))
    (hc : (b) = true → FnC x.P f avs' Min (fun r' M' => r' = r ∧ M' = Min)) (hfo : (b) = true → Ov true L fo (.lit (.func (.func f) #[] caps.toArray))) (ha : (b) = true → ArgsOv L os avs) (he : avs' = avs ++ caps.map .lit) (hM : List.Perm M (Min ++ Mr)) (hd : Nat.blt d x.n = true)
    (next : W x ((d, b, r) :: L) M (wpList x.P ops Q rest)) :
    W x L M (wpList x.P ops Q (⟨some d, .call ⟨.value fo, os.toArray, ats⟩, ty, pos, aft, some (j, true)⟩ :: rest)) :=
  W.callg hj hl (by simp) hc hfo ha he hM hd next
theorem W.callgF {f : FuncId} {d : Tmp} {fo : Operand} {caps : List Value} {os : List Operand} {ats : Array TypeId} {ty : TypeId} {pos : String} {aft : Array Edge} {avs avs' : List AV} {r : AV} {Min Mr : List ME} {j : Nat} {t : Tmp} {b : Bool}
    (hj : (ops[j]?).bind (·.dst) = some t) (hl : look L t = some (true, .lit (.bool b)))
    (hc : (!b) = true → FnC x.P f avs' Min (fun r' M' => r' = r ∧ M' = Min)) (hfo : (!b) = true → Ov true L fo (.lit (.func (.func f) #[] caps.toArray))) (ha : (!b) = true → ArgsOv L os avs) (he : avs' = avs ++ caps.map .lit) (hM : List.Perm M (Min ++ Mr)) (hd : Nat.blt d x.n = true)
    (next : W x ((d, !b, r) :: L) M (wpList x.P ops Q rest)) :
    W x L M (wpList x.P ops Q (⟨some d, .call ⟨.value fo, os.toArray, ats⟩, ty, pos, aft, some (j, false)⟩ :: rest)) :=
  W.callg hj hl (by simp) hc hfo ha he hM hd next
end callg
/-- AN ARRAY OF THE CALL's OWN IS WRITTEN NO MORE; what else is known of the slots stays. -/
theorem W.freezeA {x : Cx} {L : List (Tmp × Bool × AV)} {M : List ME} {R : Act → World → Prop} {v : Value} {T k : Nat} {es : List AV} {L' : List (Tmp × Bool × AV)} {M1 M2 D : List ME} (hM : List.Perm M (ME.arr v T k es :: (M1 ++ D))) (hL : FSub v k es L L') (hM2 : FrzMs v k es M1 M2) (h : W x (L' ++ L) M2 R) : W x L M R := by
  intro a w hs
  have h1 : St x L' M2 a w := W.freeze (x := x) (R := fun a w => St x L' M2 a w) hM hL hM2 (fun a w hs => hs) a w hs
  have hp2 : List.Perm M (M1 ++ (ME.arr v T k es :: D)) := hM.trans (List.perm_middle.symm)
  have h2 : St x L M1 a w := by
    obtain ⟨hm, hk, hsub⟩ := hs.mem.sub hp2
    exact ⟨hs.defers, hs.size, fun t g av hl => ⟨fun hg => ((hs.slots t g av hl).1 hg).keep hk, (hs.slots t g av hl).2⟩, hm, hs.fr.sub hsub, hs.old⟩
  refine h a w ⟨h1.defers, h1.size, ?_, h1.mem, h1.fr, h1.old⟩
  intro t g av hl
  rw [look_append] at hl
  cases hx : look L' t with
  | some p => rw [hx, Option.some_or] at hl; obtain rfl := Option.some.inj hl; exact h1.slots t g av hx
  | none =>
    rw [hx, Option.none_or] at hl
    have := h2.slots t g av hl
    rw [hM2.bl]
    exact this
theorem okc_strs (l : List (List UInt8)) : ∀ e ∈ l.map AV.str, e.okc = true := by
  intro e he
  obtain ⟨d, _, rfl⟩ := List.mem_map.1 he
  rfl
/-- the first place where it holds, or -1 -/
def idxI {α : Type} (p : α → Bool) : List α → Int
  | [] => -1
  | a :: l => if p a then 0 else if idxI p l < 0 then -1 else idxI p l + 1
theorem idxI_any {α : Type} (p : α → Bool) : ∀ l : List α, decide (0 ≤ idxI p l) = l.any p
  | [] => rfl
  | a :: l => by
    have ih := idxI_any p l
    rw [List.any_cons, ← ih, idxI]
    cases h : p a with
    | true => simp
    | false =>
      rw [if_neg (by simp), Bool.false_or]
      split <;> simp <;> omega
theorem idxI_ge {α : Type} (p : α → Bool) : ∀ l : List α, -1 ≤ idxI p l
  | [] => by simp [idxI]
  | a :: l => by have := idxI_ge p l; rw [idxI]; split <;> (try split) <;> omega
theorem idxI_lt {α : Type} (p : α → Bool) : ∀ l : List α, idxI p l < l.length
  | [] => by simp [idxI]
  | a :: l => by have := idxI_lt p l; have := idxI_ge p l; rw [idxI, List.length_cons]; split <;> (try split) <;> omega
theorem idxI_miss {α : Type} (p : α → Bool) : ∀ l : List α, (∀ d ∈ l, p d = false) → idxI p l = -1
  | [], _ => rfl
  | a :: l, h => by rw [idxI, h a (by simp), idxI_miss p l (fun d hd => h d (by simp [hd]))]; simp
theorem idxI_hit {α : Type} (p : α → Bool) (z : α) : ∀ (l : List α) (i : Nat), i < l.length → (∀ d ∈ l.take i, p d = false) → p (l.getD i z) = true → idxI p l = i
  | [], i, h, _, _ => by simp at h
  | a :: l, 0, _, _, h => by
    have h' : p a = true := by simpa using h
    simp [idxI, h']
  | a :: l, i + 1, h1, h2, h3 => by
    have ih := idxI_hit p z l i (by simpa using h1) (fun d hd => h2 d (by simp [hd])) (by simpa using h3)
    rw [idxI, h2 a (by simp), ih]
    simp
    omega
theorem idxI_at {α : Type} (p : α → Bool) (z : α) : ∀ (l : List α), 0 ≤ idxI p l → p (l.getD (idxI p l).toNat z) = true
  | [], h => by simp [idxI] at h
  | a :: l, h => by
    rw [idxI] at h ⊢
    split
    · rename_i h1; simpa using h1
    · rename_i h1
      rw [if_neg h1] at h
      split at h
      · omega
      · rename_i h2
        rw [if_neg h2]
        have ih := idxI_at p z l (by omega)
        have e : (idxI p l + 1).toNat = (idxI p l).toNat + 1 := by omega
        rw [e]
        simpa using ih
/-- is a text a name? -/
def nameCh (r : Int) : Bool := ((decide (97 ≤ r) && decide (r ≤ 122)) || (decide (48 ≤ r) && decide (r ≤ 57))) || r == 45
def nameOk (s : List UInt8) : Bool := !(((s == [] || decide ((12 : Int) < (s.length : Int))) || decide (((s.getD 0 0).toNat : Int) < 97)) || decide ((122 : Int) < ((s.getD 0 0).toNat : Int))) && !((runes s).any fun r => !(nameCh (r : Int)))
end Go.Vl
end

section
set_option linter.unusedVariables false
set_option linter.unusedSimpArgs false
namespace Go.Vl
structure Rl where
  name : List UInt8
  act : Int
  to : List UInt8
namespace Nd
theorem text_mk (n : List UInt8) (a : List Dc) (t : List UInt8) (q : List Nd) : (mk n a t q).text = t := rfl
/-- is the last one a text? (p: where there is none) -/
def lastT (p : Bool) (l : List Nd) : Bool := match l.getLast? with
  | none => p
  | some d => d.name == []
theorem lastT_nil (p : Bool) : lastT p [] = p := rfl
theorem lastT_snoc (p : Bool) (l : List Nd) (d : Nd) : lastT p (l ++ [d]) = (d.name == []) := by simp [lastT]
theorem lastT_at (l : List Nd) (h : 0 < l.length) (p : Bool) : lastT p l = ((l.getD (l.length - 1) dflt).name == []) := by
  rw [lastT, List.getLast?_eq_getElem?, List.getD_eq_getElem?_getD, List.getElem?_eq_getElem (by omega)]; rfl
theorem lastT_cons (p : Bool) (d : Nd) (l : List Nd) : lastT p (d :: l) = lastT (d.name == []) l := by
  rcases List.eq_nil_or_concat l with rfl | ⟨m, e, rfl⟩
  · simp [lastT]
  · rw [List.concat_eq_append, ← List.cons_append, lastT_snoc, lastT_snoc]
mutual
/-- texts are not empty, hold nothing, and do not stand side by side (p: does one stand ahead?); elements have no text -/
def apt : Nd → Bool
  | mk _ _ _ q => apts false q
def apts : Bool → List Nd → Bool
  | _, [] => true
  | p, d :: l => (if d.name = [] then (!(d.text == []) && (d.parts.length == 0 && d.attrs.length == 0)) && !p else (d.text == []) && apt d) && apts (d.name == []) l
end
theorem apt_eq (d : Nd) : apt d = apts false d.parts := by cases d; rfl
def apt1 (p : Bool) (d : Nd) : Bool := if d.name = [] then (!(d.text == []) && (d.parts.length == 0 && d.attrs.length == 0)) && !p else (d.text == []) && apts false d.parts
theorem apts_cons (p : Bool) (d : Nd) (l : List Nd) : apts p (d :: l) = (apt1 p d && apts (d.name == []) l) := by rw [apts, apt_eq]; rfl
mutual
/-- all texts, one behind the other -/
def wd : Nd → List UInt8
  | mk _ _ _ q => wds q
def wds : List Nd → List UInt8
  | [] => []
  | d :: l => (d.text ++ wd d) ++ wds l
end
theorem wd_eq (d : Nd) : wd d = wds d.parts := by cases d; rfl
theorem wds_append (l m : List Nd) : wds (l ++ m) = wds l ++ wds m := by
  induction l with
  | nil => rfl
  | cons d l ih => rw [List.cons_append, wds, wds, ih]; simp
theorem wds_one (d : Nd) : wds [d] = d.text ++ wds d.parts := by rw [wds, wds, List.append_nil, wd_eq]
theorem wds_snoc (l : List Nd) (i : Nat) (h : i < l.length) : wds (l.take (i + 1)) = wds (l.take i) ++ ((l.getD i dflt).text ++ wds (l.getD i dflt).parts) := by
  rw [take_getDG dflt l i h, wds_append, wds_one]
mutual
/-- the bytes of all texts, and of all names and values -/
def tsz : Nd → Nat
  | mk _ _ t q => t.length + tszs q
def tszs : List Nd → Nat
  | [] => 0
  | d :: l => tsz d + tszs l
end
theorem tsz_eq (d : Nd) : tsz d = d.text.length + tszs d.parts := by cases d; rfl
theorem tszs_append (l m : List Nd) : tszs (l ++ m) = tszs l + tszs m := by
  induction l with
  | nil => simp [tszs]
  | cons d l ih => rw [List.cons_append, tszs, tszs, ih]; omega
mutual
theorem wd_len : ∀ d : Nd, d.text.length + (wd d).length = tsz d
  | mk _ _ t q => by have := wds_len q; simp only [wd, tsz, text_mk]; omega
theorem wds_len : ∀ l : List Nd, (wds l).length = tszs l
  | [] => rfl
  | d :: l => by have := wd_len d; have := wds_len l; simp only [wds, tszs, List.length_append]; omega
end
mutual
/-- have all elements one of these names? -/
def onl (ns : List (List UInt8)) : Nd → Bool
  | mk _ _ _ q => onls ns q
def onls (ns : List (List UInt8)) : List Nd → Bool
  | [] => true
  | d :: l => ((d.name == [] || ns.any fun s => d.name == s) && onl ns d) && onls ns l
end
/-- a node behind others; texts side by side are one -/
def jn1 (out : List Nd) (n : Nd) : List Nd :=
  if n.name = [] ∧ lastT false out = true then out.dropLast ++ [mk [] (out.getD (out.length - 1) dflt).attrs ((out.getD (out.length - 1) dflt).text ++ n.text) (out.getD (out.length - 1) dflt).parts] else out ++ [n]
def jn : List Nd → List Nd → List Nd
  | out, [] => out
  | out, n :: more => jn (jn1 out n) more
end Nd
namespace Rl
open Nd
abbrev dfl : Rl := ⟨[], 2, []⟩
/-- what is done with an element of a name -/
def of (rs : List Rl) (nm : List UInt8) : Rl := if 0 ≤ idxI (fun q => q.name == nm) rs then rs.getD (idxI (fun q => q.name == nm) rs).toNat dfl else dfl
def step (rs : List Rl) (out : List Nd) (d : Nd) (sub : List Nd) : List Nd :=
  if d.name = [] then (if d.text = [] then out else jn1 out (Nd.mk [] [] d.text []))
  else if (of rs d.name).act = 1 then out ++ [Nd.mk (of rs d.name).to d.attrs [] sub]
  else if (of rs d.name).act = 2 then jn out sub else out
mutual
def subs (rs : List Rl) : Nd → List Nd
  | .mk _ _ _ q => run rs [] q
def run (rs : List Rl) : List Nd → List Nd → List Nd
  | out, [] => out
  | out, d :: l => run rs (step rs out d (subs rs d)) l
end
mutual
/-- elements have no text, texts hold nothing -/
def plain : Nd → Prop
  | .mk n a t q => (n = [] → q = [] ∧ a = []) ∧ (n ≠ [] → t = []) ∧ plains q
def plains : List Nd → Prop
  | [] => True
  | d :: l => plain d ∧ plains l
end
theorem plain_eq (d : Nd) : plain d ↔ (d.name = [] → d.parts = [] ∧ d.attrs = []) ∧ (d.name ≠ [] → d.text = []) ∧ plains d.parts := by cases d; rfl
/-- elements that are kept as_ they are -/
def kept (rs : List Rl) (nm : List UInt8) : Prop := (of rs nm).act = 1 ∧ (of rs nm).to = nm
mutual
def kp (rs : List Rl) : Nd → Prop
  | .mk n _ _ q => (n ≠ [] → kept rs n) ∧ kps rs q
def kps (rs : List Rl) : List Nd → Prop
  | [] => True
  | d :: l => kp rs d ∧ kps rs l
end
end Rl
end Go.Vl
end

section
set_option linter.unusedVariables false
set_option linter.unusedSimpArgs false
namespace Go.Vl
namespace Nd
theorem tszs_mem {l : List Nd} {d : Nd} (h : d ∈ l) : d.tsz ≤ tszs l := by
  induction l with
  | nil => cases h
  | cons e l ih =>
    rw [tszs]
    rcases List.mem_cons.1 h with rfl | h
    · omega
    · have := ih h; omega
theorem at_tsz (l : List Nd) (i : Nat) (h : i < l.length) : (l.getD i dflt).tsz ≤ tszs l := tszs_mem (getD_memG dflt l i h)
theorem tszs_take (l : List Nd) (i : Nat) : tszs (l.take i) ≤ tszs l := by
  have := tszs_append (l.take i) (l.drop i); rw [List.take_append_drop] at this; omega
abbrev tx6 : List (List UInt8) := [[120], [97, 60, 98], [38, 97, 109, 112, 59], [121, 32, 122], [32], [60, 112, 62]]
abbrev vd2 : List (List UInt8) := [[98, 114], [105, 109, 103]]
abbrev el6 : List (List UInt8) := [[100, 105, 118], [98], [101, 109], [112], [97], [117, 108]]
abbrev vl5 : List (List UInt8) := [[], [120], [97, 34, 98, 38], [60], [104, 116, 116, 112, 58, 47, 47, 121]]
abbrev href : List UInt8 := [104, 114, 101, 102]
mutual
/-- what is drawn; k: not deeper than so; p: does a text stand ahead? -/
def dr : Nat → Nd → Prop
  | k, mk n a t q => (n = [] ∧ a = [] ∧ t ∈ tx6 ∧ q = []) ∨ (n ∈ vd2 ∧ a = [] ∧ t = [] ∧ q = []) ∨ (n ∈ el6 ∧ (a = [] ∨ ∃ v ∈ vl5, a = [(href, v)]) ∧ t = [] ∧ 2 ≤ k ∧ drs (k - 1) false q ∧ q.length ≤ 4)
def drs : Nat → Bool → List Nd → Prop
  | _, _, [] => True
  | k, p, d :: l => (d.name = [] → p = false) ∧ dr k d ∧ drs k (d.name == []) l
end
theorem dr_eq (k : Nat) (d : Nd) : dr k d ↔ (d.name = [] ∧ d.attrs = [] ∧ d.text ∈ tx6 ∧ d.parts = []) ∨ (d.name ∈ vd2 ∧ d.attrs = [] ∧ d.text = [] ∧ d.parts = []) ∨ (d.name ∈ el6 ∧ (d.attrs = [] ∨ ∃ v ∈ vl5, d.attrs = [(href, v)]) ∧ d.text = [] ∧ 2 ≤ k ∧ drs (k - 1) false d.parts ∧ d.parts.length ≤ 4) := by cases d; rfl
theorem drs_append (k : Nat) (l m : List Nd) : ∀ p, drs k p (l ++ m) ↔ drs k p l ∧ drs k (lastT p l) m := by
  induction l with
  | nil => intro p; simp [drs, lastT_nil]
  | cons d l ih => intro p; rw [List.cons_append, drs, drs, ih, lastT_cons, and_assoc, and_assoc]
theorem drs_snoc {k : Nat} {p : Bool} {l : List Nd} {d : Nd} (h : drs k p l) (h1 : d.name = [] → lastT p l = false) (h2 : dr k d) : drs k p (l ++ [d]) := (drs_append k l [d] p).2 ⟨h, h1, h2, trivial⟩
theorem dr_text (k : Nat) (t : List UInt8) (h : t ∈ tx6) : dr k (mk [] [] t []) := .inl ⟨rfl, rfl, h, rfl⟩
theorem dr_void (k : Nat) (n : List UInt8) (h : n ∈ vd2) : dr k (mk n [] [] []) := .inr (.inl ⟨h, rfl, rfl, rfl⟩)
theorem dr_el (k : Nat) (n : List UInt8) (a : List Dc) (q : List Nd) (h : n ∈ el6) (ha : a = [] ∨ ∃ v ∈ vl5, a = [(href, v)]) (hk : 2 ≤ k) (hq : drs (k - 1) false q) (h4 : q.length ≤ 4) : dr k (mk n a [] q) := .inr (.inr ⟨h, ha, rfl, hk, hq, h4⟩)
theorem ne_tx6 : ∀ t ∈ tx6, t ≠ [] := by decide
theorem ne_vd2 : ∀ t ∈ vd2, t ≠ [] := by decide
theorem ne_el6 : ∀ t ∈ el6, t ≠ [] := by decide
theorem lastT_of (out : List Nd) (h : (decide ((0 : Int) < ((out.map av).length : Int)) && ((out.getD (out.length - 1) dflt).name == [])) = false) : lastT false out = false := by
  rw [List.length_map] at h
  rcases Nat.eq_zero_or_pos out.length with h0 | h0
  · rw [List.eq_nil_of_length_eq_zero h0]; rfl
  · rw [lastT_at out h0 false]
    have : decide ((0 : Int) < (out.length : Int)) = true := decide_eq_true (by omega)
    rw [this, Bool.true_and] at h
    exact h
theorem drs_facts : ∀ (n : Nat) (k : Nat) (p : Bool) (l : List Nd), szs l ≤ n → drs k p l → wfs l ∧ Rl.plains l ∧ apts p l = true ∧ tszs l ≤ 5 * szs l
  | n, k, p, [], _, _ => ⟨trivial, trivial, rfl, Nat.zero_le _⟩
  | 0, k, p, d :: l, hn, _ => by rw [szs, sz_eq] at hn; omega
  | n + 1, k, p, d :: l, hn, h => by
    rw [szs, sz_eq] at hn
    obtain ⟨h1, h2, h3⟩ := h
    obtain ⟨a1, a2, a3, a4⟩ := drs_facts n k _ l (by omega) h3
    rw [dr_eq] at h2
    have et := tsz_eq d
    have es := sz_eq d
    rw [apts_cons, wfs, Rl.plains, wf_eq, Rl.plain_eq, apt1, tszs, szs]
    rcases h2 with ⟨b1, b2, b3, b4⟩ | ⟨b1, b2, b3, b4⟩ | ⟨b1, b2, b3, b4, b5, b6⟩
    · have c := ne_tx6 _ b3
      have c5 : d.text.length ≤ 5 := (by decide : ∀ t ∈ tx6, t.length ≤ 5) _ b3
      rw [b4] at et
      have z : tszs ([] : List Nd) = 0 := rfl
      refine ⟨⟨⟨fun _ => b4, by rw [b4]; trivial⟩, a1⟩, ⟨⟨fun _ => ⟨b4, b2⟩, fun h => absurd b1 h, by rw [b4]; trivial⟩, a2⟩, ?_, by omega⟩
      rw [if_pos b1, a3, h1 b1, b2, b4]; simp [c]
    · have c := ne_vd2 _ b1
      rw [b4, b3] at et
      have z : tszs ([] : List Nd) = 0 := rfl
      have z2 : ([] : List UInt8).length = 0 := rfl
      refine ⟨⟨⟨fun h => absurd h c, by rw [b4]; trivial⟩, a1⟩, ⟨⟨fun h => absurd h c, fun h => b3, by rw [b4]; trivial⟩, a2⟩, ?_, by omega⟩
      rw [if_neg c, a3, b3, b4]; rfl
    · have c := ne_el6 _ b1
      obtain ⟨g1, g2, g3, g4⟩ := drs_facts n _ _ d.parts (by omega) b5
      rw [b3] at et
      have z2 : ([] : List UInt8).length = 0 := rfl
      refine ⟨⟨⟨fun h => absurd h c, g1⟩, a1⟩, ⟨⟨fun h => absurd h c, fun h => b3, g2⟩, a2⟩, ?_, by omega⟩
      rw [if_neg c, a3, b3, g3]; rfl
end Nd
namespace Rl
/-- rules that may be -/
structure ok (r : Rl) : Prop where
  n : nameOk r.name = true
  nl : r.name.length ≤ 1000
  a1 : 1 ≤ r.act
  a3 : r.act ≤ 3
  t : r.act = 1 → nameOk r.to = true
  tl : r.to.length ≤ 1000
  t0 : r.act ≠ 1 → r.to = []
structure oks (l : List Rl) : Prop where
  len : l.length ≤ 12
  all : ∀ r ∈ l, r.ok
  one : ∀ i, i < l.length → ((l.take i).any fun q => q.name == (l.getD i dfl).name) = false
abbrev nm6 : List (List UInt8) := [[100, 105, 118], [98], [101, 109], [112], [97], [117, 108]]
/-- rules of the first names -/
structure drawn (l : List Rl) : Prop where
  names : l.map (·.name) = nm6.take l.length
  all : ∀ r ∈ l, r.ok
/-- names that are kept -/
def kn (l : List Rl) : List (List UInt8) := (l.filter fun r => r.act == 1).map (·.to)
end Rl
end Go.Vl
end

section
set_option linter.unusedVariables false
set_option linter.unusedSimpArgs false
namespace Go.Vl
section s2b
variable {x : Cx} {g : Bool} {L : List (Tmp × Bool × AV)} {M : List ME} {ops : Array Oper} {Q : Exit → Act → World → Prop} {rest : List Oper} {ty : TypeId} {pos : String} {aft : Array Edge}
theorem bytesWorld_alloc (w : World) (e : TypeId) (s : ByteArray) : Lib.bytesWorld w e s = w.drew.alloc (.cells (Lib.bytesCells w e s) e ((Lib.bytesCells w e s).size, (Lib.bytesCells w e s).size + 1)) := by
  have hh : (Lib.bytesWorld w e s).heap = (w.drew.alloc (.cells (Lib.bytesCells w e s) e ((Lib.bytesCells w e s).size, (Lib.bytesCells w e s).size + 1))).heap := by
    refine Array.ext_getElem? fun j => ?_
    rcases Nat.lt_trichotomy j w.heap.size with h | h | h
    · rw [Lib.bytesWorld_at_old w e s j h]
      exact (alloc_old w.drew _ h).symm
    · subst h
      rw [Lib.bytesWorld_at_new w e s]
      exact (alloc_new w.drew _).symm
    · rw [Array.getElem?_eq_none (by rw [Lib.bytesWorld_size]; omega), Array.getElem?_eq_none (by rw [World.size_alloc]; show w.heap.size + 1 ≤ j; omega)]
  have h1 : Lib.bytesWorld w e s = { (w.drew.alloc (.cells (Lib.bytesCells w e s) e ((Lib.bytesCells w e s).size, (Lib.bytesCells w e s).size + 1))) with heap := (Lib.bytesWorld w e s).heap } := rfl
  rw [h1, hh]
theorem W.s2b {d : Tmp} {T T' E : TypeId} {o1 : Operand} {s : List UInt8} {u : TypeDesc} (h1 : Ov true L o1 (.str s)) (hT : x.P.underlying T = some u) (hT' : x.P.underlying T' = some (.slice E)) (hE : x.P.underlying E = some (.int .u8)) (hl : s.length ≤ 1099511627776) (hd : Nat.blt d x.n = true)
    (next : ∀ v', W x ((d, true, .lit v') :: L) (ME.arr v' E 1 (s.map AV.u8) :: M) (wpList x.P ops Q rest)) :
    W x L M (wpList x.P ops Q (⟨some d, .convert T T' o1, ty, pos, aft, none⟩ :: rest)) := by
  refine W.opv (ι := Value) (fun v' => ME.arr v' E 1 (s.map AV.u8) :: M) (fun v' => .lit v') hd ?_ next
  intro a w hs
  have e1 : a.eval o1 = .string ⟨s.toArray⟩ := h1.lit rfl hs
  have hsz : (ByteArray.mk s.toArray).size = s.length := by simp [ByteArray.size]
  have hrun := Lib.run_convert_string_bytes (P := x.P) w T T' E ⟨s.toArray⟩ hT hT' hE
  rw [hsz, bytesWorld_alloc] at hrun
  obtain ⟨hg1, hg2⟩ := cap_cut w s.length 0 E (by simp only [maxLen]; omega)
  refine ⟨.slice (some ⟨w.heap.size, 0, none⟩) s.length (grownCap w s.length 0 E), w.drew.alloc (.cells (Lib.bytesCells w E ⟨s.toArray⟩) E ((Lib.bytesCells w E ⟨s.toArray⟩).size, (Lib.bytesCells w E ⟨s.toArray⟩).size + 1)), .slice (some ⟨w.heap.size, 0, none⟩) s.length (grownCap w s.length 0 E), ?_, ?_, Rep.lit _⟩
  · simp only [execOp, e1, Sem.run_bind, hrun, Result.andThen_ok, Sem.run_pure]
  · have hd1 : St x L M a w.drew := hs.same rfl rfl rfl rfl
    refine hd1.alloc _ _ rfl ?_
    intro N hN
    have hcs : (Lib.bytesCells w E ⟨s.toArray⟩).size = grownCap w s.length 0 E := by
      simp only [Lib.bytesCells, Array.size_append, Array.size_map, Array.size_replicate, hsz]
      show s.toArray.size + _ = _
      simp only [List.size_toArray]; omega
    refine ⟨some ⟨w.heap.size, 0, none⟩, grownCap w s.length 0 E, by rw [List.length_map], by rw [List.length_map]; exact hg1, hg2, .inr ⟨w.heap.size, 0, Lib.bytesCells w E ⟨s.toArray⟩, (Lib.bytesCells w E ⟨s.toArray⟩).size, (Lib.bytesCells w E ⟨s.toArray⟩).size + 1, rfl, alloc_new w.drew _, by omega, .inr (by omega), ?_⟩⟩
    rw [List.drop_zero]
    have hl2 : (Lib.bytesCells w E ⟨s.toArray⟩).toList = (s.map fun b => Value.int .u8 (b.toNat : Int)) ++ List.replicate (grownCap w s.length 0 E - s.length) (.int .u8 0) := by
      simp [Lib.bytesCells, hsz]
    rw [hl2]
    exact RepE.congr (RepE.u8s s) (by rw [List.length_map, Nat.mul_one, List.take_append_of_le_length (by simp)])
theorem Ev.min {o1 o2 : Operand} {T T' : TypeId} {ki : IntKind} {p q : Int} (h1 : Ov g L o1 (.lit (.int ki p))) (h2 : Ov g L o2 (.lit (.int ki q))) : Ev x g L M (.call ⟨.builtin .min, #[o1, o2], #[T, T']⟩) ty (.lit (.int ki (if q < p then q else p))) := Ev.pure fun a w hs hg => by
  simp [execOp, resolve, invoke, builtin, h1.lit hg hs, h2.lit hg hs, Builtin.min_, Builtin.min2]
end s2b
end Go.Vl
end

section
set_option linter.unusedVariables false
set_option linter.unusedSimpArgs false
set_option linter.unusedSectionVars false
namespace Go.Vl
/-- the entries of such a map -/
def mEnts : Nat → List Value → List MapEntry
  | _, [] => []
  | i, k :: ks => ⟨k, .int .i64 (i : Int), i⟩ :: mEnts (i + 1) ks
/-- where a key stands among others -/
def place {α : Type} [DecidableEq α] (k : α) : List α → Option Nat
  | [] => none
  | q :: ks => if k = q then some 0 else (place k ks).map (· + 1)
/-- a kind of keys that the model finds at once -/
structure KeyKind (P : Program) (K : TypeId) {α : Type} [DecidableEq α] (f : α → Value) : Prop where
  check : ∀ (e : Bool) (k : α) (w : World), (Instr.checkKey e 10000 K (f k)).run P w = .ok () w
  find : ∀ (k : α) (ks : List α) (w : World), (Instr.findKey K (f k) (mEnts 0 (ks.map f))).run P w = .ok ((place k ks).map fun i => (i, .int .i64 (i : Int))) w
theorem findNow_place {α : Type} [DecidableEq α] {f : α → Value} {d : TypeDesc} (hs : ∀ a b : α, Instr.sameNow d (f a) (f b) = some (decide (a = b))) (k : α) :
    ∀ (ks : List α) (i : Nat), Instr.findNow d (f k) (mEnts i (ks.map f)) i = some ((place k ks).map fun j => (i + j, .int .i64 ((i + j : Nat) : Int)))
  | [], i => rfl
  | q :: ks, i => by
    rw [List.map_cons, mEnts, Instr.findNow, hs, place]
    by_cases h : k = q
    · rw [if_pos h, decide_eq_true h]; rfl
    · rw [if_neg h, decide_eq_false h]
      show Instr.findNow d (f k) (mEnts (i + 1) (ks.map f)) (i + 1) = _
      rw [findNow_place hs k ks (i + 1), Option.map_map]
      congr 2
      funext j
      show (i + 1 + j, Value.int .i64 ((i + 1 + j : Nat) : Int)) = (i + (j + 1), Value.int .i64 ((i + (j + 1) : Nat) : Int))
      rw [show i + 1 + j = i + (j + 1) from by omega]
theorem KeyKind.str {P : Program} {K : TypeId} (hK : P.underlying K = some .string) : KeyKind P K (fun s : List UInt8 => Value.string ⟨s.toArray⟩) := by
  refine ⟨fun e k w => ?_, fun k ks w => ?_⟩
  · exact Go.MapKept.run_checkKey hK (by trivial) e 9999
  · have h := findNow_place (d := .string) (f := fun s : List UInt8 => Value.string ⟨s.toArray⟩) (fun a b => by
      show some ((⟨a.toArray⟩ : ByteArray) == ⟨b.toArray⟩) = _
      congr 1
      show (a.toArray == b.toArray) = _
      by_cases h : a = b
      · subst h; simp
      · rw [decide_eq_false h]
        exact beq_eq_false_iff_ne.2 fun h' => h (by simpa using congrArg Array.toList h')) k ks 0
    simp only [Instr.findKey, Sem.run_bind, run_underlying hK, Result.andThen_ok, h, Sem.run_pure]
    simp
theorem KeyKind.int {P : Program} {K : TypeId} (hK : P.underlying K = some (.int .i64)) : KeyKind P K (fun n : Int => Value.int .i64 n) := by
  refine ⟨fun e k w => ?_, fun k ks w => ?_⟩
  · exact Go.MapKept.run_checkKey (k := .int .i64 k) hK rfl e 9999
  · have h := findNow_place (d := .int .i64) (f := fun n : Int => Value.int .i64 n) (fun a b => by
      by_cases h : a = b
      · subst h; simp [Instr.sameNow]
      · simp [Instr.sameNow, h]) k ks 0
    simp only [Instr.findKey, Sem.run_bind, run_underlying hK, Result.andThen_ok, h, Sem.run_pure]
    simp
/-- what a slot holds, said in another way -/
theorem W.conv {x : Cx} {L : List (Tmp × Bool × AV)} {M : List ME} {R : Act → World → Prop} {t : Tmp} {av av' : AV} (h : look L t = some (true, av)) (e : ∀ w N v, Rep w N av v → Rep w N av' v) (next : W x ((t, true, av') :: L) M R) : W x L M R := by
  intro a w hs
  refine next a w ⟨hs.defers, hs.size, ?_, hs.mem, hs.fr, hs.old⟩
  intro u g' av2 hl
  rw [look_cons] at hl
  by_cases e' : t = u
  · subst e'
    rw [if_pos rfl] at hl
    cases hl
    have := hs.slots t true av h
    exact ⟨fun hg => e _ _ _ (this.1 hg), fun hg => by cases hg⟩
  · rw [if_neg e'] at hl; exact hs.slots u g' av2 hl
/-- a struct of two numbers as_ a key -/
def pv (p : Int × Int) : Value := .agg #[.int .i64 p.1, .int .i64 p.2]
theorem Rep.pv {w : World} {N : List Nat} {a b : Int} {v : Value} (h : Rep w N (.agg [.int a, .int b]) v) : Rep w N (.lit (pv (a, b))) v := by
  obtain ⟨h1, h2⟩ := h
  cases v <;> simp [AV.sh, shV] at h1
  simp only [RepC, RepL] at h2
  rename_i cells
  obtain ⟨v1, vs1, e1, ⟨_, _, r1⟩, v2, vs2, e2, ⟨_, _, r2⟩, e3⟩ := h2
  subst e3
  subst e2
  obtain rfl := List.cons.inj r1 |>.1
  obtain rfl := List.cons.inj r2 |>.1
  have : Value.agg cells = Vl.pv (a, b) := by
    unfold Vl.pv
    congr 1
    exact Array.toList_inj.1 (by simpa [Value.cells] using e1)
  rw [this]
  exact Rep.lit _
section map
variable {x : Cx} {g : Bool} {L : List (Tmp × Bool × AV)} {M : List ME} {ops : Array Oper} {Q : Exit → Act → World → Prop} {rest : List Oper} {ty : TypeId} {pos : String} {aft : Array Edge}
end map
end Go.Vl
end

section
set_option linter.unusedVariables false
set_option linter.unusedSimpArgs false
set_option linter.unusedSectionVars false
namespace Go.Vl
section arrv
variable {x : Cx} {g : Bool} {L : List (Tmp × Bool × AV)} {M : List ME} {ty T : TypeId} {o1 o2 : Operand}
/-- the i-th cell of an array in a box -/
theorem Ev.boxat {E b bytes len : Nat} {z : Value} {i : Int} {ki : IntKind} (h1 : Ov g L o1 (.lit (.pointer (some ⟨b, 0, none⟩)))) (h2 : Ov g L o2 (.lit (.int ki i))) (hT : x.P.underlying T = some (.array len E)) (hE : Ty x.P E 1 bytes z)
    (hi : g = true → 0 ≤ i ∧ i < len) : Ev x g L M (.indexAddr T o1 o2) ty (.lit (.pointer (some ⟨b, i.toNat, none⟩))) := Ev.pure fun a w hs hg => by
  obtain ⟨hi0, hi1⟩ := hi hg
  simp [execOp, h1.lit hg hs, h2.lit hg hs, Instr.indexAt, Instr.sureAddr, asIntOf, run_underlying hT, hi0, hi1, hE.size, Addr.add_lit]
end arrv
end Go.Vl
end

section
set_option linter.unusedVariables false
set_option linter.unusedSimpArgs false
set_option linter.unusedSectionVars false
namespace Go.Vl
open Go Go.Sem
section view
variable {x : Cx} {L : List (Tmp × Bool × AV)} {M : List ME} {ops : Array Oper} {Q : Exit → Act → World → Prop} {rest : List Oper} {ty : TypeId} {pos : String} {aft : Array Edge}
/-- a source of sn elements, of which the first are xs -/
def SrcN (P : Program) (w : World) (N : List Nat) (k : Nat) (v : Value) (sn : Nat) (xs : List AV) : Prop :=
  (Builtin.lenOf v).run P w = .ok sn w ∧ xs.length ≤ sn ∧ ∃ news : Array Value, news.size = xs.length * k ∧ RepE w N k xs news.toList ∧ (∀ u ∈ news.toList, shV u = 0) ∧
    ∀ w' : World, w'.heap = w.heap → (Builtin.firstCells k xs.length v).run P w' = .ok news w'
theorem Src.toN {P : Program} {w : World} {N : List Nat} {k sn cap cap' : Nat} {ad : Option Addr} {xs : List AV} (h : Src P w N k (.slice ad xs.length cap) xs) (hs : xs.length ≤ sn) : SrcN P w N k (.slice ad sn cap') sn xs := by
  obtain ⟨_, news, h2, h3, h4, h5⟩ := h
  refine ⟨by simp [Builtin.lenOf], hs, news, h2, h3, h4, fun w' hw => ?_⟩
  have := h5 w' hw
  cases ad <;> simpa only [Builtin.firstCells] using this
theorem SrcN.to {P : Program} {w : World} {N : List Nat} {k : Nat} {v : Value} {xs : List AV} (h : SrcN P w N k v xs.length xs) : Src P w N k v xs := ⟨h.1, h.2.2⟩
/-- an operand that copy may take its elements from -/
def VwOv (x : Cx) (L : List (Tmp × Bool × AV)) (M : List ME) (o : Operand) (k sn : Nat) (xs : List AV) : Prop := ∀ a w, St x L M a w → SrcN x.P w (bl M ++ x.F) k (a.eval o) sn xs
/-- elements of an own row -/
theorem VwOv.own (i : Nat) {o : Operand} {g off n cap p sn c U k : Nat} {ad : Option Addr} {es xs : List AV} (h : Ov true L o (.lit (.slice ad sn c))) (ha : xs = [] ∨ ad = some ⟨g, off + p * k, none⟩) (hM : M[i]? = some (ME.arr (.slice (some ⟨g, off, none⟩) n cap) U k es)) (hx : xs = (es.drop p).take xs.length) (hp : p ≤ es.length) (hq : xs.length ≤ sn) (ho : ∀ e ∈ xs, e.okc = true) : VwOv x L M o k sn xs := by
  intro a w hs
  rw [h.lit rfl hs]
  refine Src.toN (cap := c) ?_ hq
  refine src_cells rfl ho ?_
  obtain ⟨ad, cp, e, h1, h2, h3⟩ := hs.mem.holds _ (List.mem_of_getElem? hM)
  cases e
  rcases h3 with ⟨h3, _⟩ | ⟨g', off', cur, lo, hi, h4, h5, _, _, h6⟩
  · cases h3
  · cases h4
    rcases ha with ha | ha
    · exact .inl ha
    refine .inr ⟨g, _, cur, U, (lo, hi), ha, h5, ?_⟩
    rw [hx, ← List.drop_drop]
    exact (h6.drop p hp).take _
/-- the elements of a box, seen as_ a row of one -/
theorem VwOv.box (i : Nat) {o : Operand} {b c U k : Nat} {cs : List AV} {e : AV} (h : Ov true L o (.lit (.slice (some ⟨b, 0, none⟩) 1 c))) (hM : M[i]? = some (ME.box b U cs)) (hk : cs.length = k) (he : e.cells = cs) (ho : e.okc = true) : VwOv x L M o k 1 [e] := by
  intro a w hs
  rw [h.lit rfl hs]
  refine Src.toN (cap := c) ?_ (by simp)
  refine src_cells rfl (by simpa using ho) (.inr ?_)
  obtain ⟨cur, h1, h2⟩ := hs.mem.holds _ (List.mem_of_getElem? hM)
  refine ⟨b, 0, cur, U, _, rfl, h1, ?_⟩
  have hl := h2.length
  rw [List.drop_zero]
  refine ⟨by omega, RepC.ofL ho ?_, trivial⟩
  rw [List.take_of_length_le (by omega), he]
  exact h2
theorem VwOv.src {o : Operand} {k : Nat} {xs : List AV} (h : SrcOv x L M o k xs) : VwOv x L M o k xs.length xs := fun a w hs => by
  have h1 := h.src hs
  exact ⟨h1.1, Nat.le_refl _, h1.2⟩

theorem run_copy {P : Program} {w : World} {T T' E k bytes : Nat} {z : Value} {g p dn dc lo hi sn : Nat} {cur : Array Value} {U : TypeId} {xv : Value} {N : List Nat} {xs : List AV} (hT : P.underlying T = some (.slice E)) (hE : Ty P E k bytes z)
    (hc : w.heap[g]? = some (.cells cur U (lo, hi))) (hsz : p + xs.length * k ≤ cur.size) (hfr : hi ≤ lo ∨ p + xs.length * k ≤ lo) (hx : SrcN P w N k xv sn xs) (hq : xs.length = Nat.min sn dn) :
    ∃ news : Array Value, news.size = xs.length * k ∧ RepE w N k xs news.toList ∧ (Builtin.copy_ #[T, T'] ty #[.slice (some ⟨g, p, none⟩) dn dc, xv]).run P w =
      .ok (.int .i64 (xs.length : Int)) { w with heap := w.heap.setIfInBounds g (.cells (wr cur p news.toList) U (lo, hi)) } := by
  obtain ⟨hlen, _, news, hn1, hn2, hn3, hn4⟩ := hx
  have hf := hn4 w rfl
  have hst := run_storeCells (P := P) (g := g) (off := p) (T := U) (lo := lo) (hi := hi) news.toList 0 cur w hc (by simp; omega) (by simp; omega) hn3
  refine ⟨news, hn1, hn2, ?_⟩
  rw [Nat.add_zero] at hst
  rw [hq] at hf
  simp only [Builtin.copy_, List.getElem?_toArray, List.getElem?_cons_zero, List.getElem?_cons_succ, Sem.run_bind, run_underlying hT, Result.andThen_ok, hE.size, hlen, hf, hst, Sem.run_pure, goInt, hq]

/-- what a row holds after a write of elements -/
theorem RepE.over {w : World} {N : List Nat} {k j off : Nat} {es xs : List AV} {cur nl : List Value} (h : RepE w N k es (cur.drop off)) (hx : RepE w N k xs nl) (hn : nl.length = xs.length * k) (hj : j ≤ es.length) (hoff : off ≤ cur.length) :
    RepE w N k (es.take j ++ xs ++ es.drop (j + xs.length)) ((cur.take (off + j * k) ++ nl ++ cur.drop (off + j * k + nl.length)).drop off) := by
  have hlen := h.len
  have hjk : j * k ≤ es.length * k := Nat.mul_le_mul_right _ hj
  rw [List.length_drop] at hlen
  have e1 : (cur.take (off + j * k) ++ nl ++ cur.drop (off + j * k + nl.length)).drop off = (cur.drop off).take (j * k) ++ (nl ++ (cur.drop off).drop (j * k + nl.length)) := by
    rw [List.append_assoc, List.drop_append_of_le_length (by rw [List.length_take]; omega), List.drop_take, Nat.add_sub_cancel_left, List.drop_drop, Nat.add_assoc]
  rw [e1]
  have hS : (cur.drop off).length = cur.length - off := List.length_drop ..
  generalize cur.drop off = S at h hS
  have htl : (S.take (j * k)).length = j * k := by rw [List.length_take]; omega
  have hjl : (es.take j).length = j := by rw [List.length_take]; omega
  rw [List.append_assoc]
  refine RepE.append (RepE.congr (h.take j) ?_) ?_
  · rw [hjl, List.take_append_of_le_length (by omega), List.take_take, Nat.min_self]
  · rw [hjl, List.drop_append_of_le_length (by omega), List.drop_of_length_le (l := S.take (j * k)) (by omega), List.nil_append]
    refine RepE.append (RepE.congr hx (by rw [List.take_append_of_le_length (by omega)])) ?_
    rw [List.drop_append_of_le_length (by omega), List.drop_of_length_le (l := nl) (by omega), List.nil_append, hn, ← Nat.add_mul]
    by_cases hle : j + xs.length ≤ es.length
    · exact h.drop _ hle
    · rw [List.drop_of_length_le (by omega)]; simp [RepE]

theorem W.copy (i : Nat) {d : Tmp} {T T' E k bytes : Nat} {z : Value} {o1 o2 : Operand} {g off n cap j dn dc sn U : Nat} {es xs : List AV} (h1 : Ov true L o1 (.lit (.slice (some ⟨g, off + j * k, none⟩) dn dc))) (hM : M[i]? = some (ME.arr (.slice (some ⟨g, off, none⟩) n cap) U k es)) (h2 : VwOv x L M o2 k sn xs)
    (hT : x.P.underlying T = some (.slice E)) (hE : Ty x.P E k bytes z) (hq : xs.length = Nat.min sn dn) (hj : j ≤ es.length) (hc : j + xs.length ≤ cap) {n' : Nat} {es' : List AV} (he' : es' = es.take j ++ xs ++ es.drop (j + xs.length)) (hn' : n' = es'.length) (hd : Nat.blt d x.n = true)
    (next : W x ((d, true, .lit (.int .i64 (xs.length : Int))) :: L) (M.set i (ME.arr (.slice (some ⟨g, off, none⟩) n' cap) U k es')) (wpList x.P ops Q rest)) :
    W x L M (wpList x.P ops Q (⟨some d, .call ⟨.builtin .copy, #[o1, o2], #[T, T']⟩, ty, pos, aft, none⟩ :: rest)) := by
  subst he'
  refine W.opv (ι := Unit) (fun _ => M.set i (ME.arr (.slice (some ⟨g, off, none⟩) n' cap) U k (es.take j ++ xs ++ es.drop (j + xs.length)))) (fun _ => .lit (.int .i64 (xs.length : Int))) hd ?_ (fun _ => next)
  intro a w hs
  have hsrc := h2 a w hs
  have e1 := h1.lit rfl hs
  obtain ⟨ad, cp, e, hlc, hcm, hcase⟩ := hs.mem.holds _ (List.mem_of_getElem? hM)
  cases e
  rcases hcase with ⟨h3, _⟩ | ⟨g', off', cur, lo, hi, h4, hcur, hsz, hfr, hrE⟩
  · cases h3
  cases h4
  have hmul : (j + xs.length) * k ≤ cap * k := Nat.mul_le_mul_right _ hc
  rw [Nat.add_mul] at hmul
  obtain ⟨news, hn1, hn2, hrun⟩ := run_copy (ty := ty) (T' := T') (dc := dc) hT hE hcur (p := off + j * k) (by omega) (by omega) hsrc hq
  have hlt : (es.take j ++ xs ++ es.drop (j + xs.length)).length ≤ cap := by simp only [List.length_append, List.length_take, List.length_drop]; omega
  refine ⟨.int .i64 (xs.length : Int), { w with heap := w.heap.setIfInBounds g (.cells (wr cur (off + j * k) news.toList) U (lo, hi)) }, (), ?_, ?_, Rep.lit _⟩
  · simp only [execOp, resolve, invoke, builtin, Sem.run_bind, Sem.run_pure, Result.andThen_ok, List.map_toArray, List.map_cons, List.map_nil, e1, hrun]
  · refine hs.write hM rfl rfl ?_
    intro w' hother hnew hk'
    have hnl : news.toList.length = xs.length * k := by simpa using hn1
    refine ⟨some ⟨g, off, none⟩, cap, by rw [hn'], hlt, hcm, .inr ⟨g, off, _, lo, hi, rfl, hnew, ?_, hfr, ?_⟩⟩
    · rw [wr_size _ _ _ (by omega)]; exact hsz
    · simp only [wr, List.toList_toArray]
      exact RepE.over (RepE.keep hk' _ _ _ hrE) (RepE.keep hk' _ _ _ hn2) hnl hj (by simp; omega)

/-- a part of an own row: the bounds may reach up to the capacity -/
theorem run_boundsC {g : Bool} {len cap : Nat} {lo hi : Option Operand} {l h : Int} {a : Act} {w : World} (hst : St x L M a w) (hg : g = true) (hlo : BndOv g L 0 lo l) (hhi : BndOv g L len hi h) (h0 : 0 ≤ l) (h1 : l ≤ h) (h2 : h ≤ cap) :
    (Instr.sliceBounds true len cap (lo.map a.eval) (hi.map a.eval) none).run x.P w = .ok (l.toNat, h.toNat, cap) w := by
  have hb : ∀ (n : Int) (y : Nat) c, 0 ≤ n → n ≤ y → (Instr.sliceBound (.int .i64 n) y c).run x.P w = .ok n.toNat w := fun n y c hn hy => by
    simp [Instr.sliceBound, asIntOf, hn, hy]
  unfold Instr.sliceBounds
  cases lo with
  | none =>
    simp only [BndOv] at hlo
    subst hlo
    cases hi with
    | none =>
      simp only [BndOv] at hhi
      subst hhi
      simp
    | some o =>
      have e := hhi.lit hg hst
      simp only [Option.map_none, Option.map_some, e, Sem.run_bind, Sem.run_pure, Result.andThen_ok]
      rw [hb _ _ _ (by omega) (by omega)]
      simp
  | some o' =>
    have e' := hlo.lit hg hst
    cases hi with
    | none =>
      simp only [BndOv] at hhi
      subst hhi
      simp only [Option.map_none, Option.map_some, e', Sem.run_bind, Sem.run_pure, Result.andThen_ok]
      rw [hb _ _ _ (by omega) (by omega)]
      simp
    | some o =>
      have e := hhi.lit hg hst
      simp only [Option.map_some, e, e', Sem.run_bind, Sem.run_pure, Result.andThen_ok]
      rw [hb _ _ _ (by omega) (by omega)]
      simp only [Result.andThen_ok]
      rw [hb _ _ _ (by omega) (by omega)]
      simp
/-- a slice expression at a slice that is known -/
theorem Ev.slit {g : Bool} {T E k bytes : Nat} {z : Value} {o1 : Operand} {lo hi : Option Operand} {i j : Int} {ad : Option Addr} {n cap : Nat} {v : Value} (h1 : Ov g L o1 (.lit (.slice ad n cap))) (hT : x.P.underlying T = some (.slice E)) (hE : Ty x.P E k bytes z) (hlo : BndOv g L 0 lo i) (hhi : BndOv g L (n : Int) hi j)
    (hb : g = true → 0 ≤ i ∧ i ≤ j ∧ j ≤ cap) (hv : v = .slice (if cap = i.toNat then ad else ad.map (·.add (i.toNat * k))) (j.toNat - i.toNat) (cap - i.toNat)) : Ev x g L M (.slice T o1 lo hi none) ty (.lit v) := Ev.pure fun a w hs hg => by
  obtain ⟨b1, b2, b3⟩ := hb hg
  have hr := run_boundsC (len := n) (cap := cap) hs hg hlo hhi b1 b2 b3
  subst hv
  simp only [execOp, h1.lit hg hs, Option.map_none, Instr.sliceAt, Instr.slice, Sem.run_bind, run_underlying hT, Result.andThen_ok, hr, hE.size, Sem.run_pure]
/-- s[p:j] -/
theorem Ev.slitp {g : Bool} {T E k bytes : Nat} {z : Value} {o1 : Operand} {lo hi : Option Operand} {i j : Int} {b off n cap p q : Nat} (h1 : Ov g L o1 (.lit (.slice (some ⟨b, off, none⟩) n cap))) (hT : x.P.underlying T = some (.slice E)) (hE : Ty x.P E k bytes z) (hlo : BndOv g L 0 lo i) (hhi : BndOv g L (n : Int) hi j)
    (hi' : i = (p : Int)) (hj : j = (q : Int)) (hb : p < cap ∧ p ≤ q ∧ q ≤ cap) : Ev x g L M (.slice T o1 lo hi none) ty (.lit (.slice (some ⟨b, off + p * k, none⟩) (q - p) (cap - p))) := by
  subst hi'; subst hj
  refine Ev.slit h1 hT hE hlo hhi (fun _ => by omega) ?_
  rw [if_neg (by simp; omega)]
  simp [Addr.add_lit]
/-- s[:q] -/
theorem Ev.slit0 {g : Bool} {T E k bytes : Nat} {z : Value} {o1 : Operand} {hi : Option Operand} {j : Int} {b off n cap q : Nat} (h1 : Ov g L o1 (.lit (.slice (some ⟨b, off, none⟩) n cap))) (hT : x.P.underlying T = some (.slice E)) (hE : Ty x.P E k bytes z) (hhi : BndOv g L (n : Int) hi j)
    (hj : j = (q : Int)) (hb : q ≤ cap) : Ev x g L M (.slice T o1 none hi none) ty (.lit (.slice (some ⟨b, off, none⟩) q cap)) := by
  subst hj
  refine Ev.slit (i := 0) h1 hT hE rfl hhi (fun _ => by omega) ?_
  simp [Addr.add_lit]
theorem Ev.lenl {g : Bool} {T E : Nat} {o1 : Operand} {ad : Option Addr} {n cap : Nat} (h1 : Ov g L o1 (.lit (.slice ad n cap))) (hT : x.P.underlying T = some (.slice E)) : Ev x g L M (.call ⟨.builtin .len, #[o1], #[T]⟩) ty (.lit (.int .i64 (n : Int))) := Ev.pure fun a w hs hg => by
  simp [execOp, resolve, invoke, builtin, h1.lit hg hs, Builtin.len_, Builtin.lenOf, run_underlying hT, goInt]
/-- where an own row lies, if it has elements -/
theorem W.arr_lit {R : Act → World → Prop} (i : Nat) {v : Value} {U k : Nat} {es : List AV} (hM : M[i]? = some (.arr v U k es)) (hes : 0 < es.length) (h : ∀ g off c, v = .slice (some ⟨g, off, none⟩) es.length c → es.length ≤ c → c ≤ maxLen → W x L M R) : W x L M R := fun a w hs => by
  obtain ⟨ad, cap, e, h1, h2, h3⟩ := hs.mem.holds _ (List.mem_of_getElem? hM)
  rcases h3 with ⟨_, h3⟩ | ⟨g, off, cur, lo, hi, rfl, _⟩
  · omega
  · exact h _ _ _ e h1 h2 a w hs
/-- an operation whose value nobody keeps -/
theorem W.opn {ι : Type} {op : Op} (Mf : ι → List ME)
    (step : ∀ a w, St x L M a w → ∃ w' v z, (execOp a.eval ⟨none, op, ty, "", #[], none⟩).run x.P w = .ok (.value v) w' ∧ St x L (Mf z) a w')
    (next : ∀ z, W x L (Mf z) (wpList x.P ops Q rest)) : W x L M (wpList x.P ops Q (⟨none, op, ty, pos, aft, none⟩ :: rest)) := by
  intro a w hs
  obtain ⟨w', v, z, hr, hs'⟩ := step a w hs
  refine wpList_cons_want (by simp [Region.wanted]) ?_
  unfold Oper.wp
  rw [execOp_bare, hr]
  exact next z _ _ hs'
/-- what lies behind the elements is cleared -/
theorem W.clear (i : Nat) {T E k bytes : Nat} {z : Value} {o1 : Operand} {g off n cap j m c U : Nat} {es : List AV} (h1 : Ov true L o1 (.lit (.slice (some ⟨g, off + j * k, none⟩) m c))) (hM : M[i]? = some (ME.arr (.slice (some ⟨g, off, none⟩) n cap) U k es))
    (hT : x.P.underlying T = some (.slice E)) (hE : Ty x.P E k bytes z) (hzk : z.cells.size = k) (hz : z.cells.toList.all (fun v => shV v == 0) = true) (hj : es.length ≤ j) (hc : j + m ≤ cap)
    (next : W x L M (wpList x.P ops Q rest)) :
    W x L M (wpList x.P ops Q (⟨none, .call ⟨.builtin .clear, #[o1], #[T]⟩, ty, pos, aft, none⟩ :: rest)) := by
  have hset := set_self hM
  rw [← hset] at next
  refine W.opn (ι := Unit) (fun _ => M.set i (ME.arr (.slice (some ⟨g, off, none⟩) n cap) U k es)) ?_ (fun _ => next)
  intro a w hs
  have e1 := h1.lit rfl hs
  obtain ⟨ad, cp, e, hlc, hcm, hcase⟩ := hs.mem.holds _ (List.mem_of_getElem? hM)
  cases e
  rcases hcase with ⟨h3, _⟩ | ⟨g', off', cur, lo, hi, h4, hcur, hsz, hfr, hrE⟩
  · cases h3
  cases h4
  by_cases hm : m = 0
  · subst hm
    refine ⟨w, .tuple #[], (), ?_, by rw [hset]; exact hs⟩
    simp [execOp, resolve, invoke, builtin, e1, Builtin.clear_, run_underlying hT]
  · have hzs : (Builtin.zeroCells z.cells m).size = m * k := by simp [Builtin.zeroCells, hzk]
    have hmul : (j + m) * k ≤ cap * k := Nat.mul_le_mul_right _ hc
    rw [Nat.add_mul] at hmul
    have hzl : (Builtin.zeroCells z.cells m).toList.length = m * k := by rw [Array.length_toList]; exact hzs
    have hz0 : ∀ u ∈ (Builtin.zeroCells z.cells m).toList, shV u = 0 := by
      intro u hu
      simp only [Builtin.zeroCells, Array.toList_map, List.mem_map] at hu
      obtain ⟨q, hq, rfl⟩ := hu
      have hq' : q < m * z.cells.size := by simpa using hq
      have hpos : 0 < z.cells.size := by rcases Nat.eq_zero_or_pos z.cells.size with h | h; rw [h] at hq'; omega; exact h
      have hlt : q % z.cells.size < z.cells.size := Nat.mod_lt _ hpos
      rw [List.all_eq_true] at hz
      have := hz (z.cells[q % z.cells.size]!) (by rw [Array.mem_toList_iff, getElem!_pos z.cells _ hlt]; exact Array.getElem_mem hlt)
      simpa using this
    have hst := run_storeCells (P := x.P) (g := g) (off := off + j * k) (T := U) (lo := lo) (hi := hi) (Builtin.zeroCells z.cells m).toList 0 cur w hcur (by omega) (by omega) hz0
    rw [Nat.add_zero] at hst
    refine ⟨{ w with heap := w.heap.setIfInBounds g (.cells (wr cur (off + j * k) (Builtin.zeroCells z.cells m).toList) U (lo, hi)) }, .tuple #[], (), ?_, ?_⟩
    · simp only [execOp, resolve, invoke, builtin, Sem.run_bind, Sem.run_pure, Result.andThen_ok, List.map_toArray, List.map_cons, List.map_nil, e1, Builtin.clear_, List.getElem?_toArray, List.getElem?_cons_zero, run_underlying hT]
      cases m with
      | zero => exact absurd rfl hm
      | succ m => simp only [Sem.run_bind, hE.zero, Result.andThen_ok, hst, Sem.run_pure]
    · refine hs.write hM rfl rfl ?_
      intro w' hother hnew hk'
      have hlen := hrE.len
      have hjm : es.length * k ≤ j * k := Nat.mul_le_mul_right _ hj
      refine ⟨some ⟨g, off, none⟩, cap, rfl, hlc, hcm, .inr ⟨g, off, _, lo, hi, rfl, hnew, ?_, hfr, ?_⟩⟩
      · rw [wr_size _ _ _ (by omega)]; exact hsz
      · refine RepE.congr (RepE.keep hk' _ _ _ hrE) ?_
        have hcl : cur.toList.length = cur.size := Array.length_toList
        simp only [wr, List.toList_toArray]
        rw [List.append_assoc, List.drop_append_of_le_length (by simp; omega), List.drop_take, Nat.add_sub_cancel_left, List.take_append_of_le_length (by simp; omega), List.take_take, Nat.min_eq_left hjm]
/-- a zero value as_ an element -/
theorem RepC.zero {w : World} {N : List Nat} {z : Value} {e : AV} (hz : z.cells.toList.all (fun v => shV v == 0) = true) (he : e = match z.cells.toList with | [v] => if shV z == 1 then .agg [.lit v] else .lit v | l => .agg (l.map .lit)) : RepC w N e z.cells.toList := by
  have hL : ∀ l : List Value, l.all (fun v => shV v == 0) = true → RepL w N (l.map .lit) l := by
    intro l
    induction l with
    | nil => intro _; simp [RepL]
    | cons v l ih =>
      intro hz
      simp only [List.all_cons, Bool.and_eq_true, beq_iff_eq] at hz
      simp only [List.map_cons, RepL]
      exact ⟨v, l, rfl, ⟨hz.1, hz.1, by simp only [RepC, cells_of_sh hz.1]⟩, ih hz.2⟩
  subst he
  have := hL _ hz
  revert this hz
  generalize z.cells.toList = l
  intro hz this
  match l with
  | [] => simpa [RepC] using this
  | [v] =>
    simp only [List.all_cons, List.all_nil, Bool.and_true, beq_iff_eq] at hz
    dsimp only
    split
    · simpa only [RepC, List.map_cons, List.map_nil] using this
    · simp only [RepC, cells_of_sh hz]
  | u :: v :: l => simpa only [RepC] using this
end view
end Go.Vl
end

section
set_option linter.unusedVariables false
set_option linter.unusedSimpArgs false
namespace Go.Vl
/-- a byte, escaped -/
def esc1 (q : Bool) (c : UInt8) : List UInt8 := if c = 38 then [38, 97, 109, 112, 59] else if c = 60 then [38, 108, 116, 59] else if c = 62 then [38, 103, 116, 59] else if c = 34 ∧ q = true then [38, 113, 117, 111, 116, 59] else [c]
def esc (q : Bool) (s : List UInt8) : List UInt8 := s.flatMap (esc1 q)
/-- a token -/
structure Tk where
  kind : Int
  name : List UInt8
  attrs : List Dc
  self : Bool
  text : List UInt8
def attrS (a : Dc) : List UInt8 := (([32] ++ a.1) ++ [61, 34] ++ esc true a.2) ++ [34]
def tagS (name : List UInt8) (attrs : List Dc) (self : Bool) : List UInt8 := (([60] ++ name) ++ attrs.flatMap attrS ++ (if self then [47] else [])) ++ [62]
/-- attributes that may be -/
structure okAt (l : List Dc) : Prop where
  len : l.length ≤ 4
  all : ∀ a ∈ l, nameOk a.1 = true ∧ a.1.length ≤ 1000
  one : ∀ i, i < l.length → ((l.take i).any fun b => (l.getD i ([], [])).1 == b.1) = false
namespace Tk
abbrev dfl : Tk := ⟨0, [], [], false, []⟩
def txt (t : Tk) : List UInt8 := if t.kind = 1 then tagS t.name t.attrs t.self else if t.kind = 2 then ([60, 47] ++ t.name) ++ [62] else esc false t.text
abbrev nm5 : List (List UInt8) := [[112], [98], [105], [108, 105], [104, 45, 49]]
abbrev tx7 : List (List UInt8) := [[120], [97, 60, 98], [38, 97, 109, 112, 59], [34, 113, 34], [60, 112, 62], [32, 62, 32], [38, 35, 54, 48, 59]]
abbrev vl6 : List (List UInt8) := [[], [120], [97, 34, 98], [60, 38, 62], [97, 32, 98], [38, 108, 116, 59]]
abbrev at2 : List (List UInt8) := [[99, 108, 97, 115, 115], [104, 114, 101, 102]]
/-- a token that is drawn -/
def drawn (t : Tk) : Prop := (t.kind = 1 ∧ t.name ∈ nm5 ∧ (t.attrs.map (·.1) = at2.take t.attrs.length ∧ ∀ a ∈ t.attrs, a.2 ∈ vl6) ∧ t.text = []) ∨ (t.kind = 2 ∧ t.name ∈ nm5 ∧ t.attrs = [] ∧ t.self = false ∧ t.text = []) ∨ (t.kind = 3 ∧ t.name = [] ∧ t.attrs = [] ∧ t.self = false ∧ t.text ∈ tx7)
end Tk
end Go.Vl
end

section
set_option linter.unusedVariables false
set_option linter.unusedSimpArgs false
namespace Go.Vl
/-- a letter of an escaped text: as_ it is, or by its name -/
abbrev Pc := UInt8 × Bool
namespace Pc
def nm (c : UInt8) : List UInt8 := if c = 38 then [97, 109, 112] else if c = 60 then [108, 116] else if c = 62 then [103, 116] else [113, 117, 111, 116]
def txt (p : Pc) : List UInt8 := if p.2 = true then 38 :: (nm p.1 ++ [59]) else [p.1]
def ok (p : Pc) : Prop := if p.2 = true then (p.1 = 38 ∨ p.1 = 60 ∨ p.1 = 62 ∨ p.1 = 34) else p.1 ≠ 38
def flat (e : List Pc) : List UInt8 := e.flatMap txt
def of (q : Bool) (c : UInt8) : Pc := (c, decide (c = 38 ∨ c = 60 ∨ c = 62 ∨ (c = 34 ∧ q = true)))
abbrev dfl : Pc := (0, false)
end Pc
open Go Go.Sem
end Go.Vl
end

section
set_option linter.unusedVariables false
set_option linter.unusedSimpArgs false
namespace Go.Vl
section rep
variable {x : Cx} {g : Bool} {L : List (Tmp × Bool × AV)} {M : List ME} {ops : Array Oper} {Q : Exit → Act → World → Prop} {rest : List Oper} {ty : TypeId} {pos : String} {aft : Array Edge}
theorem Ev.mkif {T : TypeId} {o1 : Operand} {v : Value} {td : TypeDesc} (h1 : Ov g L o1 (.lit v)) (hT : x.P.underlying T = some td) (hi : ∀ ms, td ≠ .interface ms) : Ev x g L M (.makeInterface T o1) ty (.lit (.iface T v)) := Ev.pure fun a w hs hg => by
  simp only [execOp, h1.lit hg hs, Instr.makeInterface, Sem.run_bind, run_underlying hT, Result.andThen_ok]
  cases td <;> first | exact absurd rfl (hi _) | simp
/-- a slice that is known held against nil -/
theorem Ev.eqnl {T T' E : TypeId} {o1 : Operand} {ad : Option Addr} {n c : Nat} (h1 : Ov g L o1 (.lit (.slice ad n c))) (hT : x.P.underlying T = some (.slice E)) : Ev x g L M (.binOp .eql T o1 (.const (.slice none 0 0)) T') ty (.lit (.bool ad.isNone)) := Ev.pure fun a w hs hg => by
  have h := h1.lit hg hs
  have hv : a.eval (.const (.slice none 0 0)) = .slice none 0 0 := rfl
  simp only [execOp, h, hv, eqGuard_at_slice, Sem.run_bind, Sem.run_pure, Result.andThen_ok]
  simp [binOp, Op.equal, Op.maxDepth, run_equalIn_slice_nil w 9999 T E ad n c hT]
theorem Ev.nenl {T T' E : TypeId} {o1 : Operand} {ad : Option Addr} {n c : Nat} (h1 : Ov g L o1 (.lit (.slice ad n c))) (hT : x.P.underlying T = some (.slice E)) : Ev x g L M (.binOp .neq T o1 (.const (.slice none 0 0)) T') ty (.lit (.bool (!ad.isNone))) := Ev.pure fun a w hs hg => by
  have h := h1.lit hg hs
  have hv : a.eval (.const (.slice none 0 0)) = .slice none 0 0 := rfl
  simp only [execOp, h, hv, eqGuard_at_slice, Sem.run_bind, Sem.run_pure, Result.andThen_ok]
  simp [binOp, Op.equal, Op.maxDepth, run_equalIn_slice_nil w 9999 T E ad n c hT]
/-- a row with room alone -/
theorem W.mk0 {d : Tmp} {T E k bytes : Nat} {z : Value} {o1 o2 : Operand} {n : Nat} (h1 : Ov true L o1 (.lit (.int .i64 0))) (h2 : Ov true L o2 (.lit (.int .i64 (n : Int)))) (hT : x.P.underlying T = some (.slice E)) (hE : Ty x.P E k bytes z) (hzk : z.cells.size = k) (hb1 : Nat.ble 1 bytes = true) (hb : n * bytes ≤ 140737488355328) (hd : Nat.blt d x.n = true)
    (next : ∀ v', W x ((d, true, .lit v') :: L) (ME.arr v' E k [] :: M) (wpList x.P ops Q rest)) :
    W x L M (wpList x.P ops Q (⟨some d, .makeSlice T o1 o2, ty, pos, aft, none⟩ :: rest)) := by
  refine W.opv (ι := Value) (fun v' => ME.arr v' E k [] :: M) (fun v' => .lit v') hd ?_ next
  intro a w hs
  have hb1' := Nat.le_of_ble_eq_true hb1
  have hn : n ≤ n * bytes := Nat.le_mul_of_pos_right _ hb1'
  have hr : ∃ cells : Array Value, (Instr.makeSlice T (.int .i64 0) (.int .i64 n)).run x.P w = .ok (.slice (some ⟨w.heap.size, 0, none⟩) 0 n) (w.alloc (.cells cells E)) ∧ cells.size = n * k := by
    have hw : IntKind.i64.wrap (n : Int) = n := IntWalk.i64_in _ (by omega)
    have hw0 : IntKind.i64.wrap 0 = 0 := by decide
    obtain ⟨i, hi1, hi2, hi3, hi4⟩ := hE
    have ht : ¬ ((n : Int) < 0) := by omega
    have hmul : ((bytes : Int) * n) = ((n * bytes : Nat) : Int) := by rw [Int.mul_comm]; simp
    have ht2 : ¬ (281474976710656 < (bytes : Int) * n) := by rw [hmul]; omega
    have hsz : (zeroValue E).run x.P w = .ok z w := by simp [zeroValue, typeInfo, hi1, hi4]
    by_cases h0 : n * k = 0
    · exact ⟨#[], by simp [Array.range_zero', Instr.makeSlice, run_underlying hT, asInt, asIntOf, typeInfo, hi1, hi3, hw, hw0, ht, ht2, sizeOf, hi2, h0, newRow], by simp [h0]⟩
    · exact ⟨(Array.range (n * k)).map (z.cells[· % z.cells.size]!), by simp [Instr.makeSlice, run_underlying hT, asInt, asIntOf, typeInfo, hi1, hi3, hw, hw0, ht, ht2, sizeOf, hi2, h0, newRow, hsz], by simp⟩
  obtain ⟨cells, hr, hsz⟩ := hr
  refine ⟨.slice (some ⟨w.heap.size, 0, none⟩) 0 n, w.alloc (.cells cells E), .slice (some ⟨w.heap.size, 0, none⟩) 0 n, by simp only [execOp, h1.lit rfl hs, h2.lit rfl hs, Sem.run_bind, hr, Result.andThen_ok, Sem.run_pure], ?_, Rep.lit _⟩
  refine hs.alloc _ _ rfl ?_
  intro N hN
  exact ⟨some ⟨w.heap.size, 0, none⟩, n, rfl, Nat.zero_le _, by simp only [maxLen]; omega, .inr ⟨w.heap.size, 0, cells, 0, 0, rfl, alloc_new _ _, by omega, .inl (Nat.le_refl _), by simp only [RepE]⟩⟩
/-- the bytes of the empty text: not nil -/
theorem W.s2b0 {d : Tmp} {T T' E : TypeId} {o1 : Operand} {u : TypeDesc} (h1 : Ov true L o1 (.str [])) (hT : x.P.underlying T = some u) (hT' : x.P.underlying T' = some (.slice E)) (hE : x.P.underlying E = some (.int .u8)) (hd : Nat.blt d x.n = true)
    (next : ∀ b c, c ≤ maxLen → W x ((d, true, .lit (.slice (some ⟨b, 0, none⟩) 0 c)) :: L) M (wpList x.P ops Q rest)) :
    W x L M (wpList x.P ops Q (⟨some d, .convert T T' o1, ty, pos, aft, none⟩ :: rest)) := by
  refine W.opv (ι := { p : Nat × Nat // p.2 ≤ maxLen }) (fun _ => M) (fun p => .lit (.slice (some ⟨p.1.1, 0, none⟩) 0 p.1.2)) hd ?_ (fun p => next p.1.1 p.1.2 p.2)
  intro a w hs
  have e1 : a.eval o1 = .string ⟨#[]⟩ := h1.lit rfl hs
  have hrun := Lib.run_convert_string_bytes (P := x.P) w T T' E ⟨#[]⟩ hT hT' hE
  rw [show (ByteArray.mk #[]).size = 0 from rfl, bytesWorld_alloc] at hrun
  obtain ⟨hg1, hg2⟩ := cap_cut w 0 0 E (by simp only [maxLen]; omega)
  refine ⟨.slice (some ⟨w.heap.size, 0, none⟩) 0 (grownCap w 0 0 E), w.drew.alloc (.cells (Lib.bytesCells w E ⟨#[]⟩) E ((Lib.bytesCells w E ⟨#[]⟩).size, (Lib.bytesCells w E ⟨#[]⟩).size + 1)), (⟨(w.heap.size, grownCap w 0 0 E), hg2⟩ : { p : Nat × Nat // p.2 ≤ maxLen }), ?_, ?_, Rep.lit _⟩
  · simp only [execOp, e1, Sem.run_bind, hrun, Result.andThen_ok, Sem.run_pure]
  · have hd1 : St x L M a w.drew := hs.same rfl rfl rfl rfl
    have h2 : St x L (ME.arr (.slice (some ⟨w.heap.size, 0, none⟩) 0 (grownCap w 0 0 E)) E 1 [] :: M) a (w.drew.alloc (.cells (Lib.bytesCells w E ⟨#[]⟩) E ((Lib.bytesCells w E ⟨#[]⟩).size, (Lib.bytesCells w E ⟨#[]⟩).size + 1))) := by
      refine hd1.alloc _ _ rfl ?_
      intro N hN
      have hcs : (Lib.bytesCells w E ⟨#[]⟩).size = grownCap w 0 0 E := by
        simp only [Lib.bytesCells, Array.size_append, Array.size_map, Array.size_replicate]
        show 0 + (grownCap w 0 0 E - 0) = _
        omega
      exact ⟨some ⟨w.heap.size, 0, none⟩, grownCap w 0 0 E, rfl, Nat.zero_le _, hg2, .inr ⟨w.heap.size, 0, _, _, _, rfl, alloc_new w.drew _, by omega, .inr (by omega), by simp only [RepE]⟩⟩
    obtain ⟨hm, hk, hsub⟩ := h2.mem.sub (M' := M) (D := [_]) (List.perm_append_comm (l₁ := [_]))
    exact ⟨h2.defers, h2.size, fun t g av hl => ⟨fun hg => ((h2.slots t g av hl).1 hg).keep hk, (h2.slots t g av hl).2⟩, hm, h2.fr.sub hsub, h2.old⟩
/-- a method behind an interface -/
theorem W.ivk {f : FuncId} {T : TypeId} {v : Value} {nm : String} {d : Tmp} {ro : Operand} {os : List Operand} {ats : Array TypeId} {avs : List AV} {Min Mr : List ME} {post : AV → List ME → Prop}
    (hc : FnC x.P f (.lit v :: avs) Min post) (hm : ∀ (args : Array Value) (w : World), (callMethod (.iface T v) nm args).run x.P w = .ok (.enter f (#[v] ++ args)) w) (hro : Ov true L ro (.lit (.iface T v))) (ha : ArgsOv L os avs) (hM : List.Perm M (Min ++ Mr)) (hd : Nat.blt d x.n = true)
    (next : ∀ r M', post r M' → W x ((d, true, r) :: L) (M' ++ Mr) (wpList x.P ops Q rest)) :
    W x L M (wpList x.P ops Q (⟨some d, .call ⟨.invoke ro nm, os.toArray, ats⟩, ty, pos, aft, none⟩ :: rest)) := by
  intro a w hs
  refine wpList_cons_want (by simp [Region.wanted]) ?_
  have hv := hro.lit rfl hs
  have hr : (execOp a.eval ⟨some d, .call ⟨.invoke ro nm, os.toArray, ats⟩, ty, pos, aft, none⟩).run x.P w = .ok (.enter f (v :: os.map a.eval).toArray) w := by
    have e : (#[Value.iface T v] ++ (os.toArray.map a.eval)) = (Value.iface T v :: os.map a.eval).toArray := by simp
    have h1 : ((Value.iface T v :: os.map a.eval).toArray).extract 1 (Value.iface T v :: os.map a.eval).toArray.size = (os.map a.eval).toArray := by
      simp
      exact List.take_of_length_le (by simp)
    have h2 := hm (os.map a.eval).toArray w
    rw [show (#[v] ++ (os.map a.eval).toArray) = (v :: os.map a.eval).toArray from by simp] at h2
    simp only [execOp, resolve, hv, Sem.run_bind, Sem.run_pure, Result.andThen_ok, e]
    show (invoke (.fn (.method nm) #[]) (Value.iface T v :: os.map a.eval).toArray).run x.P w = _
    have h3 : (invoke (.fn (.method nm) #[]) (Value.iface T v :: os.map a.eval).toArray) = callMethod (Value.iface T v) nm ((Value.iface T v :: os.map a.eval).toArray.extract 1 (Value.iface T v :: os.map a.eval).toArray.size) := rfl
    rw [h3, h1]
    exact h2
  unfold Oper.wp
  rw [hr]
  obtain ⟨hF, hm0, hk0⟩ := hs.ahead hM
  have hargs : RepT w (bl M ++ x.F) (.lit v :: avs) (v :: os.map a.eval) := by
    simp only [RepT]
    exact ⟨_, _, rfl, Rep.lit v, ArgsOv.rep hs ha⟩
  refine (hc.2 w (bl Mr ++ x.F) _ hF hm0 (RepT.keep hk0 _ _ hargs)).mono ?_
  rintro e w' ⟨v', r, M', rfl, hp, hm', hrep, hf⟩
  have hs' := hs.back hM hm' hf
  refine next r M' hp _ _ (hs'.put hd true r v' (fun _ => hrep.keep ?_) (by simp))
  exact fun b c T fr hb hc => ⟨fun h => hb (mem4.1 h), hc⟩
/-- nothing is copied -/
theorem Ev.copy0 {T T' E k bytes : Nat} {z : Value} {o1 o2 : Operand} {base ad : Option Addr} {dl dc c : Nat} (h1 : Ov g L o1 (.lit (.slice base dl dc))) (h2 : Ov g L o2 (.lit (.slice ad 0 c))) (hT : x.P.underlying T = some (.slice E)) (hE : Ty x.P E k bytes z) :
    Ev x g L M (.call ⟨.builtin .copy, #[o1, o2], #[T, T']⟩) ty (.lit (.int .i64 0)) := Ev.pure fun a w hs hg => by
  have e1 := h1.lit hg hs
  have e2 := h2.lit hg hs
  obtain ⟨ii, hi1, hi2, hi3, hi4⟩ := hE
  have hl : ∀ ad : Option Addr, (Builtin.firstCells k 0 (.slice ad 0 c)).run x.P w = .ok #[] w := by
    intro ad
    cases ad with
    | none => simp [Builtin.firstCells]
    | some a => simp [Builtin.firstCells, loadCells, loadCellsFrom]
  cases base with
  | none => simp [execOp, resolve, invoke, builtin, e1, e2, Builtin.copy_, Builtin.lenOf, run_underlying hT, sizeOf, typeInfo, hi1, hi2, hl, goInt]
  | some b => simp [execOp, resolve, invoke, builtin, e1, e2, Builtin.copy_, Builtin.lenOf, run_underlying hT, sizeOf, typeInfo, hi1, hi2, hl, goInt, storeCells]
/-- the model stands in for internal/bytealg.CountString -/
theorem Ev.cnt {o1 o2 : Operand} {f : FuncId} {fn : Func} {ats : Array TypeId} {l : List UInt8} {c : UInt8} (hf : x.P.funcs[f]? = some fn) (hname : (fn.name == "runtime.NumGoroutine") = false)
    (hb : fn.body.isNone = true) (hn : Extern.findNext fn = none) (he : Extern.find fn = some Extern.BytealgCount.count) (h1 : Ov g L o1 (.str l)) (h2 : Ov g L o2 (.lit (.int .u8 (c.toNat : Int)))) :
    Ev x g L M (.call ⟨.value (.func f), #[o1, o2], ats⟩) ty (.lit (.int .i64 (l.count c : Int))) :=
  Ev.pure fun a w hst hg => by
    have e1 : a.eval o1 = .string ⟨l.toArray⟩ := h1.lit hg hst
    have e2 : a.eval o2 = .int .u8 (c.toNat : Int) := h2.lit hg hst
    have hv : a.eval (.func f) = .func (.func f) #[] #[] := rfl
    have hc : ((c.toNat : Int)).toNat.toUInt8 = c := by simp
    have hr : (callFunc f #[.string ⟨l.toArray⟩, .int .u8 (c.toNat : Int)]).run x.P w = .ok (.value (.int .i64 (l.count c : Int))) w := by
      rw [run_callFunc_extern hf hname hb hn he, Lib.run_countString, Result.andThen_ok, hc]
      rfl
    simp only [execOp, resolve, hv, Deferred.ofValue, Sem.run_bind, Sem.run_pure, Result.andThen_ok, invoke, List.map_toArray, List.map_cons, List.map_nil, e1, e2]
    simpa using hr
theorem Ev.mkfn1 {fn : Fn} {o1 : Operand} {v : Value} (h : Ov g L o1 (.lit v)) : Ev x g L M (.makeFunc fn #[o1] #[]) ty (.lit (.func fn #[v] #[])) := Ev.pure fun a w hs hg => by
  have := h.lit hg hs
  simp [execOp, Instr.makeFunc, this]
/-- how an own row's value looks -/
theorem W.arr_len {R : Act → World → Prop} (i : Nat) {v : Value} {U k : Nat} {es : List AV} (hM : M[i]? = some (.arr v U k es)) (h : ∀ ad c, v = .slice ad es.length c → es.length ≤ c → W x L M R) : W x L M R := by
  intro a w hs
  obtain ⟨ad, cap, e, h1, _⟩ := hs.mem.holds _ (List.mem_of_getElem? hM)
  exact h ad cap e h1 a w hs
end rep
theorem Ev.subTake {x : Cx} {g : Bool} {L : List (Tmp × Bool × AV)} {M : List ME} {T ty : TypeId} {o1 o2 : Operand} {l : List UInt8} {n : Nat} (h1 : Ov g L o1 (.str l)) (hT : x.P.underlying T = some .string) (h2 : Ov g L o2 (.int (n : Int))) (hb : g = true → n ≤ l.length) : Ev x g L M (.slice T o1 none (some o2) none) ty (.str (l.take n)) := by
  have h := Ev.subs (x := x) (g := g) (L := L) (M := M) (ty := ty) (lo := none) (hi := some o2) (i := 0) (j := (n : Int)) h1 hT rfl h2 (fun hg => ⟨by decide, by omega, by have := hb hg; omega⟩)
  exact h
end Go.Vl
end

section
set_option linter.unusedVariables false
set_option linter.unusedSimpArgs false
namespace Go.Vl
namespace Sty
def spc : List UInt8 := [32, 9, 10, 12, 13]
/-- as_ pieces' loop goes: where the piece begins, how deep, within which quote, the pieces so far -/
structure Ps where
  fr : Nat
  dp : Nat
  qt : UInt8
  out : List (List UInt8)
def Ps.step (s : List UInt8) (i : Nat) (p : Ps) : Ps :=
  if p.qt ≠ 0 then (if s.getD i 0 = p.qt then { p with qt := 0 } else p)
  else if s.getD i 0 = 34 ∨ s.getD i 0 = 39 then { p with qt := s.getD i 0 }
  else if s.getD i 0 = 40 then { p with dp := p.dp + 1 }
  else if s.getD i 0 = 41 then { p with dp := p.dp - 1 }
  else if s.getD i 0 = 59 ∧ p.dp = 0 then { p with out := p.out ++ [(s.take i).drop p.fr], fr := i + 1 }
  else p
def pst (s : List UInt8) : Nat → Ps
  | 0 => ⟨0, 0, 0, []⟩
  | i + 1 => (pst s i).step s i
structure Ps.Ok (s : List UInt8) (i : Nat) (p : Ps) : Prop where
  fr : p.fr ≤ i
  dp : p.dp ≤ i
  len : p.out.length ≤ i
  out : ∀ x ∈ p.out, x.length ≤ s.length
def pieces (s : List UInt8) : List (List UInt8) := (pst s s.length).out ++ [s.drop (pst s s.length).fr]
def small (s : List UInt8) : List UInt8 := s.map fun c => if 65 ≤ c.toNat ∧ c.toNat ≤ 90 then c + 32 else c
def small1 (c : UInt8) : UInt8 := if 65 ≤ c.toNat ∧ c.toNat ≤ 90 then c + 32 else c
/-- the first i bytes made small -/
def smallT (s : List UInt8) (i : Nat) : List UInt8 := (s.take i).map small1 ++ s.drop i
theorem smallT_len (s : List UInt8) (i : Nat) : (smallT s i).length = s.length := by
  unfold smallT; rw [List.length_append, List.length_map, List.length_take, List.length_drop]; omega
theorem smallT_all (s : List UInt8) : smallT s s.length = small s := by
  unfold smallT small; rw [List.take_length, List.drop_length, List.append_nil]; rfl
theorem smallT_get (s : List UInt8) (i : Nat) (h : i < s.length) : ((smallT s i).map AV.u8)[i]? = some (AV.u8 (s.getD i 0)) := by
  have hl : ((s.take i).map small1).length = i := by rw [List.length_map, List.length_take]; omega
  rw [List.getElem?_map]; unfold smallT
  rw [List.getElem?_append_right (by omega), hl, Nat.sub_self, List.getElem?_drop, Nat.add_zero, List.getD_eq_getElem?_getD, List.getElem?_eq_getElem h]; rfl
theorem smallT_set (s : List UInt8) (i : Nat) (h : i < s.length) : ((smallT s i).map AV.u8).set i (AV.u8 (small1 (s.getD i 0))) = (smallT s (i + 1)).map AV.u8 := by
  have hl : ((s.take i).map small1).length = i := by rw [List.length_map, List.length_take]; omega
  rw [← List.map_set]; congr 1; unfold smallT
  rw [List.set_append_right _ _ (by omega), hl, Nat.sub_self, List.drop_eq_getElem_cons h, List.set_cons_zero, List.take_succ_eq_append_getElem h, List.map_append, List.append_assoc]
  congr 2
  rw [List.getD_eq_getElem?_getD, List.getElem?_eq_getElem h]; rfl
/-- a declaration of a piece, if it is one -/
def dec1 (p : List UInt8) : List UInt8 × List UInt8 := (small (Lib.trimS (Lib.cut p [58]).1 spc), Lib.trimS (Lib.cut p [58]).2.1 spc)
theorem dropWhile_le (p : UInt8 → Bool) (l : List UInt8) : (l.dropWhile p).length ≤ l.length := (List.dropWhile_sublist p).length_le
theorem trim_len (l cs : List UInt8) : (Lib.trimS l cs).length ≤ l.length := by
  unfold Lib.trimS Lib.trimLeftS Lib.trimRightS
  refine Nat.le_trans (dropWhile_le _ _) ?_
  rw [List.length_reverse]
  exact Nat.le_trans (dropWhile_le _ _) (by simp)
structure Good (n : Nat) (d : List UInt8 × List UInt8) : Prop where
  name : nameOk d.1 = true
  val : d.2 ≠ []
  len : d.2.length ≤ n
  head : ∀ c r, d.2 = c :: r → c ≠ 32
  last : ∀ r c, d.2 = r ++ [c] → c ≠ 32
end Sty
end Go.Vl
end

section
set_option linter.unusedVariables false
set_option linter.unusedSimpArgs false
namespace Go.Vl
namespace Url
/-- a table of 256 slices, and one slice more -/
def rowF (f : Nat → AV) (y : AV) : List AV := (List.range 256).map f ++ [y]
theorem rowF_len (f : Nat → AV) (y : AV) : (rowF f y).length = 257 := by simp [rowF]
theorem rowF_get (f : Nat → AV) (y : AV) (i : Nat) (h : i < 256) : (rowF f y)[i]? = some (f i) := by
  unfold rowF
  rw [List.getElem?_append_left (by simpa using h)]
  simp [h]
theorem rowF_last (f : Nat → AV) (y : AV) : (rowF f y)[256]? = some y := by
  unfold rowF
  rw [List.getElem?_append_right (by simp)]
  simp
theorem rowF_set (f : Nat → AV) (y z : AV) (i : Nat) (h : i < 256) : splice (rowF f y) i [z] = rowF (fun k => if k = i then z else f k) y := by
  apply List.ext_getElem?
  intro j
  unfold splice
  rcases Nat.lt_trichotomy j i with hj | hj | hj
  · rw [List.append_assoc, List.getElem?_append_left (by simp [rowF_len]; omega), List.getElem?_take_of_lt hj, rowF_get _ _ _ (by omega), rowF_get _ _ _ (by omega), if_neg (by omega)]
  · subst hj
    rw [List.append_assoc, List.getElem?_append_right (by simp [rowF_len]; omega), rowF_get _ _ _ h, if_pos rfl]
    have hl : (List.take j (rowF f y)).length = j := by rw [List.length_take, rowF_len]; omega
    rw [hl, Nat.sub_self]; rfl
  · rw [List.getElem?_append_right (by simp [rowF_len]; omega)]
    have e : (List.take i (rowF f y) ++ [z]).length = i + 1 := by simp [rowF_len]; omega
    rw [e, List.getElem?_drop]
    show (rowF f y)[i + 1 + (j - (i + 1))]? = _
    rw [show i + 1 + (j - (i + 1)) = j from by omega]
    rcases Nat.lt_trichotomy j 256 with h2 | h2 | h2
    · rw [rowF_get _ _ _ h2, rowF_get _ _ _ h2, if_neg (by omega)]
    · subst h2; rw [rowF_last, rowF_last]
    · rw [List.getElem?_eq_none (by rw [rowF_len]; omega), List.getElem?_eq_none (by rw [rowF_len]; omega)]
theorem rowF_setl (f : Nat → AV) (y z : AV) : splice (rowF f y) 256 [z] = rowF f z := by
  unfold splice rowF
  rw [List.take_append_of_le_length (by simp), List.take_of_length_le (by simp), List.drop_of_length_le (by simp)]
  simp
theorem frz_snoc {v : Value} {k : Nat} {es : List AV} : ∀ l : List AV, FrzL v k es (l ++ [.lit v]) (l ++ [.sl k es])
  | [] => ⟨.hit, trivial⟩
  | a :: l => ⟨.refl a, frz_snoc l⟩
theorem frz_rowF {v : Value} {k : Nat} {es : List AV} (f : Nat → AV) : FrzL v k es (rowF f (.lit v)) (rowF f (.sl k es)) := frz_snoc _
def nilA : AV := .lit (.slice none 0 0)
def slA (z : Nat × Nat) : AV := .lit (.slice (some ⟨z.1, 0, none⟩) 0 z.2)
def kill : List UInt8 := [13, 10, 9]
def tlr : List (List UInt8) := [[13], [10], [9]]
def six : List (List UInt8) := [[9], [], [10], [], [13], []]
/-- the table when so many letters are laid -/
def Fz (k : Nat) (z : Nat → Nat × Nat) (i : Nat) : AV := if (i = 13 ∧ 0 < k) ∨ (i = 10 ∧ 1 < k) ∨ (i = 9 ∧ 2 < k) then slA (z i) else nilA
theorem Fz_step (k : Nat) (hk : k < 3) (z : Nat → Nat × Nat) (b c : Nat) : (fun i => if i = ((kill.getD k 0).toNat) then slA (b, c) else Fz k z i) = Fz (k + 1) (fun i => if i = ((kill.getD k 0).toNat) then (b, c) else z i) := by
  funext i
  rcases (show k = 0 ∨ k = 1 ∨ k = 2 from by omega) with rfl | rfl | rfl <;> simp only [kill, List.getD_cons_zero, List.getD_cons_succ, Fz] <;> (by_cases h : i = 13 <;> by_cases h1 : i = 10 <;> by_cases h2 : i = 9 <;> simp_all)
/-- line feeds and tabs -/
def gone (c : UInt8) : Bool := c == 9 || c == 10 || c == 13
def rm (s : List UInt8) : List UInt8 := s.filter fun c => !(gone c)
theorem Fz_gone (z : Nat → Nat × Nat) (c : UInt8) : Fz 3 z c.toNat = if gone c then slA (z c.toNat) else nilA := by
  unfold Fz gone
  have h9 : (c.toNat = 9) ↔ (c == 9) = true := by rw [beq_iff_eq]; exact ⟨fun h => UInt8.toNat_inj.1 h, fun h => by rw [h]; rfl⟩
  have h10 : (c.toNat = 10) ↔ (c == 10) = true := by rw [beq_iff_eq]; exact ⟨fun h => UInt8.toNat_inj.1 h, fun h => by rw [h]; rfl⟩
  have h13 : (c.toNat = 13) ↔ (c == 13) = true := by rw [beq_iff_eq]; exact ⟨fun h => UInt8.toNat_inj.1 h, fun h => by rw [h]; rfl⟩
  simp only [h9, h10, h13]
  cases (c == 9) <;> cases (c == 10) <;> cases (c == 13) <;> simp
theorem rm_append (s t : List UInt8) : rm (s ++ t) = rm s ++ rm t := by simp [rm]
theorem rm_len (s : List UInt8) : (rm s).length + (s.count 13 + s.count 10 + s.count 9) = s.length := by
  induction s with
  | nil => rfl
  | cons c s ih =>
    unfold rm at ih ⊢
    rw [List.filter_cons, List.count_cons, List.count_cons, List.count_cons, List.length_cons]
    by_cases h1 : c = 9
    · subst h1
      rw [if_neg (by decide), if_neg (by decide), if_neg (by decide), if_pos (by decide)]; omega
    · by_cases h2 : c = 10
      · subst h2
        rw [if_neg (by decide), if_neg (by decide), if_pos (by decide), if_neg (by decide)]; omega
      · by_cases h3 : c = 13
        · subst h3
          rw [if_neg (by decide), if_pos (by decide), if_neg (by decide), if_neg (by decide)]; omega
        · have : gone c = false := by simp [gone, h1, h2, h3]
          rw [this, if_pos (show (!false) = true from rfl), if_neg (by simpa using h3), if_neg (by simpa using h2), if_neg (by simpa using h1), List.length_cons]; omega
theorem rm_same {s : List UInt8} (h : (rm s).length = s.length) : rm s = s := by
  unfold rm at *
  exact List.filter_eq_self.2 (fun a ha => by
    have := List.length_filter_eq_length_iff.1 h a ha
    exact this)
theorem rm_take (s : List UInt8) (i : Nat) (h : i < s.length) : rm (s.take (i + 1)) = rm (s.take i) ++ (if gone (s.getD i 0) then [] else [s.getD i 0]) := by
  rw [take_getDG 0 s i h, rm_append]
  congr 1
  unfold rm
  rw [List.filter_cons, List.filter_nil]
  cases gone (s.getD i 0) <;> rfl
theorem rm_take_le (s : List UInt8) (i : Nat) : (rm (s.take i)).length ≤ (rm s).length := by
  have h := rm_append (s.take i) (s.drop i)
  rw [List.take_append_drop] at h
  rw [h, List.length_append]; omega
/-! ### what is stripped -/
def ctl : List UInt8 := [0, 1, 2, 3, 4, 5, 6, 7, 8, 9, 10, 11, 12, 13, 14, 15, 16, 17, 18, 19, 20, 21, 22, 23, 24, 25, 26, 27, 28, 29, 30, 31, 32]
def odd (c : UInt8) : Bool := ctl.contains c
def trim (s : List UInt8) : List UInt8 := Lib.trimS s ctl
def strip (s : List UInt8) : List UInt8 := rm (trim s)
theorem trimR_snoc (t : List UInt8) (c : UInt8) : Lib.trimRightS (t ++ [c]) ctl = if odd c then Lib.trimRightS t ctl else t ++ [c] := by
  unfold Lib.trimRightS
  rw [List.reverse_append, List.reverse_singleton, List.singleton_append, List.dropWhile_cons]
  show (if odd c = true then _ else _ : List UInt8).reverse = _
  split
  · rfl
  · rw [List.reverse_cons, List.reverse_reverse]
theorem trimL_cons (c : UInt8) (t : List UInt8) : Lib.trimLeftS (c :: t) ctl = if odd c then Lib.trimLeftS t ctl else c :: t := by
  unfold Lib.trimLeftS
  rw [List.dropWhile_cons]
  rfl
theorem trimL_suffix : ∀ (s : List UInt8), ∃ p, s = p ++ Lib.trimLeftS s ctl
  | [] => ⟨[], rfl⟩
  | c :: s => by
    obtain ⟨p, hp⟩ := trimL_suffix s
    rw [trimL_cons]
    split
    · exact ⟨c :: p, by rw [List.cons_append, ← hp]⟩
    · exact ⟨[], rfl⟩
theorem trimR_len : ∀ (n : Nat) (s : List UInt8), s.length = n → (Lib.trimRightS s ctl).length ≤ n := by
  intro n s hs
  unfold Lib.trimRightS
  have h1 := (List.dropWhile_sublist (ctl.contains ·) (l := s.reverse)).length_le
  rw [List.length_reverse] at h1 ⊢
  omega
theorem trim_len (s : List UInt8) : (trim s).length ≤ s.length := by
  obtain ⟨p, hp⟩ := trimL_suffix (Lib.trimRightS s ctl)
  have h1 := congrArg List.length hp
  rw [List.length_append] at h1
  have h2 := trimR_len _ s rfl
  show (Lib.trimLeftS _ ctl).length ≤ _
  omega
theorem strip_len (s : List UInt8) : (strip s).length ≤ s.length := by
  have h1 := trim_len s
  have h2 := rm_len (trim s)
  unfold strip; omega
/-- what stays ahead -/
theorem trimR_head {a : List UInt8} {c : UInt8} (hc : odd c = false) (s : List UInt8) : Lib.trimRightS ((a ++ [c]) ++ s) ctl = (a ++ [c]) ++ Lib.trimRightS s ctl := by
  have key : ∀ (n : Nat) (s : List UInt8), s.length = n → Lib.trimRightS ((a ++ [c]) ++ s) ctl = (a ++ [c]) ++ Lib.trimRightS s ctl := by
    intro n
    induction n with
    | zero => intro s hs; rw [List.eq_nil_of_length_eq_zero hs, List.append_nil, trimR_snoc, hc]; simp [Lib.trimRightS]
    | succ n ih =>
      intro s hs
      rcases List.eq_nil_or_concat s with rfl | ⟨t, d, e⟩
      · cases hs
      · rw [List.concat_eq_append] at e
        subst e
        rw [← List.append_assoc, trimR_snoc, trimR_snoc]
        split
        · exact ih t (by simpa using hs)
        · rw [List.append_assoc, List.append_assoc]
  exact key _ s rfl
theorem trimL_pad : ∀ {p : List UInt8}, (∀ c ∈ p, odd c = true) → ∀ (d : UInt8) (s : List UInt8), odd d = false → Lib.trimLeftS (p ++ d :: s) ctl = d :: s
  | [], _, d, s, hd => by rw [List.nil_append, trimL_cons, hd]; rfl
  | c :: p, h, d, s, hd => by
    rw [List.cons_append, trimL_cons, h c List.mem_cons_self]
    exact trimL_pad (fun x hx => h x (List.mem_cons_of_mem _ hx)) d s hd
/-- behind a pad: first letter d, .., a letter e, whatever -/
theorem strip_shape {p : List UInt8} (hp : ∀ c ∈ p, odd c = true) {d : UInt8} (hd : odd d = false) {m : List UInt8} {e : UInt8} (he : odd e = false) (hde : ∃ b, d :: m = b ++ [e]) (s : List UInt8) :
    ∃ r, strip (p ++ ((d :: m) ++ s)) = rm (d :: m) ++ r := by
  obtain ⟨b, hb⟩ := hde
  refine ⟨rm (Lib.trimRightS s ctl), ?_⟩
  unfold strip trim Lib.trimS
  rw [hb, ← List.append_assoc, ← List.append_assoc, trimR_head he s, List.append_assoc p b [e], ← hb, List.append_assoc, List.cons_append, trimL_pad hp d _ hd, ← List.cons_append, rm_append]
/-! ### schemes -/
def letter (c : UInt8) : Bool := (decide (97 ≤ c.toNat) && decide (c.toNat ≤ 122)) || (decide (65 ≤ c.toNat) && decide (c.toNat ≤ 90))
def more (c : UInt8) : Bool := (decide (48 ≤ c.toNat) && decide (c.toNat ≤ 57)) || c == 43 || c == 45 || c == 46
def schF (pre : List UInt8) : List UInt8 → List UInt8 × Bool
  | [] => ([], false)
  | c :: r => if letter c || (decide (0 < pre.length) && more c) then schF (pre ++ [c]) r else if c == 58 && decide (0 < pre.length) then (Sty.small pre, true) else ([], false)
def scheme (s : List UInt8) : List UInt8 × Bool := schF [] (strip s)
def of (s : List UInt8) (l : List (List UInt8)) : Bool := !(scheme s).2 || l.any fun x => (scheme s).1 == x
theorem schF_letters : ∀ (a pre r : List UInt8), (∀ c ∈ a, letter c = true) → 0 < (pre ++ a).length → schF pre (a ++ 58 :: r) = (Sty.small (pre ++ a), true)
  | [], pre, r, _, h => by
    rw [List.append_nil] at h ⊢
    rw [List.nil_append, schF, if_neg (by simp [letter, more]), if_pos (by simp; simpa using h)]
  | c :: a, pre, r, hl, h => by
    rw [List.cons_append, schF, if_pos (by rw [hl c List.mem_cons_self]; rfl), schF_letters a (pre ++ [c]) r (fun d hd => hl d (List.mem_cons_of_mem _ hd)) (by simp; omega), List.append_assoc]; rfl
theorem schF_at (u : List UInt8) (i : Nat) (h : i < u.length) : schF (u.take i) (u.drop i) = if letter (u.getD i 0) || (decide (0 < i) && more (u.getD i 0)) then schF (u.take (i + 1)) (u.drop (i + 1)) else if u.getD i 0 == 58 && decide (0 < i) then (Sty.small (u.take i), true) else ([], false) := by
  rw [drop_getDG 0 u i h, schF, List.length_take, Nat.min_eq_left (by omega), ← take_getDG 0 u i h]
theorem dec_cast (a b : Nat) : decide ((a : Int) ≤ (b : Int)) = decide (a ≤ b) := by rw [decide_eq_decide]; omega
theorem beq_cast (c d : UInt8) : ((c.toNat : Int) == (d.toNat : Int)) = (c == d) := by
  rw [Bool.eq_iff_iff, beq_iff_eq, beq_iff_eq]
  exact ⟨fun h => UInt8.toNat_inj.1 (by omega), fun h => by rw [h]⟩
theorem letter_prog (c : UInt8) : ((decide ((97 : Int) ≤ (c.toNat : Int)) && decide ((c.toNat : Int) ≤ 122)) || (decide ((65 : Int) ≤ (c.toNat : Int)) && decide ((c.toNat : Int) ≤ 90))) = letter c := by
  unfold letter
  rw [← dec_cast, ← dec_cast, ← dec_cast, ← dec_cast]; rfl
theorem more_prog (i : Nat) (c : UInt8) : (decide ((0 : Int) < (i : Int)) && ((((decide ((48 : Int) ≤ (c.toNat : Int)) && decide ((c.toNat : Int) ≤ 57)) || ((c.toNat : Int) == 43)) || ((c.toNat : Int) == 45)) || ((c.toNat : Int) == 46))) = (decide (0 < i) && more c) := by
  unfold more
  rw [← dec_cast, ← dec_cast, ← beq_cast c 43, ← beq_cast c 45, ← beq_cast c 46, show decide ((0 : Int) < (i : Int)) = decide (0 < i) from by rw [decide_eq_decide]; omega]
  rfl
theorem colon_prog (i : Nat) (c : UInt8) : (((c.toNat : Int) == 58) && decide ((0 : Int) < (i : Int))) = (c == 58 && decide (0 < i)) := by
  rw [← beq_cast c 58, show decide ((0 : Int) < (i : Int)) = decide (0 < i) from by rw [decide_eq_decide]; omega]
  rfl
/-! ### hidden schemes -/
def lowC (k : Nat) : UInt8 := UInt8.ofNat (97 + k % 26)
def bigC (k : Nat) : UInt8 := if k < 26 then UInt8.ofNat (97 + k % 26) else UInt8.ofNat (65 + k % 26)
def pads : List (List UInt8) := [[], [32], [9, 10], [0, 31, 32]]
def gaps : List (List UInt8) := [[], [9], [10], [13, 10]]
/-- letters as_ they are seen, and as_ they are hidden -/
structure Hid (sch hid : List UInt8) : Prop where
  out : ∃ p body ls, hid = p ++ body ∧ (∀ c ∈ p, odd c = true) ∧ rm body = ls ∧ (∀ c ∈ ls, letter c = true) ∧ Sty.small ls = sch ∧ (ls = [] → body = []) ∧ (∀ d m, body = d :: m → odd d = false)
theorem tab26 : (List.range 26).all (fun k => !(gone (UInt8.ofNat (97 + k))) && letter (UInt8.ofNat (97 + k)) && !(odd (UInt8.ofNat (97 + k))) && !(gone (UInt8.ofNat (65 + k))) && letter (UInt8.ofNat (65 + k)) && !(odd (UInt8.ofNat (65 + k))) && (Sty.small [UInt8.ofNat (97 + k)] == [UInt8.ofNat (97 + k)]) && (Sty.small [UInt8.ofNat (65 + k)] == [UInt8.ofNat (97 + k)])) = true := by decide +kernel
theorem big_facts (k : Nat) : gone (bigC k) = false ∧ letter (bigC k) = true ∧ odd (bigC k) = false ∧ Sty.small [bigC k] = [lowC k] ∧ letter (lowC k) = true ∧ Sty.small [lowC k] = [lowC k] := by
  have h := List.all_eq_true.1 tab26 (k % 26) (List.mem_range.2 (Nat.mod_lt _ (by decide)))
  simp only [Bool.and_eq_true, Bool.not_eq_true', beq_iff_eq] at h
  obtain ⟨⟨⟨⟨⟨⟨⟨h1, h2⟩, h3⟩, h4⟩, h5⟩, h6⟩, h7⟩, h8⟩ := h
  unfold bigC lowC
  split
  · exact ⟨h1, h2, h3, h7, h2, h7⟩
  · exact ⟨h4, h5, h6, h8, h2, h7⟩
theorem Hid.start {p : List UInt8} (h : p ∈ pads) : Hid [] p := by
  refine ⟨p, [], [], (by simp), ?_, rfl, (fun c hc => by cases hc), rfl, (fun _ => rfl), (fun d m h => by cases h)⟩
  simp only [pads, List.mem_cons, List.not_mem_nil, or_false] at h
  rcases h with rfl | rfl | rfl | rfl <;> decide
theorem Hid.add {sch hid : List UInt8} (h : Hid sch hid) (k : Nat) {g : List UInt8} (hg : g ∈ gaps) : Hid (sch ++ [lowC k]) (hid ++ [bigC k] ++ g) := by
  obtain ⟨p, body, ls, h1, h2, h3, h4, h5, h6, h7⟩ := h
  obtain ⟨b1, b2, b3, b4, b5, b6⟩ := big_facts k
  have hgr : rm g = [] := by
    simp only [gaps, List.mem_cons, List.not_mem_nil, or_false] at hg
    rcases hg with rfl | rfl | rfl | rfl <;> rfl
  refine ⟨p, body ++ [bigC k] ++ g, ls ++ [bigC k], by rw [h1]; simp, h2, ?_, ?_, ?_, fun e => by simp at e, ?_⟩
  · rw [rm_append, rm_append, h3, hgr, List.append_nil]
    congr 1
    unfold rm; rw [List.filter_cons, b1]; rfl
  · intro c hc
    rcases List.mem_append.1 hc with hc | hc
    · exact h4 c hc
    · rw [List.mem_singleton.1 hc]; exact b2
  · have : Sty.small (ls ++ [bigC k]) = Sty.small ls ++ Sty.small [bigC k] := by simp [Sty.small]
    rw [this, h5, b4]
  · intro d m e
    cases body with
    | nil => rw [List.nil_append] at e; rw [← (List.cons.inj e).1]; exact b3
    | cons x body => rw [← (List.cons.inj e).1]; exact h7 x body rfl
theorem odd58 : odd 58 = false := by decide
/-- the scheme is seen -/
theorem Hid.scheme {sch hid : List UInt8} (h : Hid sch hid) (hne : sch ≠ []) (rest : List UInt8) : Url.scheme (hid ++ [58] ++ rest) = (sch, true) := by
  obtain ⟨p, body, ls, h1, h2, h3, h4, h5, h6, h7⟩ := h
  have hls : ls ≠ [] := by rintro rfl; exact hne h5.symm
  cases body with
  | nil => exact absurd (show ls = [] from h3.symm) hls
  | cons d m =>
    obtain ⟨r, hr⟩ := strip_shape h2 (h7 d m rfl) (m := m ++ [58]) odd58 ⟨d :: m, by simp⟩ rest
    unfold Url.scheme
    have e : hid ++ [58] ++ rest = p ++ ((d :: (m ++ [58])) ++ rest) := by rw [h1]; simp
    rw [e, hr]
    have e2 : rm (d :: (m ++ [58])) = ls ++ [58] := by
      rw [show d :: (m ++ [58]) = (d :: m) ++ [58] from rfl, rm_append, h3]; rfl
    rw [e2, List.append_assoc, List.singleton_append, schF_letters ls [] r h4 (by simpa using List.length_pos_iff.2 hls), List.nil_append, h5]
def bufV (s : List UInt8) (i : Nat) : List AV := (rm (s.take i)).map AV.u8 ++ List.replicate ((rm s).length - (rm (s.take i)).length) (AV.lit (.int .u8 0))
theorem bufV_len (s : List UInt8) (i : Nat) : (bufV s i).length = (rm s).length := by
  have := rm_take_le s i
  unfold bufV
  rw [List.length_append, List.length_map, List.length_replicate]; omega
theorem bufV_at (s : List UInt8) (i : Nat) (h : (rm (s.take i)).length < (rm s).length) : (bufV s i)[(rm (s.take i)).length]? = some (AV.lit (.int .u8 0)) := by
  unfold bufV
  rw [List.getElem?_append_right (by simp), List.length_map, Nat.sub_self, List.getElem?_replicate, if_pos (by omega)]
theorem bufV_set (s : List UInt8) (i : Nat) (c : UInt8) (hi : rm (s.take (i + 1)) = rm (s.take i) ++ [c]) : (bufV s i).set (rm (s.take i)).length (AV.u8 c) = bufV s (i + 1) := by
  have h1 := rm_take_le s (i + 1)
  have hl : (rm (s.take (i + 1))).length = (rm (s.take i)).length + 1 := by rw [hi, List.length_append, List.length_singleton]
  unfold bufV
  rw [hl, hi]
  rw [show (rm s).length - (rm (s.take i)).length = ((rm s).length - ((rm (s.take i)).length + 1)) + 1 from by omega, List.replicate_succ]
  rw [show (rm (s.take i)).length = ((rm (s.take i)).map AV.u8).length from (List.length_map ..).symm, List.set_append_right _ _ (Nat.le_refl _), Nat.sub_self, List.length_map]
  simp
theorem bufV_same (s : List UInt8) (i : Nat) (hi : rm (s.take (i + 1)) = rm (s.take i)) : bufV s (i + 1) = bufV s i := by
  unfold bufV; rw [hi]
theorem bufV_zero (s : List UInt8) : bufV s 0 = List.replicate (rm s).length (AV.lit (.int .u8 0)) := by
  unfold bufV; simp [rm]
theorem bufV_end (s : List UInt8) : bufV s s.length = (rm s).map AV.u8 := by
  unfold bufV; rw [List.take_length]; simp
theorem rm_step (s : List UInt8) (i : Nat) (h : i < s.length) : (gone (s.getD i 0) = true ∧ rm (s.take (i + 1)) = rm (s.take i)) ∨ (gone (s.getD i 0) = false ∧ rm (s.take (i + 1)) = rm (s.take i) ++ [s.getD i 0]) := by
  have := rm_take s i h
  cases hg : gone (s.getD i 0)
  · rw [hg] at this; exact .inr ⟨rfl, this⟩
  · rw [hg] at this; exact .inl ⟨rfl, by simpa using this⟩
theorem rm_take_len (s : List UInt8) (i : Nat) : (rm (s.take i)).length ≤ i := by
  have := rm_len (s.take i); rw [List.length_take] at this; omega
end Url
end Go.Vl
end

section
set_option linter.unusedVariables false
set_option linter.unusedSimpArgs false
namespace Go.Vl.Opn
/-- an object: an element or a text, with the places of its parts -/
structure Ob where
  elem : Bool
  name : List UInt8
  attrs : List Dc
  text : List UInt8
  parts : List Nat
abbrev dO : Ob := ⟨false, [], [], [], []⟩
/-- the builder: all objects (the root first), the places of those that are open, how many nodes -/
structure Bd where
  obs : List Ob
  stk : List Nat
  cnt : Nat
abbrev nm_p : List UInt8 := [112]
abbrev nm_li : List UInt8 := [108, 105]
abbrev nm_ul : List UInt8 := [117, 108]
abbrev nm_ol : List UInt8 := [111, 108]
abbrev blocks : List (List UInt8) := [[112], [100, 105, 118], [117, 108], [111, 108], [108, 105], [104, 49], [104, 50], [116, 97, 98, 108, 101], [98, 108, 111, 99, 107, 113, 117, 111, 116, 101]]
abbrev voids : List (List UInt8) := [[98, 114], [104, 114], [105, 109, 103], [105, 110, 112, 117, 116]]
abbrev mutes : List (List UInt8) := [[115, 99, 114, 105, 112, 116], [115, 116, 121, 108, 101]]
namespace Bd
def nameAt (S : Bd) (i : Nat) : List UInt8 := (S.obs.getD (S.stk.getD i 0) dO).name
/-- the last open element of a name at or below a place; 0: none -/
def findI (S : Bd) (nm : List UInt8) : Nat → Nat
  | 0 => 0
  | i + 1 => if S.nameAt (i + 1) = nm then i + 1 else S.findI nm i
def find (S : Bd) (nm : List UInt8) : Nat := S.findI nm (S.stk.length - 1)
def closeAt (S : Bd) (i : Nat) : Bd := if 0 < i then { S with stk := S.stk.take i } else S
def last (S : Bd) : Nat := S.stk.getD (S.stk.length - 1) 0
/-- a new part of the last open object -/
def addPart (S : Bd) (o : Ob) : Bd :=
  let a := S.obs.getD S.last dO
  { S with obs := S.obs.set S.last { a with parts := a.parts ++ [S.obs.length] } ++ [o], cnt := S.cnt + 1 }
def start1 (S : Bd) (nm : List UInt8) : Bd := if blocks.any (fun b => nm == b) then S.closeAt (S.find nm_p) else S
def start2 (S : Bd) (nm : List UInt8) : Bd := if nm = nm_li ∧ S.find nm_ul < S.find nm_li ∧ S.find nm_ol < S.find nm_li then S.closeAt (S.find nm_li) else S
def start (S : Bd) (t : Tk) : Bd :=
  let S := (S.start1 t.name).start2 t.name
  if 10 < S.stk.length then S
  else
    let S' := S.addPart ⟨true, t.name, t.attrs, [], []⟩
    if !t.self && !(voids.any fun b => t.name == b) then { S' with stk := S'.stk ++ [S.obs.length] } else S'
def chars (S : Bd) (s : List UInt8) : Bd :=
  let a := S.obs.getD S.last dO
  if a.elem && mutes.any (fun m => a.name == m) || s == [] then S
  else
    let k := a.parts.getD (a.parts.length - 1) 0
    let o := S.obs.getD k dO
    if a.parts ≠ [] ∧ o.elem = false then { S with obs := S.obs.set k { o with text := o.text ++ s } }
    else S.addPart ⟨false, [], [], s, []⟩
/-- kinds: 1 start, 2 end, 3 chars, 4 a remark -/
def step (S : Bd) (t : Tk) : Bd :=
  if t.kind = 1 then S.start t else if t.kind = 2 then S.closeAt (S.find t.name) else if t.kind = 3 then S.chars t.text else S
def root : Bd := ⟨[dO], [0], 0⟩
/-- no object bears the name -/
def noName (S : Bd) (nm : List UInt8) : Prop := ∀ o ∈ S.obs, o.name ≠ nm
theorem getD_mem_or {α : Type} (l : List α) (i : Nat) (d : α) : l.getD i d ∈ l ∨ l.getD i d = d := by
  rcases Nat.lt_or_ge i l.length with h | h
  · left; rw [List.getD_eq_getElem?_getD, List.getElem?_eq_getElem h]; exact List.getElem_mem h
  · right; rw [List.getD_eq_getElem?_getD, List.getElem?_eq_none h]; rfl
theorem noName.at {S : Bd} {nm : List UInt8} (h : S.noName nm) (hn : nm ≠ []) (i : Nat) : (S.obs.getD i dO).name ≠ nm := by
  rcases getD_mem_or S.obs i dO with h' | h'
  · exact h _ h'
  · rw [h']; exact fun e => hn e.symm
theorem noName.find {S : Bd} {nm : List UInt8} (h : S.noName nm) (hn : nm ≠ []) : S.find nm = 0 := by
  have key : ∀ i, S.findI nm i = 0 := by
    intro i
    induction i with
    | zero => rfl
    | succ i ih => rw [findI, if_neg (show S.nameAt (i + 1) ≠ nm from h.at hn _), ih]
  exact key _
theorem noName.close {S : Bd} {nm : List UInt8} (h : S.noName nm) (i : Nat) : (S.closeAt i).noName nm := by
  unfold closeAt; split <;> exact h
theorem noName.set {S : Bd} {nm : List UInt8} (h : S.noName nm) (hn : nm ≠ []) (i : Nat) (o : Ob) (ho : o.name = (S.obs.getD i dO).name) : ∀ q ∈ S.obs.set i o, q.name ≠ nm := by
  intro q hq
  rcases List.mem_or_eq_of_mem_set hq with hq | rfl
  · exact h q hq
  · rw [ho]; exact h.at hn i
theorem noName.add {S : Bd} {nm : List UInt8} (h : S.noName nm) (hn : nm ≠ []) (o : Ob) (ho : o.name ≠ nm) : (S.addPart o).noName nm := by
  intro q hq
  rcases List.mem_append.1 hq with hq | hq
  · exact h.set hn S.last { S.obs.getD S.last dO with parts := (S.obs.getD S.last dO).parts ++ [S.obs.length] } rfl q hq
  · rw [List.mem_singleton.1 hq]; exact ho
theorem noName.start {S : Bd} {nm : List UInt8} (h : S.noName nm) (hn : nm ≠ []) (t : Tk) (ht : t.name ≠ nm) : (S.start t).noName nm := by
  have h1 : (S.start1 t.name).noName nm := by unfold start1; split; exact h.close _; exact h
  have h2 : ((S.start1 t.name).start2 t.name).noName nm := by unfold start2; split; exact h1.close _; exact h1
  unfold Bd.start
  dsimp only
  split
  · exact h2
  · split
    · exact h2.add hn _ ht
    · exact h2.add hn _ ht
theorem noName.chars {S : Bd} {nm : List UInt8} (h : S.noName nm) (hn : nm ≠ []) (s : List UInt8) : (S.chars s).noName nm := by
  unfold Bd.chars
  dsimp only
  split
  · exact h
  · split
    · exact h.set hn _ _ rfl
    · exact h.add hn _ (fun e => hn e.symm)
theorem noName.step {S : Bd} {nm : List UInt8} (h : S.noName nm) (hn : nm ≠ []) (t : Tk) (ht : t.name ≠ nm) : (S.step t).noName nm := by
  unfold Bd.step
  split
  · exact h.start hn t ht
  · split
    · exact h.close _
    · split
      · exact h.chars hn _
      · exact h
/-- the nodes of what is within an object (fuel: how deep) -/
def nds (obs : List Ob) : Nat → Nat → List Nd
  | 0, _ => []
  | f + 1, j => (obs.getD j dO).parts.map fun i =>
    let o := obs.getD i dO
    if o.elem then Nd.mk o.name o.attrs [] (nds obs f i) else Nd.mk [] [] o.text []
end Bd
end Go.Vl.Opn
end

section
set_option linter.unusedVariables false
set_option linter.unusedSimpArgs false
namespace Go.Vl.Opn
/-- an object and where it lies: its box, its node's box, its row of parts -/
structure Oc where
  o : Ob
  b : Nat
  n : Nat
  v : Value
abbrev ptr (b : Nat) : AV := .lit (.pointer (some ⟨b, 0, none⟩))
abbrev obox (TO : Nat) (c : Oc) : ME := .box c.b TO [if c.o.elem then ptr c.n else .lit (.pointer none), .lit c.v, .str c.o.text, .bool c.o.elem]
abbrev orow (E : Nat) (bs : Nat → Nat) (c : Oc) : ME := .arr c.v E 1 (c.o.parts.map fun i => ptr (bs i))
abbrev onode (TN : Nat) (c : Oc) : ME := if c.o.elem then .box c.n TN [.str c.o.name, .sl 2 (c.o.attrs.map dav), .str [], .lit (.slice none 0 0)] else .arr (.slice none 0 0) TN 4 []
def ents (TO TN E : Nat) (bs : Nat → Nat) (c : Oc) : List ME := [obox TO c, orow E bs c, onode TN c]
def mem (TO TN E : Nat) (bs : Nat → Nat) (cs : List Oc) : List ME := cs.flatMap (ents TO TN E bs)
section
variable {TO TN E : Nat} {bs : Nat → Nat}
theorem mem_cons (c : Oc) (cs : List Oc) : mem TO TN E bs (c :: cs) = obox TO c :: orow E bs c :: onode TN c :: mem TO TN E bs cs := rfl
theorem mem_append (cs ds : List Oc) : mem TO TN E bs (cs ++ ds) = mem TO TN E bs cs ++ mem TO TN E bs ds := List.flatMap_append
end
end Go.Vl.Opn
namespace Go.Vl
theorem St.cutrow {x : Cx} {L : List (Tmp × Bool × AV)} {M1 M2 : List ME} {a : Option Addr} {n c m T k : Nat} {es : List AV} {ac : Act} {w : World} (hm : m ≤ es.length) (hs : St x L (M1 ++ .arr (.slice a n c) T k es :: M2) ac w) :
    St x L (M1 ++ .arr (.slice a m c) T k (es.take m) :: M2) ac w := by
  have hbl : bl (M1 ++ .arr (.slice a m c) T k (es.take m) :: M2) = bl (M1 ++ .arr (.slice a n c) T k es :: M2) := by
    cases a <;> simp [bl, ME.blks]
  refine ⟨hs.defers, hs.size, fun t g av hl => by rw [hbl]; exact hs.slots t g av hl, ⟨by rw [hbl]; exact hs.mem.nodup, by rw [hbl]; exact hs.mem.apart, ?_⟩, by rw [hbl]; exact hs.fr, hs.old⟩
  intro e he
  rw [hbl]
  have hold : ∀ e, e ∈ M1 ++ .arr (.slice a n c) T k es :: M2 → e.holds w (bl (M1 ++ .arr (.slice a n c) T k es :: M2) ++ x.F) := fun e he => hs.mem.holds e he
  rcases List.mem_append.1 he with he | he
  · exact hold e (List.mem_append_left _ he)
  · rcases List.mem_cons.1 he with rfl | he
    · obtain ⟨a', cap, hv, h1, h2, h3⟩ := hold _ (List.mem_append_right _ List.mem_cons_self)
      injection hv with e1 e2 e3
      subst e1 e3
      have hl : (es.take m).length = m := by rw [List.length_take]; omega
      refine ⟨a, c, by rw [hl], by rw [hl]; omega, h2, ?_⟩
      rcases h3 with h3 | ⟨g, off, cur, lo, hi, ha, hg, hsz, hfr, he⟩
      · exact .inl h3
      · exact .inr ⟨g, off, cur, lo, hi, ha, hg, hsz, hfr, he.take m⟩
    · exact hold e (List.mem_append_right _ (List.mem_cons_of_mem _ he))
/-- an own row of which the rear is let go -/
theorem W.cutrow {x : Cx} {L : List (Tmp × Bool × AV)} {M1 M2 : List ME} {a : Option Addr} {n c m T k : Nat} {es : List AV} {R : Act → World → Prop} (hm : m ≤ es.length)
    (next : W x L (M1 ++ .arr (.slice a m c) T k (es.take m) :: M2) R) : W x L (M1 ++ .arr (.slice a n c) T k es :: M2) R := fun ac w hs => next ac w (hs.cutrow hm)
end Go.Vl
end

section
set_option linter.unusedVariables false
set_option linter.unusedSimpArgs false
namespace Go.Vl
namespace Lk
section
variable (ns sc : List (List UInt8))
/-- is an attribute to be taken out? -/
def bad (a : Dc) : Bool := (ns.any fun s => a.1 == s) && !(Url.of a.2 sc)
def lkA (l : List Dc) : List Dc := l.filter fun a => !(bad ns sc a)
mutual
def lk : Nd → Nd
  | .mk n a t p => .mk n (lkA ns sc a) t (lks p)
def lks : List Nd → List Nd
  | [] => []
  | d :: l => lk d :: lks l
end
theorem lk_eq (d : Nd) : lk ns sc d = .mk d.name (lkA ns sc d.attrs) d.text (lks ns sc d.parts) := by cases d; rfl
theorem lks_append (l m : List Nd) : lks ns sc (l ++ m) = lks ns sc l ++ lks ns sc m := by
  induction l with
  | nil => rfl
  | cons d l ih => rw [List.cons_append, lks, lks, ih]; rfl
theorem lks_snoc (l : List Nd) (i : Nat) (h : i < l.length) : lks ns sc (l.take (i + 1)) = lks ns sc (l.take i) ++ [lk ns sc (l.getD i Nd.dflt)] := by
  rw [take_getDG Nd.dflt l i h, lks_append]; rfl
theorem lks_len (l : List Nd) : (lks ns sc l).length = l.length := by
  induction l with
  | nil => rfl
  | cons d l ih => rw [lks, List.length_cons, List.length_cons, ih]
theorem lkA_idem (l : List Dc) : lkA ns sc (lkA ns sc l) = lkA ns sc l := by
  unfold lkA; rw [List.filter_filter]; simp
mutual
theorem lk_idem : ∀ d : Nd, lk ns sc (lk ns sc d) = lk ns sc d
  | .mk n a t p => by simp only [lk]; rw [lkA_idem, lks_idem p]
theorem lks_idem : ∀ l : List Nd, lks ns sc (lks ns sc l) = lks ns sc l
  | [] => rfl
  | d :: l => by simp only [lks]; rw [lk_idem d, lks_idem l]
end
mutual
theorem lk_wd : ∀ d : Nd, (lk ns sc d).wd = d.wd ∧ (lk ns sc d).text = d.text
  | .mk n a t p => by simp only [lk, Nd.wd]; exact ⟨lks_wds p, rfl⟩
theorem lks_wds : ∀ l : List Nd, Nd.wds (lks ns sc l) = Nd.wds l
  | [] => rfl
  | d :: l => by simp only [lks, Nd.wds]; rw [(lk_wd d).1, (lk_wd d).2, lks_wds l]
end
theorem lks_tszs (l : List Nd) : Nd.tszs (lks ns sc l) = Nd.tszs l := by rw [← Nd.wds_len, lks_wds, Nd.wds_len]
mutual
theorem lk_sz : ∀ d : Nd, (lk ns sc d).sz ≤ d.sz
  | .mk n a t p => by
    simp only [lk, Nd.sz]
    have := lks_szs p
    have h2 : (lkA ns sc a).length ≤ a.length := List.length_filter_le _ _
    omega
theorem lks_szs : ∀ l : List Nd, Nd.szs (lks ns sc l) ≤ Nd.szs l
  | [] => Nat.le_refl _
  | d :: l => by
    simp only [lks, Nd.szs]
    have h1 := lk_sz d
    have h2 := lks_szs l
    omega
end
mutual
/-- all that is left is safe -/
def sf : Nd → Prop
  | .mk _ a _ p => (∀ x ∈ a, bad ns sc x = false) ∧ sfs p
def sfs : List Nd → Prop
  | [] => True
  | d :: l => sf d ∧ sfs l
end
theorem sf_eq (d : Nd) : sf ns sc d ↔ (∀ x ∈ d.attrs, bad ns sc x = false) ∧ sfs ns sc d.parts := by cases d; rfl
theorem sfs_mem {l : List Nd} (h : sfs ns sc l) : ∀ d ∈ l, sf ns sc d := by
  induction l with
  | nil => simp
  | cons e l ih =>
    intro d hd
    rcases List.mem_cons.1 hd with rfl | hd
    · exact h.1
    · exact ih h.2 d hd
mutual
theorem lk_sf : ∀ d : Nd, sf ns sc (lk ns sc d)
  | .mk n a t p => by
    simp only [lk, sf]
    refine ⟨fun x hx => ?_, lks_sfs p⟩
    have := (List.mem_filter.1 hx).2
    simpa using this
theorem lks_sfs : ∀ l : List Nd, sfs ns sc (lks ns sc l)
  | [] => trivial
  | d :: l => ⟨lk_sf d, lks_sfs l⟩
end
end
section
variable (B : Nat)
mutual
/-- values are short -/
def vok : Nd → Prop
  | .mk _ a _ p => (∀ x ∈ a, x.2.length ≤ B) ∧ voks p
def voks : List Nd → Prop
  | [] => True
  | d :: l => vok d ∧ voks l
end
theorem vok_eq (d : Nd) : vok B d ↔ (∀ x ∈ d.attrs, x.2.length ≤ B) ∧ voks B d.parts := by cases d; rfl
theorem voks_mem {l : List Nd} (h : voks B l) : ∀ d ∈ l, vok B d := by
  induction l with
  | nil => simp
  | cons e l ih =>
    intro d hd
    rcases List.mem_cons.1 hd with rfl | hd
    · exact h.1
    · exact ih h.2 d hd
mutual
theorem lk_vok (ns sc : List (List UInt8)) : ∀ d : Nd, vok B d → vok B (lk ns sc d)
  | .mk n a t p, h => ⟨fun x hx => h.1 x (List.mem_filter.1 hx).1, lks_voks ns sc p h.2⟩
theorem lks_voks (ns sc : List (List UInt8)) : ∀ l : List Nd, voks B l → voks B (lks ns sc l)
  | [], _ => trivial
  | d :: l, h => ⟨lk_vok ns sc d h.1, lks_voks ns sc l h.2⟩
end
theorem drs_voks (hB : 100 ≤ B) : ∀ (n : Nat) (k : Nat) (p : Bool) (l : List Nd), Nd.szs l ≤ n → Nd.drs k p l → voks B l
  | n, k, p, [], _, _ => trivial
  | 0, k, p, d :: l, hn, _ => by rw [Nd.szs, Nd.sz_eq] at hn; omega
  | n + 1, k, p, d :: l, hn, h => by
    rw [Nd.szs, Nd.sz_eq] at hn
    obtain ⟨h1, h2, h3⟩ := h
    refine ⟨(vok_eq B d).2 ?_, drs_voks hB n k _ l (by omega) h3⟩
    rw [Nd.dr_eq] at h2
    rcases h2 with ⟨b1, b2, b3, b4⟩ | ⟨b1, b2, b3, b4⟩ | ⟨b1, b2, b3, b4, b5, b6⟩
    · rw [b2, b4]; exact ⟨by simp, trivial⟩
    · rw [b2, b4]; exact ⟨by simp, trivial⟩
    · refine ⟨?_, drs_voks hB n _ _ d.parts (by omega) b5⟩
      rcases b2 with b2 | ⟨v, hv, b2⟩
      · rw [b2]; simp
      · rw [b2]
        intro x hx
        rw [List.mem_singleton.1 hx]
        have := (by decide : ∀ v ∈ Nd.vl5, v.length ≤ 100) v hv
        show v.length ≤ B
        omega
end
end Lk
/-- a node, and where the row of its attributes lies -/
inductive Nm
  | mk (name : List UInt8) (v : Value) (attrs : List Dc) (text : List UInt8) (parts : List Nm)
namespace Nm
def name : Nm → List UInt8 | mk n _ _ _ _ => n
def v : Nm → Value | mk _ v _ _ _ => v
def attrs : Nm → List Dc | mk _ _ a _ _ => a
def text : Nm → List UInt8 | mk _ _ _ t _ => t
def parts : Nm → List Nm | mk _ _ _ _ p => p
abbrev dflt : Nm := mk [] .nilFunc [] [] []
mutual
def nd : Nm → Nd
  | mk n _ a t p => Nd.mk n a t (nds p)
def nds : List Nm → List Nd
  | [] => []
  | d :: l => nd d :: nds l
end
mutual
def av : Nm → AV
  | mk n v _ t p => .agg [.str n, .lit v, .str t, .sl 4 (avs p)]
def avs : List Nm → List AV
  | [] => []
  | d :: l => av d :: avs l
end
abbrev avx (d : Nm) : AV := .agg [.str d.name, .lit d.v, .str d.text, .sl 4 (avs d.parts)]
theorem av_eq (d : Nm) : d.av = avx d := by cases d; rfl
theorem avs_map (l : List Nm) : avs l = l.map av := by
  induction l with
  | nil => rfl
  | cons d l ih => rw [avs, ih]; rfl
theorem avs_append (l m : List Nm) : avs (l ++ m) = avs l ++ avs m := by rw [avs_map, avs_map, avs_map, List.map_append]
theorem avs_len (l : List Nm) : (avs l).length = l.length := by rw [avs_map, List.length_map]
theorem nds_append (l m : List Nm) : nds (l ++ m) = nds l ++ nds m := by
  induction l with
  | nil => rfl
  | cons d l ih => rw [List.cons_append, nds, nds, ih]; rfl
mutual
/-- the own rows -/
def mem (A : Nat) : Nm → List ME
  | mk _ v a _ p => .arr v A 2 (a.map dav) :: mems A p
def mems (A : Nat) : List Nm → List ME
  | [] => []
  | d :: l => mem A d ++ mems A l
end
theorem mem_eq (A : Nat) (d : Nm) : mem A d = .arr d.v A 2 (d.attrs.map dav) :: mems A d.parts := by cases d; rfl
theorem mems_append (A : Nat) (l m : List Nm) : mems A (l ++ m) = mems A l ++ mems A m := by
  induction l with
  | nil => rfl
  | cons d l ih => rw [List.cons_append, mems, mems, ih, List.append_assoc]
mutual
/-- how many attributes -/
def cnt : Nm → Nat
  | mk _ _ a _ p => a.length + cnts p
def cnts : List Nm → Nat
  | [] => 0
  | d :: l => cnt d + cnts l
end
theorem cnt_eq (d : Nm) : cnt d = d.attrs.length + cnts d.parts := by cases d; rfl
theorem cnts_append (l m : List Nm) : cnts (l ++ m) = cnts l + cnts m := by
  induction l with
  | nil => rw [List.nil_append, cnts, Nat.zero_add]
  | cons d l ih => rw [List.cons_append, cnts, cnts, ih]; omega
section
variable (vs : List (List UInt8))
/-- a value in place of one that stands there -/
abbrev put (k : Nat) (a : Dc) : Dc := (a.1, if k < vs.length then vs.getD k [] else a.2)
def setA : Nat → List Dc → List Dc
  | _, [] => []
  | k, a :: l => put vs k a :: setA (k + 1) l
theorem setA_append : ∀ (l m : List Dc) (k : Nat), setA vs k (l ++ m) = setA vs k l ++ setA vs (k + l.length) m
  | [], m, k => rfl
  | a :: l, m, k => by
    rw [List.cons_append, setA, setA, setA_append l m (k + 1), List.length_cons, show k + 1 + l.length = k + (l.length + 1) from by omega]; rfl
theorem setA_len : ∀ (l : List Dc) (k : Nat), (setA vs k l).length = l.length
  | [], k => rfl
  | a :: l, k => by rw [setA, List.length_cons, List.length_cons, setA_len l (k + 1)]
mutual
def set : Nat → Nm → Nm
  | k, mk n v a t p => mk n v (setA vs k a) t (sets (k + a.length) p)
def sets : Nat → List Nm → List Nm
  | _, [] => []
  | k, d :: l => set k d :: sets (k + cnt d) l
end
theorem set_eq (k : Nat) (d : Nm) : set vs k d = mk d.name d.v (setA vs k d.attrs) d.text (sets vs (k + d.attrs.length) d.parts) := by cases d; rfl
theorem sets_append : ∀ (l m : List Nm) (k : Nat), sets vs k (l ++ m) = sets vs k l ++ sets vs (k + cnts l) m
  | [], m, k => rfl
  | d :: l, m, k => by
    rw [List.cons_append, sets, sets, sets_append l m, cnts, show k + cnt d + cnts l = k + (cnt d + cnts l) from by omega]; rfl
mutual
theorem set_av : ∀ (d : Nm) (k : Nat), av (set vs k d) = av d
  | mk n v a t p, k => by simp only [set, av]; rw [sets_avs p]
theorem sets_avs : ∀ (l : List Nm) (k : Nat), avs (sets vs k l) = avs l
  | [], k => rfl
  | d :: l, k => by simp only [sets, avs]; rw [set_av d, sets_avs l]
end
mutual
theorem set_nd : ∀ (d : Nm) (k : Nat), (nd (set vs k d)).sz = (nd d).sz ∧ (nd (set vs k d)).tsz = (nd d).tsz
  | mk n v a t p, k => by
    have h := sets_nds p (k + a.length)
    simp only [set, nd, Nd.sz, Nd.tsz]
    rw [setA_len, h.1, h.2]; exact ⟨rfl, rfl⟩
theorem sets_nds : ∀ (l : List Nm) (k : Nat), Nd.szs (nds (sets vs k l)) = Nd.szs (nds l) ∧ Nd.tszs (nds (sets vs k l)) = Nd.tszs (nds l)
  | [], k => ⟨rfl, rfl⟩
  | d :: l, k => by
    have h1 := set_nd d k
    have h2 := sets_nds l (k + cnt d)
    simp only [sets, nds, Nd.szs, Nd.tszs]
    rw [h1.1, h1.2, h2.1, h2.2]; exact ⟨rfl, rfl⟩
end
theorem setA_vok (B : Nat) (hv : ∀ s ∈ vs, s.length ≤ B) : ∀ (l : List Dc) (k : Nat), (∀ x ∈ l, x.2.length ≤ B) → ∀ x ∈ setA vs k l, x.2.length ≤ B
  | [], k, _, x, hx => by cases hx
  | a :: l, k, h, x, hx => by
    rcases List.mem_cons.1 hx with rfl | hx
    · show (if k < vs.length then vs.getD k [] else a.2).length ≤ B
      split
      · rename_i hk
        exact hv _ (getD_memG [] vs k hk)
      · exact h a List.mem_cons_self
    · exact setA_vok B hv l (k + 1) (fun y hy => h y (List.mem_cons_of_mem _ hy)) x hx
mutual
theorem set_vok (B : Nat) (hv : ∀ s ∈ vs, s.length ≤ B) : ∀ (d : Nm) (k : Nat), Lk.vok B (nd d) → Lk.vok B (nd (set vs k d))
  | mk n v a t p, k, h => ⟨setA_vok vs B hv a k h.1, sets_voks B hv p _ h.2⟩
theorem sets_voks (B : Nat) (hv : ∀ s ∈ vs, s.length ≤ B) : ∀ (l : List Nm) (k : Nat), Lk.voks B (nds l) → Lk.voks B (nds (sets vs k l))
  | [], k, _ => trivial
  | d :: l, k, h => ⟨set_vok B hv d k h.1, sets_voks B hv l _ h.2⟩
end
end
end Nm
/-! ### what was own is written no more, deep down -/
section
variable {w : World} {N N' : List Nat} {A : Nat}
theorem arr_sl {v : Value} {k : Nat} {es : List AV} (hk : Keep w N w N') (h : ME.holds w N (.arr v A k es)) (hb : ∀ b ∈ bl [ME.arr v A k es], b ∉ N') : Rep w N' (.sl k es) v := by
  obtain ⟨ad, cap, e, h1, h2, h3⟩ := h
  rw [e]
  refine Rep.slI h1 h2 ?_
  rcases h3 with ⟨_, hc⟩ | ⟨g, off, cur, lo, hi, rfl, hc, _, _, hE⟩
  · left; exact List.eq_nil_of_length_eq_zero (by omega)
  · refine .inr ⟨g, off, cur, A, (lo, hi), rfl, ?_, hc, RepE.keep hk _ _ _ hE⟩
    exact hb g (by subst e; simp [Vl.bl, ME.blks])
mutual
theorem frzC (hk : Keep w N w N') : ∀ (d : Nm), (∀ m ∈ Nm.mem A d, m.holds w N) → (∀ b ∈ bl (Nm.mem A d), b ∉ N') → ∀ row, RepC w N d.av row → RepC w N' d.nd.av row
  | .mk n v a t p, hh, hb, row, h => by
    have hb' : bl (Nm.mem A (.mk n v a t p)) = bl [ME.arr v A 2 (a.map dav)] ++ bl (Nm.mems A p) := by rw [Nm.mem]; simp [Vl.bl]
    have hv : Rep w N' (.sl 2 (a.map dav)) v := arr_sl hk (hh _ (by rw [Nm.mem]; exact List.mem_cons_self)) (fun b h' => hb b (by rw [hb']; exact List.mem_append_left _ h'))
    obtain ⟨ad, cap, e, _⟩ := hh (.arr v A 2 (a.map dav)) (by rw [Nm.mem]; exact List.mem_cons_self)
    simp only [Nm.av, RepC, RepL] at h
    obtain ⟨v0, r0, e0, h0, v1, r1, e1, h1, v2, r2, e2, h2, v3, r3, e3, h3, e4⟩ := h
    subst e0 e1 e2 e3 e4
    simp only [Nm.nd, Nd.av, RepC, RepL]
    have hv1 : v1 = v := by
      have := h1.2.2
      rw [e] at this ⊢
      exact (List.cons.inj this).1
    subst hv1
    refine ⟨v0, _, rfl, h0, v1, _, rfl, ⟨rfl, h1.2.1, ?_⟩, v2, _, rfl, h2, v3, _, rfl, ⟨h3.1, h3.2.1, ?_⟩, rfl⟩
    · have h4 := hv.2
      rw [e] at h4 ⊢
      exact h4
    · obtain ⟨a3, cap3, f1, f2, f3, f4⟩ := h3.2.2
      have hl : (Nd.avs (Nm.nds p)).length = (Nm.avs p).length := by
        rw [Nd.avs_map, List.length_map, Nm.avs_len]
        clear hh hb hb' h3 f1 f2 f4
        induction p with
        | nil => rfl
        | cons d l ih => rw [Nm.nds, List.length_cons, List.length_cons, ih]
      refine ⟨a3, cap3, by rw [hl]; exact f1, by rw [hl]; exact f2, f3, ?_⟩
      rcases f4 with f4 | ⟨b, off, cur, T, fr, g1, g2, g3, g4⟩
      · left; exact List.eq_nil_of_length_eq_zero (by rw [hl, f4]; rfl)
      · obtain ⟨k1, k2⟩ := hk _ _ _ _ g2 g3
        exact .inr ⟨b, off, cur, T, fr, g1, k1, k2, frzE hk p (fun m hm => hh m (by rw [Nm.mem]; exact List.mem_cons_of_mem _ hm)) (fun b h' => hb b (by rw [hb']; exact List.mem_append_right _ h')) _ g4⟩
theorem frzE (hk : Keep w N w N') : ∀ (l : List Nm), (∀ m ∈ Nm.mems A l, m.holds w N) → (∀ b ∈ bl (Nm.mems A l), b ∉ N') → ∀ row, RepE w N 4 (Nm.avs l) row → RepE w N' 4 (Nd.avs (Nm.nds l)) row
  | [], hh, hb, row, h => by simp only [Nm.nds, Nd.avs, RepE]
  | d :: l, hh, hb, row, h => by
    have hb' : bl (Nm.mems A (d :: l)) = bl (Nm.mem A d) ++ bl (Nm.mems A l) := by rw [Nm.mems]; simp [Vl.bl]
    simp only [Nm.avs, RepE] at h
    simp only [Nm.nds, Nd.avs, RepE]
    exact ⟨h.1, frzC hk d (fun m hm => hh m (by rw [Nm.mems]; exact List.mem_append_left _ hm)) (fun b h' => hb b (by rw [hb']; exact List.mem_append_left _ h')) _ h.2.1,
      frzE hk l (fun m hm => hh m (by rw [Nm.mems]; exact List.mem_append_right _ hm)) (fun b h' => hb b (by rw [hb']; exact List.mem_append_right _ h')) _ h.2.2⟩
end
end
theorem Nm.nds_len (l : List Nm) : (Nm.nds l).length = l.length := by
  induction l with
  | nil => rfl
  | cons d l ih => rw [Nm.nds, List.length_cons, List.length_cons, ih]
/-- A TREE OF WHICH THE ATTRIBUTES WERE OWN ROWS IS WRITTEN NO MORE -/
theorem W.freezeD {x : Cx} {L : List (Tmp × Bool × AV)} {M M' : List ME} {R : Act → World → Prop} {t A : Nat} (ms : List Nm) (hM : List.Perm M (M' ++ Nm.mems A ms)) (hL : look L t = some (true, .sl 4 (Nm.avs ms))) (h : W x ((t, true, .sl 4 ((Nm.nds ms).map Nd.av)) :: L) M' R) : W x L M R := by
  intro a w hs
  obtain ⟨hmem, hk, hsub⟩ := hs.mem.sub hM
  have hpb := bl_perm hM
  rw [bl_append] at hpb
  have hnd := hpb.nodup_iff.1 hs.mem.nodup
  have hb : ∀ b ∈ bl (Nm.mems A ms), b ∉ bl M' ++ x.F := fun b hb hin => by
    rcases List.mem_append.1 hin with hin | hin
    · exact (List.nodup_append.1 hnd).2.2 b hin b hb rfl
    · exact hs.mem.apart b (hpb.mem_iff.2 (List.mem_append_right _ hb)) hin
  refine h a w ⟨hs.defers, hs.size, ?_, hmem, hs.fr.sub hsub, hs.old⟩
  intro t' g av hl
  rw [look_cons] at hl
  by_cases he : t = t'
  · rw [if_pos he] at hl
    obtain ⟨rfl, rfl⟩ := Prod.mk.inj (Option.some.inj hl)
    subst he
    have h0 := hs.slots t true _ hL
    refine ⟨fun hg => ?_, h0.2⟩
    have h1 := h0.1 hg
    refine ⟨h1.1, ?_⟩
    have h2 := h1.2
    simp only [RepC] at h2 ⊢
    obtain ⟨a3, cap3, f1, f2, f3, f4⟩ := h2
    have hl2 : ((Nm.nds ms).map Nd.av).length = (Nm.avs ms).length := by rw [List.length_map, Nm.nds_len, Nm.avs_len]
    refine ⟨a3, cap3, by rw [hl2]; exact f1, by rw [hl2]; exact f2, f3, ?_⟩
    rcases f4 with f4 | ⟨b, off, cur, T, fr, g1, g2, g3, g4⟩
    · left; exact List.eq_nil_of_length_eq_zero (by rw [hl2, f4]; rfl)
    · obtain ⟨k1, k2⟩ := hk _ _ _ _ g2 g3
      rw [← Nd.avs_map]
      exact .inr ⟨b, off, cur, T, fr, g1, k1, k2, frzE hk ms (fun m hm => hs.mem.holds m (hM.mem_iff.2 (List.mem_append_right _ hm))) hb _ g4⟩
  · rw [if_neg he] at hl
    have := hs.slots t' g av hl
    exact ⟨fun hg => (this.1 hg).keep hk, this.2⟩
end Go.Vl
namespace Go.Vl
namespace Nm
theorem perm_copied (a b c : ME) (P Q : List ME) : List.Perm (a :: b :: c :: (P ++ Q)) ((c :: (P ++ (a :: (Q ++ [])))) ++ [b]) := by
  rw [List.append_nil]
  have h1 : List.Perm (P ++ a :: Q) (a :: (P ++ Q)) := List.perm_middle
  have h2 : List.Perm (c :: (P ++ a :: Q)) (c :: a :: (P ++ Q)) := h1.cons c
  have h3 : List.Perm ((c :: (P ++ a :: Q)) ++ [b]) ([b] ++ (c :: a :: (P ++ Q))) := (List.perm_append_comm).trans (h2.cons b)
  refine List.Perm.trans ?_ h3.symm
  show List.Perm (a :: b :: c :: (P ++ Q)) (b :: c :: a :: (P ++ Q))
  exact (List.Perm.swap _ _ _).trans ((List.Perm.swap _ _ _).cons _)
theorem perm_in (x a : ME) (P Q D : List ME) : List.Perm (x :: (P ++ ((a :: Q) ++ D))) (x :: a :: (P ++ (Q ++ D))) := List.perm_middle.cons x
theorem perm_call (x a : ME) (P Q D : List ME) : List.Perm (x :: a :: (P ++ (Q ++ D))) ((x :: Q) ++ (a :: (P ++ D))) := by
  refine List.Perm.cons x ?_
  have h1 : List.Perm (P ++ (Q ++ D)) (Q ++ (P ++ D)) := by
    rw [← List.append_assoc, ← List.append_assoc]; exact List.perm_append_comm.append_right D
  exact (h1.cons a).trans List.perm_middle.symm
theorem perm_out (x a : ME) (P Q D : List ME) : List.Perm ((x :: Q) ++ (a :: (P ++ D))) (x :: ((P ++ (a :: Q)) ++ D)) := by
  refine (perm_call x a P Q D).symm.trans (List.Perm.cons x ?_)
  rw [List.append_assoc]
  exact List.perm_middle.symm
theorem nds_getD (l : List Nm) (i : Nat) (h : i < l.length) : (avs l)[i]? = some (avx (l.getD i dflt)) := by
  rw [avs_map, getD_mapG av dflt l i h, av_eq]
theorem mems_drop (A : Nat) (l : List Nm) (i : Nat) (h : i < l.length) : mems A (l.drop i) = (.arr (l.getD i dflt).v A 2 ((l.getD i dflt).attrs.map dav) :: mems A (l.getD i dflt).parts) ++ mems A (l.drop (i + 1)) := by
  rw [drop_getDG dflt l i h, mems, mem_eq]
theorem mems_sets (A : Nat) (vs : List (List UInt8)) (k : Nat) (l : List Nm) (i : Nat) (h : i < l.length) : mems A (sets vs k (l.take (i + 1))) = mems A (sets vs k (l.take i)) ++ (.arr (l.getD i dflt).v A 2 ((setA vs (k + cnts (l.take i)) (l.getD i dflt).attrs).map dav) :: mems A (sets vs (k + cnts (l.take i) + (l.getD i dflt).attrs.length) (l.getD i dflt).parts)) := by
  rw [take_getDG dflt l i h, sets_append, mems_append]
  simp only [sets, mems, set_eq, mem, List.append_nil]
theorem cnts_take (l : List Nm) (i : Nat) (h : i < l.length) : cnts (l.take (i + 1)) = cnts (l.take i) + ((l.getD i dflt).attrs.length + cnts (l.getD i dflt).parts) := by
  rw [take_getDG dflt l i h, cnts_append]
  simp only [cnts, cnt_eq, Nat.add_zero]
theorem cnts_take_le (l : List Nm) (i : Nat) : cnts (l.take i) ≤ cnts l := by
  have := cnts_append (l.take i) (l.drop i); rw [List.take_append_drop] at this; omega
mutual
theorem cnt_sz : ∀ d : Nm, cnt d ≤ (nd d).sz
  | mk n v a t p => by
    have := cnts_szs p
    simp only [cnt, nd, Nd.sz]; omega
theorem cnts_szs : ∀ l : List Nm, cnts l ≤ Nd.szs (nds l)
  | [] => Nat.le_refl _
  | d :: l => by
    have h1 := cnt_sz d
    have h2 := cnts_szs l
    simp only [cnts, nds, Nd.szs]; omega
end
theorem sz_at (l : List Nm) (i : Nat) (h : i < l.length) : 1 + (l.getD i dflt).attrs.length + Nd.szs (nds (l.getD i dflt).parts) ≤ Nd.szs (nds l) := by
  have h1 : Nd.szs (nds l) = Nd.szs (nds (l.take i)) + ((nd (l.getD i dflt)).sz + Nd.szs (nds (l.drop (i + 1)))) := by
    conv => lhs; rw [← List.take_append_drop i l, drop_getDG dflt l i h, nds_append, Nd.szs_append]
    rfl
  have h2 : (nd (l.getD i dflt)).sz = 1 + (l.getD i dflt).attrs.length + Nd.szs (nds (l.getD i dflt).parts) := by
    generalize l.getD i dflt = d
    cases d; rfl
  omega
section
variable (vs : List (List UInt8))
/-- the row of attributes, while values are set -/
abbrev rowA (k j : Nat) (l : List Dc) : List AV := (setA vs k (l.take j) ++ l.drop j).map dav
theorem rowA_len (k j : Nat) (l : List Dc) (h : j ≤ l.length) : (rowA vs k j l).length = l.length := by
  rw [List.length_map, List.length_append, setA_len, List.length_take, List.length_drop]; omega
theorem rowA_get (k j : Nat) (l : List Dc) (h : j < l.length) : (rowA vs k j l)[j]? = some (dav (l.getD j ([], []))) := by
  have hl : (setA vs k (l.take j)).length = j := by rw [setA_len, List.length_take]; omega
  rw [rowA, List.getElem?_map, List.getElem?_append_right (by omega), hl, Nat.sub_self, drop_getDG ([], []) l j h]; rfl
theorem rowA_next (k j : Nat) (l : List Dc) (h : j < l.length) : rowA vs k (j + 1) l = (rowA vs k j l).set j (dav (put vs (k + j) (l.getD j ([], [])))) := by
  have hl : (setA vs k (l.take j)).length = j := by rw [setA_len, List.length_take]; omega
  have hlt : (l.take j).length = j := by rw [List.length_take]; omega
  unfold rowA
  rw [← List.map_set, List.set_append_right _ _ (by omega), hl, Nat.sub_self, drop_getDG ([], []) l j h, List.set_cons_zero, take_getDG ([], []) l j h, setA_append, hlt, setA, setA, List.append_assoc]
  rfl
theorem rowA_keep (k j : Nat) (l : List Dc) (h : j < l.length) (hk : ¬ k + j < vs.length) : rowA vs k (j + 1) l = rowA vs k j l := by
  rw [rowA_next vs k j l h]
  have h1 : put vs (k + j) (l.getD j ([], [])) = l.getD j ([], []) := by
    unfold put; rw [if_neg hk]
  rw [h1]
  exact List.ext_getElem? fun i => by
    rcases Decidable.em (j = i) with rfl | hij
    · rw [List.getElem?_set_self (by rw [rowA_len vs k j l (by omega)]; exact h), rowA_get vs k j l h]
    · rw [List.getElem?_set_ne hij]
theorem rowA_all (k : Nat) (l : List Dc) : rowA vs k l.length l = (setA vs k l).map dav := by
  unfold rowA; rw [List.take_length, List.drop_length, List.append_nil]
end
end Nm
end Go.Vl
namespace Go.Vl
theorem idxI_neg {α : Type} (p : α → Bool) (l : List α) (h : idxI p l = -1) : ∀ d ∈ l, p d = false := by
  have h1 := idxI_any p l
  rw [h] at h1
  have h2 : l.any p = false := h1.symm
  intro d hd
  have := List.any_eq_false.1 h2 d hd
  simpa using this
theorem idxI_before {α : Type} (p : α → Bool) : ∀ (l : List α), 0 ≤ idxI p l → ∀ d ∈ l.take (idxI p l).toNat, p d = false
  | [], h, d, hd => by simp at hd
  | a :: l, h, d, hd => by
    unfold idxI at h hd
    split at h
    · rename_i hp
      rw [if_pos hp] at hd
      exact absurd hd (by simp)
    · rename_i hp
      rw [if_neg hp] at hd
      split at h
      · omega
      · rename_i hn
        rw [if_neg hn, show (idxI p l + 1).toNat = (idxI p l).toNat + 1 from by omega, List.take_succ_cons] at hd
        rcases List.mem_cons.1 hd with rfl | hd
        · simpa using hp
        · exact idxI_before p l (by omega) d hd
theorem filter_all {α : Type} (q : α → Bool) (l : List α) (h : ∀ d ∈ l, q d = true) : l.filter q = l := List.filter_eq_self.2 h
theorem filter_idx (p : Dc → Bool) (l : List Dc) (h : 0 ≤ idxI p l) : l.take (idxI p l).toNat = (l.take ((idxI p l).toNat + 1)).filter (fun a => !(p a)) := by
  have hlt := idxI_lt p l
  have hat := idxI_at p (([], []) : Dc) l h
  rw [take_getDG ([], []) l (idxI p l).toNat (by omega), List.filter_append, filter_all _ _ (fun d hd => by rw [idxI_before p l h d hd]; rfl), List.filter_cons_of_neg (by rw [hat]; simp), List.filter_nil, List.append_nil]
section
variable {R l : List Dc} {q : Dc → Bool} {w j : Nat}
theorem del_keep (hw : w < j) (hj : j < l.length) (hR : R.length = l.length) (h1 : R.take w = (l.take j).filter q) (h2 : R.drop j = l.drop j) (hq : q (l.getD j ([], [])) = true) :
    (R.set w (l.getD j ([], []))).take (w + 1) = (l.take (j + 1)).filter q ∧ (R.set w (l.getD j ([], []))).drop (j + 1) = l.drop (j + 1) := by
  constructor
  · rw [take_getDG ([], []) l j hj, List.filter_append, ← h1, List.filter_cons_of_pos hq, List.filter_nil, List.take_add_one, List.take_set_of_le (Nat.le_refl _), List.getElem?_set_self (by omega)]
    rfl
  · rw [List.drop_set_of_lt (by omega)]
    have := congrArg (List.drop 1) h2
    rwa [List.drop_drop, List.drop_drop] at this
theorem del_drop (hj : j < l.length) (h1 : R.take w = (l.take j).filter q) (h2 : R.drop j = l.drop j) (hq : q (l.getD j ([], [])) = false) :
    R.take w = (l.take (j + 1)).filter q ∧ R.drop (j + 1) = l.drop (j + 1) := by
  constructor
  · rw [take_getDG ([], []) l j hj, List.filter_append, ← h1, List.filter_cons_of_neg (by rw [hq]; simp), List.filter_nil, List.append_nil]
  · have := congrArg (List.drop 1) h2
    rwa [List.drop_drop, List.drop_drop] at this
theorem del_at (hj : j < l.length) (hR : R.length = l.length) (h2 : R.drop j = l.drop j) : R.getD j ([], []) = l.getD j ([], []) := by
  have := congrArg (fun z => z[0]?) h2
  simp only [List.getElem?_drop, Nat.add_zero] at this
  rw [List.getD_eq_getElem?_getD, List.getD_eq_getElem?_getD, this]
end
end Go.Vl
end

section
set_option linter.unusedVariables false
set_option linter.unusedSimpArgs false
set_option maxRecDepth 100000
namespace Go.Proofs.YtgjndpgcpohnoaaGreatDoor
open Go.Vl

namespace Base

theorem tmod_neg (a n : Int) (hn : 0 < n) (h : a.tmod n < 0) : a.tmod n + n = a % n := by
  have h1 := Int.tmod_eq_emod (a := a) (b := n)
  have h2 := Int.emod_nonneg a (by omega : n ≠ 0)
  have h3 := Int.emod_lt_of_pos a hn
  have h4 : (n.natAbs : Int) = n := by omega
  rw [h1] at h ⊢
  split at h <;> split <;> omega
theorem tmod_nonneg (a n : Int) (hn : 0 < n) (h : ¬ a.tmod n < 0) : a.tmod n = a % n := by
  have h1 := Int.tmod_eq_emod (a := a) (b := n)
  have h2 := Int.emod_nonneg a (by omega : n ≠ 0)
  have h3 := Int.emod_lt_of_pos a hn
  have h4 : (n.natAbs : Int) = n := by omega
  rw [h1] at h ⊢
  split at h <;> split <;> omega
theorem tmod_gt (a n : Int) (hn : 0 < n) : -n < a.tmod n ∧ a.tmod n < n := by
  have h1 := Int.tmod_eq_emod (a := a) (b := n)
  have h2 := Int.emod_nonneg a (by omega : n ≠ 0)
  have h3 := Int.emod_lt_of_pos a hn
  have h4 : (n.natAbs : Int) = n := by omega
  rw [h1]
  split <;> omega

theorem c_Picked (a n : Int) (hn : 0 < n) (hb : n ≤ 4611686018427387904) : FnP Tryz.prog 11 [.int a, .int n] (.int (a % n)) :=  by
  refine FnC.mk Tryz.func11 (by kernel_rfl) rfl Tryz.ntmps11 rfl (fun w0 F => ?_)
  have htm := tmod_gt a n hn
  refine W.seq ?_
  refine W.region ?_
  refine W.q (Ev.assign .k) rfl ?_
  refine W.nil ?_
  refine W.then ?_
  refine W.seq ?_
  refine W.region ?_
  refine W.q (Ev.move (.t rfl)) rfl ?_
  refine W.q (Ev.move (.t rfl)) rfl ?_
  first | refine W.q (Ev.rem (.t rfl) (.t rfl) (fun _ => by decide)) rfl ?_ | refine W.q (Ev.rem (.t rfl) (.t rfl) (fun _ => by omega)) rfl ?_
  refine W.q (Ev.assign (.t rfl)) rfl ?_
  refine W.nil ?_
  refine W.then ?_
  refine W.seq ?_
  refine W.seq ?_
  refine W.region ?_
  refine W.q (Ev.move (.t rfl)) rfl ?_
  refine W.q (Ev.lti (.t rfl) .k) rfl ?_
  refine W.nil ?_
  refine W.then ?_
  refine W.cond (.t rfl) (fun hc_t9 => ?_) (fun hc_t9 => ?_)
  · have h9 := of_decide_eq_true hc_t9
    refine W.seq ?_
    refine W.region ?_
    refine W.q (Ev.move (.t rfl)) rfl ?_
    refine W.q (Ev.move (.t rfl)) rfl ?_
    first | refine W.q (Ev.add (.t rfl) (.t rfl) (fun _ => by omega)) rfl ?_ | refine W.q (Ev.addw (.t rfl) (.t rfl)) rfl ?_
    refine W.q (Ev.assign (.t rfl)) rfl ?_
    refine W.nil ?_
    refine W.then ?_
    refine W.ret ?_
    refine W.then_ret ?_
    refine W.retn (M' := []) (rs := [.tmp 4]) (avs := [_]) Tryz.results11 ⟨rfl, trivial⟩ rfl (.refl _) ?_
    exact ⟨congrArg AV.int (by first | exact (tmod_neg a n hn h9).symm ▸ rfl | exact tmod_nonneg a n hn h9), rfl⟩
  · have h9 := of_decide_eq_false hc_t9
    refine W.skip ?_
    refine W.then ?_
    refine W.seq ?_
    refine W.region ?_
    refine W.q (Ev.move (.t rfl)) rfl ?_
    refine W.q (Ev.assign (.t rfl)) rfl ?_
    refine W.nil ?_
    refine W.then ?_
    refine W.ret ?_
    refine W.retn (M' := []) (rs := [.tmp 4]) (avs := [_]) Tryz.results11 ⟨rfl, trivial⟩ rfl (.refl _) ?_
    exact ⟨congrArg AV.int (by first | exact (tmod_neg a n hn h9).symm ▸ rfl | exact tmod_nonneg a n hn h9), rfl⟩

end Base

end Go.Proofs.YtgjndpgcpohnoaaGreatDoor
end

section
set_option linter.unusedVariables false
set_option linter.unusedSimpArgs false
set_option maxRecDepth 100000
namespace Go.Proofs.YtgjndpgcpohnoaaGreatDoor
open Go.Vl

namespace WCopM
theorem ty24 : Ty Tryz.prog 24 1 24 (.slice none 0 0) := Ty.of (by kernel_rfl)
theorem ty34 : Ty Tryz.prog 34 2 32 (.agg #[.string ⟨#[]⟩, .string ⟨#[]⟩]) := Ty.of (by kernel_rfl)
theorem ty35 : Ty Tryz.prog 35 1 24 (.slice none 0 0) := Ty.of (by kernel_rfl)
theorem ty37 : Ty Tryz.prog 37 4 80 (.agg #[.string ⟨#[]⟩, .slice none 0 0, .string ⟨#[]⟩, .slice none 0 0]) := Ty.of (by kernel_rfl)
theorem ag24 : IsAgg Tryz.prog 24 false := ⟨_, Tryz.underlying24, rfl⟩
theorem ag35 : IsAgg Tryz.prog 35 false := ⟨_, Tryz.underlying35, rfl⟩
theorem ag37 : IsAgg Tryz.prog 37 true := ⟨_, Tryz.underlying37, rfl⟩
theorem fa37_1 : FieldAt Tryz.prog 37 1 1 1 false := ⟨_, _, Tryz.underlying37, rfl, rfl, ty35.size, ag35, by decide⟩
theorem fa37_3 : FieldAt Tryz.prog 37 3 3 1 false := ⟨_, _, Tryz.underlying37, rfl, rfl, ty24.size, ag24, by decide⟩
theorem ni24 : NotInt Tryz.prog 24 := .inl ⟨_, Tryz.underlying24⟩
theorem ni35 : NotInt Tryz.prog 35 := .inl ⟨_, Tryz.underlying35⟩
theorem c_copiedM_step (n : Nat) (hn : n ≤ 16777216) (ih : ∀ l, Nd.szs l < n → FnC Tryz.prog 5 [.sl 4 (l.map Nd.av)] [] (fun rr M => ∃ (v : Value) (ms : List Nm), rr = .lit v ∧ Nm.nds ms = l ∧ M = .arr v 37 4 (Nm.avs ms) :: Nm.mems 34 ms)) (l : List Nd) (hl : Nd.szs l = n) : FnC Tryz.prog 5 [.sl 4 (l.map Nd.av)] [] (fun rr M => ∃ (v : Value) (ms : List Nm), rr = .lit v ∧ Nm.nds ms = l ∧ M = .arr v 37 4 (Nm.avs ms) :: Nm.mems 34 ms) :=  by
  refine FnC.mk Tryz.func5 (by kernel_rfl) rfl Tryz.ntmps5 rfl (fun w0 F => ?_)
  have hll : (l.map Nd.av).length = l.length := List.length_map ..
  have hsl := Nd.szs_len l
  refine W.seq ?_
  refine W.region ?_
  refine W.q (Ev.assign .k) rfl ?_
  refine W.nil ?_
  refine W.then ?_
  refine W.seq ?_
  refine W.region ?_
  refine W.q (Ev.assign .k) rfl ?_
  refine W.nil ?_
  refine W.then ?_
  refine W.seq ?_
  refine W.seq ?_
  refine W.region ?_
  refine W.q (Ev.assign .k) rfl ?_
  refine W.nil ?_
  refine W.then ?_
  refine W.block ?_
  refine W.own_nil 37 4 ?_
  refine W.loop (D := []) (ι := Nat × Value × List Nm) (fun z => [(4, true, .int (z.1 : Int)), (0, true, .sl 4 (l.map Nd.av)), (3, true, .lit z.2.1)]) (fun z => .arr z.2.1 37 4 (Nm.avs z.2.2) :: Nm.mems 34 z.2.2) (fun z => z.1 ≤ l.length ∧ Nm.nds z.2.2 = l.take z.1) (fun z => l.length - z.1) (0, .slice none 0 0, []) ⟨rfl, rfl, rfl, trivial⟩ (.refl _) ⟨Nat.zero_le _, rfl⟩ ?_
  rintro ⟨i, v, ms⟩ ⟨hi, hms⟩
  dsimp only at hi hms ⊢
  have hmsl : ms.length = i := by have := congrArg List.length hms; rw [Nm.nds_len, List.length_take] at this; omega
  rcases (show i < l.length ∨ i = l.length from by omega) with hlt | hend
  · have hga := Nd.at_av l i hlt
    have hsz := Nd.at_sz l i hlt
    generalize hd : l.getD i Nd.dflt = d at hga hsz
    have hse := Nd.sz_eq d
    have hsp := Nd.szs_len d.parts
    have hat : (d.attrs.map dav).length = d.attrs.length := List.length_map ..
    have htk := take_getDG Nd.dflt l i hlt
    rw [hd] at htk
    refine W.seq ?_
    refine W.seq ?_
    refine W.region ?_
    refine W.q (Ev.move (.t rfl)) rfl ?_
    refine W.q (Ev.move (.t rfl)) rfl ?_
    first | refine W.q (Ev.lensl (.t rfl) Tryz.underlying24) rfl ?_ | refine W.q (Ev.lenar (i := 0) (.t rfl) rfl Tryz.underlying24) rfl ?_ | refine W.q (Ev.lenar (i := 1) (.t rfl) rfl Tryz.underlying24) rfl ?_ | refine W.q (Ev.lenar (i := 2) (.t rfl) rfl Tryz.underlying24) rfl ?_ | refine W.q (Ev.lenar (i := 3) (.t rfl) rfl Tryz.underlying24) rfl ?_
    refine W.q (Ev.lti (.t rfl) (.t rfl)) rfl ?_
    refine W.nil ?_
    refine W.then ?_
    refine W.is (t := 9) (g := true) (av' := .lit (.bool true)) rfl (congrArg (fun b => AV.lit (.bool b)) (by simp; omega)) ?_
    refine W.condT (.t rfl) ?_
    refine W.skip ?_
    refine W.then ?_
    refine W.seq ?_
    refine W.block ?_
    refine W.seq ?_
    refine W.region ?_
    refine W.q (Ev.move (.t rfl)) rfl ?_
    refine W.q (Ev.move (.t rfl)) rfl ?_
    refine W.q (Ev.at (E := 37) (.t rfl) (.t rfl) Tryz.underlying24 ty37 (fun _ => ⟨by omega, hga⟩) rfl rfl) rfl ?_
    first | refine W.q (Ev.lden (.t rfl) ag37 ty37 rfl rfl) rfl ?_ | refine W.q (Ev.ldbn 0 (.t rfl) rfl ag37 ty37 rfl) rfl ?_ | refine W.q (Ev.ldbn 1 (.t rfl) rfl ag37 ty37 rfl) rfl ?_ | refine W.q (Ev.ldbn 2 (.t rfl) rfl ag37 ty37 rfl) rfl ?_ | refine W.q (Ev.ldbn 3 (.t rfl) rfl ag37 ty37 rfl) rfl ?_
    refine W.alloc ty37 rfl rfl ?_
    intro b5
    first | refine W.stb 0 (.t rfl) (.t rfl) rfl ty37 rfl rfl rfl ?_ | refine W.stb 1 (.t rfl) (.t rfl) rfl ty37 rfl rfl rfl ?_ | refine W.stb 2 (.t rfl) (.t rfl) rfl ty37 rfl rfl rfl ?_ | refine W.stb 3 (.t rfl) (.t rfl) rfl ty37 rfl rfl rfl ?_
    refine W.nil ?_
    refine W.then ?_
    refine W.seq ?_
    refine W.region ?_
    first | refine W.q (Ev.fae (.t rfl) fa37_1 rfl) rfl ?_ | refine W.q (Ev.fab (.t rfl) fa37_1) rfl ?_ | refine W.q (Ev.faa (.t rfl) fa37_1) rfl ?_
    first | refine W.q (Ev.lde1 (.t rfl) ag35) rfl ?_ | refine W.q (Ev.ldb1 0 (.t rfl) rfl ag35 rfl) rfl ?_ | refine W.q (Ev.ldb1 1 (.t rfl) rfl ag35 rfl) rfl ?_ | refine W.q (Ev.ldb1 2 (.t rfl) rfl ag35 rfl) rfl ?_ | refine W.q (Ev.ldb1 3 (.t rfl) rfl ag35 rfl) rfl ?_
    first | refine W.appn .k (.sl (.t rfl) (okc_davs d.attrs)) Tryz.underlying35 ni35 ty34 rfl rfl (by omega) rfl ?_ | refine W.appn .k (.arr 0 (.t rfl) rfl (okc_davs d.attrs)) Tryz.underlying35 ni35 ty34 rfl rfl (by omega) rfl ?_ | refine W.appn .k (.arr 1 (.t rfl) rfl (okc_davs d.attrs)) Tryz.underlying35 ni35 ty34 rfl rfl (by omega) rfl ?_ | refine W.appn .k (.arr 2 (.t rfl) rfl (okc_davs d.attrs)) Tryz.underlying35 ni35 ty34 rfl rfl (by omega) rfl ?_ | refine W.appn .k (.arr 3 (.t rfl) rfl (okc_davs d.attrs)) Tryz.underlying35 ni35 ty34 rfl rfl (by omega) rfl ?_
    intro v18
    refine W.arr_inv 0 rfl (fun a18 n18 c18 h18 => ?_)
    subst h18
    first | refine W.q (Ev.fae (.t rfl) fa37_1 rfl) rfl ?_ | refine W.q (Ev.fab (.t rfl) fa37_1) rfl ?_ | refine W.q (Ev.faa (.t rfl) fa37_1) rfl ?_
    first | refine W.stb 0 (.t rfl) (.t rfl) rfl ty35 rfl rfl rfl ?_ | refine W.stb 1 (.t rfl) (.t rfl) rfl ty35 rfl rfl rfl ?_ | refine W.stb 2 (.t rfl) (.t rfl) rfl ty35 rfl rfl rfl ?_ | refine W.stb 3 (.t rfl) (.t rfl) rfl ty35 rfl rfl rfl ?_
    refine W.nil ?_
    refine W.then ?_
    refine W.seq ?_
    refine W.region ?_
    first | refine W.q (Ev.fae (.t rfl) fa37_3 rfl) rfl ?_ | refine W.q (Ev.fab (.t rfl) fa37_3) rfl ?_ | refine W.q (Ev.faa (.t rfl) fa37_3) rfl ?_
    first | refine W.q (Ev.lde1 (.t rfl) ag24) rfl ?_ | refine W.q (Ev.ldb1 0 (.t rfl) rfl ag24 rfl) rfl ?_ | refine W.q (Ev.ldb1 1 (.t rfl) rfl ag24 rfl) rfl ?_ | refine W.q (Ev.ldb1 2 (.t rfl) rfl ag24 rfl) rfl ?_ | refine W.q (Ev.ldb1 3 (.t rfl) rfl ag24 rfl) rfl ?_
    refine W.call (ih d.parts (by omega)) ⟨(.t rfl), trivial⟩ (.refl _) rfl ?_
    rintro _ _ ⟨v22, ps, rfl, hps, rfl⟩
    refine W.freezeA (M1 := Nm.mems 34 ps ++ (.arr (.slice a18 n18 c18) 34 2 (d.attrs.map dav) :: .box b5 37 [.str d.name, .lit (.slice a18 n18 c18), .str d.text, .sl 4 (d.parts.map Nd.av)] :: .arr v 37 4 (Nm.avs ms) :: Nm.mems 34 ms)) (M2 := Nm.mems 34 ps ++ (.arr (.slice a18 n18 c18) 34 2 (d.attrs.map dav) :: .box b5 37 [.str d.name, .lit (.slice a18 n18 c18), .str d.text, .sl 4 (d.parts.map Nd.av)] :: .arr v 37 4 (Nm.avs ms) :: Nm.mems 34 ms)) (D := []) (v := v22) (L' := [(22, true, .sl 4 (Nm.avs ps))]) (List.Perm.of_eq (List.append_nil _).symm) ⟨⟨_, rfl, .one .hit⟩, trivial⟩ (FrzMs.refl _) ?_
    refine W.perm (M' := .arr (.slice a18 n18 c18) 34 2 (d.attrs.map dav) :: .box b5 37 [.str d.name, .lit (.slice a18 n18 c18), .str d.text, .sl 4 (d.parts.map Nd.av)] :: .arr v 37 4 (Nm.avs ms) :: Nm.mems 34 ms ++ Nm.mems 34 ps) (List.perm_append_comm) ?_
    first | refine W.q (Ev.fae (.t rfl) fa37_3 rfl) rfl ?_ | refine W.q (Ev.fab (.t rfl) fa37_3) rfl ?_ | refine W.q (Ev.faa (.t rfl) fa37_3) rfl ?_
    first | refine W.stb 0 (.t rfl) (.t rfl) rfl ty24 rfl rfl rfl ?_ | refine W.stb 1 (.t rfl) (.t rfl) rfl ty24 rfl rfl rfl ?_ | refine W.stb 2 (.t rfl) (.t rfl) rfl ty24 rfl rfl rfl ?_ | refine W.stb 3 (.t rfl) (.t rfl) rfl ty24 rfl rfl rfl ?_
    refine W.nil ?_
    refine W.then ?_
    refine W.region ?_
    refine W.q (Ev.move (.t rfl)) rfl ?_
    first | refine W.q (Ev.lden (.t rfl) ag37 ty37 rfl rfl) rfl ?_ | refine W.q (Ev.ldbn 0 (.t rfl) rfl ag37 ty37 rfl) rfl ?_ | refine W.q (Ev.ldbn 1 (.t rfl) rfl ag37 ty37 rfl) rfl ?_ | refine W.q (Ev.ldbn 2 (.t rfl) rfl ag37 ty37 rfl) rfl ?_ | refine W.q (Ev.ldbn 3 (.t rfl) rfl ag37 ty37 rfl) rfl ?_
    refine W.bs (es := [_]) Tryz.underlying24 ty37 ⟨rfl, (.t rfl), rfl, rfl, trivial⟩ rfl (by decide) rfl rfl ?_
    first | refine W.app 0 (.t rfl) rfl (.sl (.t rfl) (by simp [AV.okc, shV])) Tryz.underlying24 ni24 ty37 rfl rfl (by rw [Nm.avs_len]; simp only [List.length_cons, List.length_nil]; omega) rfl ?_ | refine W.app 1 (.t rfl) rfl (.sl (.t rfl) (by simp [AV.okc, shV])) Tryz.underlying24 ni24 ty37 rfl rfl (by rw [Nm.avs_len]; simp only [List.length_cons, List.length_nil]; omega) rfl ?_ | refine W.app 2 (.t rfl) rfl (.sl (.t rfl) (by simp [AV.okc, shV])) Tryz.underlying24 ni24 ty37 rfl rfl (by rw [Nm.avs_len]; simp only [List.length_cons, List.length_nil]; omega) rfl ?_ | refine W.app 3 (.t rfl) rfl (.sl (.t rfl) (by simp [AV.okc, shV])) Tryz.underlying24 ni24 ty37 rfl rfl (by rw [Nm.avs_len]; simp only [List.length_cons, List.length_nil]; omega) rfl ?_ | refine W.app 0 (.t rfl) rfl (.arr 0 (.t rfl) rfl (by simp [AV.okc, shV])) Tryz.underlying24 ni24 ty37 rfl rfl (by rw [Nm.avs_len]; simp only [List.length_cons, List.length_nil]; omega) rfl ?_ | refine W.app 0 (.t rfl) rfl (.arr 1 (.t rfl) rfl (by simp [AV.okc, shV])) Tryz.underlying24 ni24 ty37 rfl rfl (by rw [Nm.avs_len]; simp only [List.length_cons, List.length_nil]; omega) rfl ?_ | refine W.app 0 (.t rfl) rfl (.arr 2 (.t rfl) rfl (by simp [AV.okc, shV])) Tryz.underlying24 ni24 ty37 rfl rfl (by rw [Nm.avs_len]; simp only [List.length_cons, List.length_nil]; omega) rfl ?_ | refine W.app 0 (.t rfl) rfl (.arr 3 (.t rfl) rfl (by simp [AV.okc, shV])) Tryz.underlying24 ni24 ty37 rfl rfl (by rw [Nm.avs_len]; simp only [List.length_cons, List.length_nil]; omega) rfl ?_ | refine W.app 1 (.t rfl) rfl (.arr 0 (.t rfl) rfl (by simp [AV.okc, shV])) Tryz.underlying24 ni24 ty37 rfl rfl (by rw [Nm.avs_len]; simp only [List.length_cons, List.length_nil]; omega) rfl ?_ | refine W.app 1 (.t rfl) rfl (.arr 1 (.t rfl) rfl (by simp [AV.okc, shV])) Tryz.underlying24 ni24 ty37 rfl rfl (by rw [Nm.avs_len]; simp only [List.length_cons, List.length_nil]; omega) rfl ?_ | refine W.app 1 (.t rfl) rfl (.arr 2 (.t rfl) rfl (by simp [AV.okc, shV])) Tryz.underlying24 ni24 ty37 rfl rfl (by rw [Nm.avs_len]; simp only [List.length_cons, List.length_nil]; omega) rfl ?_ | refine W.app 1 (.t rfl) rfl (.arr 3 (.t rfl) rfl (by simp [AV.okc, shV])) Tryz.underlying24 ni24 ty37 rfl rfl (by rw [Nm.avs_len]; simp only [List.length_cons, List.length_nil]; omega) rfl ?_ | refine W.app 2 (.t rfl) rfl (.arr 0 (.t rfl) rfl (by simp [AV.okc, shV])) Tryz.underlying24 ni24 ty37 rfl rfl (by rw [Nm.avs_len]; simp only [List.length_cons, List.length_nil]; omega) rfl ?_ | refine W.app 2 (.t rfl) rfl (.arr 1 (.t rfl) rfl (by simp [AV.okc, shV])) Tryz.underlying24 ni24 ty37 rfl rfl (by rw [Nm.avs_len]; simp only [List.length_cons, List.length_nil]; omega) rfl ?_ | refine W.app 2 (.t rfl) rfl (.arr 2 (.t rfl) rfl (by simp [AV.okc, shV])) Tryz.underlying24 ni24 ty37 rfl rfl (by rw [Nm.avs_len]; simp only [List.length_cons, List.length_nil]; omega) rfl ?_ | refine W.app 2 (.t rfl) rfl (.arr 3 (.t rfl) rfl (by simp [AV.okc, shV])) Tryz.underlying24 ni24 ty37 rfl rfl (by rw [Nm.avs_len]; simp only [List.length_cons, List.length_nil]; omega) rfl ?_ | refine W.app 3 (.t rfl) rfl (.arr 0 (.t rfl) rfl (by simp [AV.okc, shV])) Tryz.underlying24 ni24 ty37 rfl rfl (by rw [Nm.avs_len]; simp only [List.length_cons, List.length_nil]; omega) rfl ?_ | refine W.app 3 (.t rfl) rfl (.arr 1 (.t rfl) rfl (by simp [AV.okc, shV])) Tryz.underlying24 ni24 ty37 rfl rfl (by rw [Nm.avs_len]; simp only [List.length_cons, List.length_nil]; omega) rfl ?_ | refine W.app 3 (.t rfl) rfl (.arr 2 (.t rfl) rfl (by simp [AV.okc, shV])) Tryz.underlying24 ni24 ty37 rfl rfl (by rw [Nm.avs_len]; simp only [List.length_cons, List.length_nil]; omega) rfl ?_ | refine W.app 3 (.t rfl) rfl (.arr 3 (.t rfl) rfl (by simp [AV.okc, shV])) Tryz.underlying24 ni24 ty37 rfl rfl (by rw [Nm.avs_len]; simp only [List.length_cons, List.length_nil]; omega) rfl ?_
    intro v27
    refine W.q (Ev.assign (.t rfl)) rfl ?_
    refine W.nil ?_
    refine W.blk_normal ?_
    refine W.then ?_
    refine W.region ?_
    refine W.q (Ev.move (.t rfl)) rfl ?_
    first | refine W.q (Ev.add (.t rfl) .k (fun _ => by omega)) rfl ?_ | refine W.q (Ev.addw (.t rfl) .k) rfl ?_
    refine W.q (Ev.assign (.t rfl)) rfl ?_
    refine W.nil ?_
    refine W.then ?_
    refine W.reach (D := [.box b5 37 [.str d.name, .lit (.slice a18 n18 c18), .str d.text, .sl 4 (Nm.avs ps)]]) (i + 1, v27, ms ++ [(Nm.mk d.name (.slice a18 n18 c18) d.attrs d.text ps)]) ⟨rfl, rfl, rfl, trivial⟩ ?_ ⟨⟨by show i + 1 ≤ _; omega, ?_⟩, by show _ - (i + 1) < _; omega⟩
    · show List.Perm _ ((.arr v27 37 4 (Nm.avs (ms ++ [(Nm.mk d.name (.slice a18 n18 c18) d.attrs d.text ps)])) :: Nm.mems 34 (ms ++ [(Nm.mk d.name (.slice a18 n18 c18) d.attrs d.text ps)])) ++ [_])
      rw [Nm.avs_append, Nm.mems_append]
      exact Nm.perm_copied _ _ _ _ _
    · show Nm.nds (ms ++ [(Nm.mk d.name (.slice a18 n18 c18) d.attrs d.text ps)]) = _
      rw [Nm.nds_append, hms, htk, Nm.nds, Nm.nds, Nm.nd, hps]
      cases d; rfl
  · have he : l.take i = l := List.take_of_length_le (by omega)
    rw [he] at hms
    refine W.seq ?_
    refine W.seq ?_
    refine W.region ?_
    refine W.q (Ev.move (.t rfl)) rfl ?_
    refine W.q (Ev.move (.t rfl)) rfl ?_
    first | refine W.q (Ev.lensl (.t rfl) Tryz.underlying24) rfl ?_ | refine W.q (Ev.lenar (i := 0) (.t rfl) rfl Tryz.underlying24) rfl ?_ | refine W.q (Ev.lenar (i := 1) (.t rfl) rfl Tryz.underlying24) rfl ?_ | refine W.q (Ev.lenar (i := 2) (.t rfl) rfl Tryz.underlying24) rfl ?_ | refine W.q (Ev.lenar (i := 3) (.t rfl) rfl Tryz.underlying24) rfl ?_
    refine W.q (Ev.lti (.t rfl) (.t rfl)) rfl ?_
    refine W.nil ?_
    refine W.then ?_
    refine W.is (t := 9) (g := true) (av' := .lit (.bool false)) rfl (congrArg (fun b => AV.lit (.bool b)) (by simp; omega)) ?_
    refine W.condF (.t rfl) ?_
    refine W.exit ?_
    refine W.then_exit ?_
    refine W.then_exit ?_
    refine W.blk_hit ?_
    refine W.then ?_
    refine W.seq ?_
    refine W.region ?_
    refine W.q (Ev.move (.t rfl)) rfl ?_
    refine W.q (Ev.assign (.t rfl)) rfl ?_
    refine W.nil ?_
    refine W.then ?_
    refine W.ret ?_
    refine W.retn (M' := (.arr v 37 4 (Nm.avs ms) :: Nm.mems 34 ms)) (D := []) (rs := [.tmp 2]) (avs := [_]) Tryz.results5 ⟨rfl, trivial⟩ rfl (List.Perm.of_eq (List.append_nil _).symm) ?_
    exact ⟨v, ms, rfl, hms, rfl⟩

theorem c_copiedM (l : List Nd) (hl : Nd.szs l ≤ 16777216) : FnC Tryz.prog 5 [.sl 4 (l.map Nd.av)] [] (fun rr M => ∃ (v : Value) (ms : List Nm), rr = .lit v ∧ Nm.nds ms = l ∧ M = .arr v 37 4 (Nm.avs ms) :: Nm.mems 34 ms) := by
  suffices H : ∀ n, n ≤ 16777216 → ∀ l, Nd.szs l = n → FnC Tryz.prog 5 [.sl 4 (l.map Nd.av)] [] (fun rr M => ∃ (v : Value) (ms : List Nm), rr = .lit v ∧ Nm.nds ms = l ∧ M = .arr v 37 4 (Nm.avs ms) :: Nm.mems 34 ms) from H _ hl l rfl
  intro n
  induction n using Nat.strongRecOn with
  | _ n ih => exact fun hn l hl => c_copiedM_step n hn (fun l' h' => ih _ h' (by omega) l' rfl) l hl

end WCopM

end Go.Proofs.YtgjndpgcpohnoaaGreatDoor
end

section
set_option linter.unusedVariables false
set_option linter.unusedSimpArgs false
set_option maxRecDepth 100000
namespace Go.Proofs.YtgjndpgcpohnoaaGreatDoor
open Go.Vl

namespace WSetL
theorem ty3 : Ty Tryz.prog 3 1 8 (.int .i64 0) := Ty.of (by kernel_rfl)
theorem ty9 : Ty Tryz.prog 9 1 16 (.string ⟨#[]⟩) := Ty.of (by kernel_rfl)
theorem ty24 : Ty Tryz.prog 24 1 24 (.slice none 0 0) := Ty.of (by kernel_rfl)
theorem ty34 : Ty Tryz.prog 34 2 32 (.agg #[.string ⟨#[]⟩, .string ⟨#[]⟩]) := Ty.of (by kernel_rfl)
theorem ty35 : Ty Tryz.prog 35 1 24 (.slice none 0 0) := Ty.of (by kernel_rfl)
theorem ty37 : Ty Tryz.prog 37 4 80 (.agg #[.string ⟨#[]⟩, .slice none 0 0, .string ⟨#[]⟩, .slice none 0 0]) := Ty.of (by kernel_rfl)
theorem ag3 : IsAgg Tryz.prog 3 false := ⟨_, Tryz.underlying3, rfl⟩
theorem ag9 : IsAgg Tryz.prog 9 false := ⟨_, Tryz.underlying9, rfl⟩
theorem ag24 : IsAgg Tryz.prog 24 false := ⟨_, Tryz.underlying24, rfl⟩
theorem ag35 : IsAgg Tryz.prog 35 false := ⟨_, Tryz.underlying35, rfl⟩
theorem fa34_1 : FieldAt Tryz.prog 34 1 1 1 false := ⟨_, _, Tryz.underlying34, rfl, rfl, ty9.size, ag9, by decide⟩
theorem fa37_1 : FieldAt Tryz.prog 37 1 1 1 false := ⟨_, _, Tryz.underlying37, rfl, rfl, ty35.size, ag35, by decide⟩
theorem fa37_3 : FieldAt Tryz.prog 37 3 3 1 false := ⟨_, _, Tryz.underlying37, rfl, rfl, ty24.size, ag24, by decide⟩
theorem c_setLinks_step (vs : List (List UInt8)) (hv : vs.length ≤ 1048576) (bn : Nat) (n : Nat) (hn : n ≤ 16777216) (ih : ∀ ms k, Nd.szs (Nm.nds ms) < n → k + Nm.cnts ms ≤ 1073741824 → FnC Tryz.prog 6 [.sl 4 (Nm.avs ms), .sl 1 (vs.map AV.str), .lit (.pointer (some ⟨bn, 0, none⟩))] (.box bn 3 [.int ((k) : Nat)] :: Nm.mems 34 ms) (fun rr M => rr = .tup [] ∧ M = (.box bn 3 [.int ((k + Nm.cnts ms) : Nat)] :: Nm.mems 34 (Nm.sets vs k ms)))) (ms : List Nm) (k : Nat) (hl : Nd.szs (Nm.nds ms) = n) (hkc : k + Nm.cnts ms ≤ 1073741824) : FnC Tryz.prog 6 [.sl 4 (Nm.avs ms), .sl 1 (vs.map AV.str), .lit (.pointer (some ⟨bn, 0, none⟩))] (.box bn 3 [.int ((k) : Nat)] :: Nm.mems 34 ms) (fun rr M => rr = .tup [] ∧ M = (.box bn 3 [.int ((k + Nm.cnts ms) : Nat)] :: Nm.mems 34 (Nm.sets vs k ms))) :=  by
  refine FnC.mk Tryz.func6 (by kernel_rfl) rfl Tryz.ntmps6 rfl (fun w0 F => ?_)
  have hll : (Nm.avs ms).length = ms.length := Nm.avs_len ms
  have hvl : (vs.map AV.str).length = vs.length := List.length_map ..
  have hszl : ms.length ≤ n := by have := Nd.szs_len (Nm.nds ms); rw [Nm.nds_len] at this; omega
  refine W.seq ?_
  refine W.region ?_
  refine W.q (Ev.assign .k) rfl ?_
  refine W.nil ?_
  refine W.then ?_
  refine W.block ?_
  refine W.loop (D := []) (ι := Nat) (fun i => [(6, true, .int (i : Int)), (0, true, .sl 4 (Nm.avs ms)), (1, true, .sl 1 (vs.map AV.str)), (2, true, .lit (.pointer (some ⟨bn, 0, none⟩)))]) (fun i => .box bn 3 [.int ((k + Nm.cnts (ms.take i)) : Nat)] :: (Nm.mems 34 (Nm.sets vs k (ms.take i)) ++ Nm.mems 34 (ms.drop i))) (fun i => i ≤ ms.length) (fun i => ms.length - i) 0 ⟨rfl, rfl, rfl, rfl, trivial⟩ (List.Perm.of_eq (List.append_nil _).symm) (Nat.zero_le _) ?_
  intro i hi
  dsimp only at hi ⊢
  rcases (show i < ms.length ∨ i = ms.length from by omega) with hlt | hend
  · have hga := Nm.nds_getD ms i hlt
    have hsz := Nm.sz_at ms i hlt
    have hct := Nm.cnts_take ms i hlt
    have hcl := Nm.cnts_take_le ms (i + 1)
    have hmd := Nm.mems_drop 34 ms i hlt
    have hmt := Nm.mems_sets 34 vs k ms i hlt
    generalize ms.getD i Nm.dflt = d at hga hsz hct hmd hmt
    rw [hmd]
    obtain ⟨kk, hkk⟩ : ∃ kk, k + Nm.cnts (ms.take i) = kk := ⟨_, rfl⟩
    rw [hkk] at hmt ⊢
    refine W.perm (M' := .box bn 3 [.int (kk : Nat)] :: .arr d.v 34 2 (d.attrs.map dav) :: (Nm.mems 34 (Nm.sets vs k (ms.take i)) ++ (Nm.mems 34 d.parts ++ Nm.mems 34 (ms.drop (i + 1))))) (Nm.perm_in _ _ _ _ _) ?_
    refine W.seq ?_
    refine W.seq ?_
    refine W.region ?_
    refine W.q (Ev.move (.t rfl)) rfl ?_
    refine W.q (Ev.move (.t rfl)) rfl ?_
    first | refine W.q (Ev.lensl (.t rfl) Tryz.underlying24) rfl ?_ | refine W.q (Ev.lenar (i := 0) (.t rfl) rfl Tryz.underlying24) rfl ?_ | refine W.q (Ev.lenar (i := 1) (.t rfl) rfl Tryz.underlying24) rfl ?_ | refine W.q (Ev.lenar (i := 2) (.t rfl) rfl Tryz.underlying24) rfl ?_
    refine W.q (Ev.lti (.t rfl) (.t rfl)) rfl ?_
    refine W.nil ?_
    refine W.then ?_
    refine W.is (t := 11) (g := true) (av' := .lit (.bool true)) rfl (congrArg (fun b => AV.lit (.bool b)) (by exact decide_eq_true (by omega))) ?_
    refine W.condT (.t rfl) ?_
    refine W.skip ?_
    refine W.then ?_
    refine W.seq ?_
    refine W.block ?_
    refine W.seq ?_
    refine W.seq ?_
    refine W.region ?_
    refine W.q (Ev.assign .k) rfl ?_
    refine W.nil ?_
    refine W.then ?_
    refine W.block ?_
    refine W.loop (D := []) (ι := Nat) (fun j => [(7, true, .int (j : Int)), (6, true, .int (i : Int)), (0, true, .sl 4 (Nm.avs ms)), (1, true, .sl 1 (vs.map AV.str)), (2, true, .lit (.pointer (some ⟨bn, 0, none⟩)))]) (fun j => .box bn 3 [.int ((kk + j) : Nat)] :: .arr d.v 34 2 (Nm.rowA vs kk j d.attrs) :: (Nm.mems 34 (Nm.sets vs k (ms.take i)) ++ (Nm.mems 34 d.parts ++ Nm.mems 34 (ms.drop (i + 1))))) (fun j => j ≤ d.attrs.length) (fun j => d.attrs.length - j) 0 ⟨rfl, rfl, rfl, rfl, rfl, trivial⟩ (List.Perm.of_eq (List.append_nil _).symm) (Nat.zero_le _) ?_
    intro j hj
    dsimp only at hj ⊢
    have hrow := Nm.rowA_len vs kk j d.attrs hj
    rcases (show j < d.attrs.length ∨ j = d.attrs.length from by omega) with hj1 | hj2
    · have hgr := Nm.rowA_get vs kk j d.attrs hj1
      have hgv0 : kk + j < vs.length → (vs.map AV.str)[kk + j]? = some (AV.str (vs.getD (kk + j) [])) := fun h => getD_mapG AV.str [] vs (kk + j) h
      refine W.seq ?_
      refine W.seq ?_
      refine W.region ?_
      refine W.q (Ev.move (.t rfl)) rfl ?_
      refine W.q (Ev.move (.t rfl)) rfl ?_
      refine W.q (Ev.move (.t rfl)) rfl ?_
      refine W.q (Ev.at (E := 37) (.t rfl) (.t rfl) Tryz.underlying24 ty37 (fun _ => ⟨by omega, hga⟩) rfl rfl) rfl ?_
      first | refine W.q (Ev.fae (.t rfl) fa37_1 rfl) rfl ?_ | refine W.q (Ev.fab (.t rfl) fa37_1) rfl ?_ | refine W.q (Ev.faa (.t rfl) fa37_1) rfl ?_
      first | refine W.q (Ev.lde1 (.t rfl) ag35) rfl ?_ | refine W.q (Ev.ldb1 0 (.t rfl) rfl ag35 rfl) rfl ?_ | refine W.q (Ev.ldb1 1 (.t rfl) rfl ag35 rfl) rfl ?_ | refine W.q (Ev.ldb1 2 (.t rfl) rfl ag35 rfl) rfl ?_
      first | refine W.q (Ev.lensl (.t rfl) Tryz.underlying35) rfl ?_ | refine W.q (Ev.lenar (i := 0) (.t rfl) rfl Tryz.underlying35) rfl ?_ | refine W.q (Ev.lenar (i := 1) (.t rfl) rfl Tryz.underlying35) rfl ?_ | refine W.q (Ev.lenar (i := 2) (.t rfl) rfl Tryz.underlying35) rfl ?_
      refine W.q (Ev.lti (.t rfl) (.t rfl)) rfl ?_
      refine W.nil ?_
      refine W.then ?_
      refine W.is (t := 21) (g := true) (av' := .lit (.bool true)) rfl (congrArg (fun b => AV.lit (.bool b)) (by exact decide_eq_true (by omega))) ?_
      refine W.condT (.t rfl) ?_
      refine W.skip ?_
      refine W.then ?_
      refine W.seq ?_
      refine W.block ?_
      refine W.seq ?_
      refine W.seq ?_
      refine W.region ?_
      refine W.q (Ev.move (.t rfl)) rfl ?_
      refine W.q (Ev.nilc (.t rfl)) rfl ?_
      first | refine W.q (Ev.lde1 (.t rfl) ag3) rfl ?_ | refine W.q (Ev.ldb1 0 (.t rfl) rfl ag3 rfl) rfl ?_ | refine W.q (Ev.ldb1 1 (.t rfl) rfl ag3 rfl) rfl ?_ | refine W.q (Ev.ldb1 2 (.t rfl) rfl ag3 rfl) rfl ?_
      refine W.q (Ev.move (.t rfl)) rfl ?_
      first | refine W.q (Ev.lensl (.t rfl) Tryz.underlying23) rfl ?_ | refine W.q (Ev.lenar (i := 0) (.t rfl) rfl Tryz.underlying23) rfl ?_ | refine W.q (Ev.lenar (i := 1) (.t rfl) rfl Tryz.underlying23) rfl ?_ | refine W.q (Ev.lenar (i := 2) (.t rfl) rfl Tryz.underlying23) rfl ?_
      refine W.q (Ev.lti (.t rfl) (.t rfl)) rfl ?_
      refine W.nil ?_
      refine W.then ?_
      refine W.cond (.t rfl) (fun hc_t29 => ?_) (fun hc_t29 => ?_)
      · have h29 : kk + j < vs.length := by have := of_decide_eq_true hc_t29; omega
        have hgv := hgv0 h29
        have hnx := Nm.rowA_next vs kk j d.attrs hj1
        rw [Nm.put, if_pos h29] at hnx
        generalize vs.getD (kk + j) [] = s at hgv hnx
        refine W.drawnE (ι := Unit) (fun ee _ => .box bn 3 [.int ((kk + j) : Nat)] :: (bif ee 14 then ME.arr d.v 34 2 ((Nm.rowA vs kk j d.attrs).set j (dav ((d.attrs.getD j ([], [])).1, s))) else ME.arr d.v 34 2 (Nm.rowA vs kk j d.attrs)) :: (Nm.mems 34 (Nm.sets vs k (ms.take i)) ++ (Nm.mems 34 d.parts ++ Nm.mems 34 (ms.drop (i + 1))))) 15 () (by kernel_rfl) (by kernel_rfl) rfl ?_
        refine DE.q (fun e c hk => (Ev.move (.t rfl))) rfl (fun _ _ => rfl) (by first | exact .inr (fun _ _ => rfl) | exact .inl (by kernel_rfl)) ?_
        refine DE.q (fun e c hk => (Ev.move (.t rfl))) rfl (fun _ _ => rfl) (by first | exact .inr (fun _ _ => rfl) | exact .inl (by kernel_rfl)) ?_
        refine DE.q (fun e c hk => Ev.at (E := 37) (.t rfl) (.t rfl) Tryz.underlying24 ty37 (fun _ => ⟨by omega, hga⟩) rfl rfl) rfl (fun _ _ => rfl) (by first | exact .inr (fun _ _ => rfl) | exact .inl (by kernel_rfl)) ?_
        first | refine DE.q (fun e c hk => (Ev.fae (.t rfl) fa37_1 rfl)) rfl (fun _ _ => rfl) (by first | exact .inr (fun _ _ => rfl) | exact .inl (by kernel_rfl)) ?_ | refine DE.q (fun e c hk => (Ev.fab (.t rfl) fa37_1)) rfl (fun _ _ => rfl) (by first | exact .inr (fun _ _ => rfl) | exact .inl (by kernel_rfl)) ?_ | refine DE.q (fun e c hk => (Ev.faa (.t rfl) fa37_1)) rfl (fun _ _ => rfl) (by first | exact .inr (fun _ _ => rfl) | exact .inl (by kernel_rfl)) ?_
        first | refine DE.q (fun e c hk => (Ev.lde1 (.t rfl) ag35)) rfl (fun _ _ => rfl) (by first | exact .inr (fun _ _ => rfl) | exact .inl (by kernel_rfl)) ?_ | refine DE.q (fun e c hk => (Ev.ldb1 0 (.t rfl) rfl ag35 rfl)) rfl (fun _ _ => rfl) (by first | exact .inr (fun _ _ => rfl) | exact .inl (by kernel_rfl)) ?_ | refine DE.q (fun e c hk => (Ev.ldb1 1 (.t rfl) rfl ag35 rfl)) rfl (fun _ _ => rfl) (by first | exact .inr (fun _ _ => rfl) | exact .inl (by kernel_rfl)) ?_ | refine DE.q (fun e c hk => (Ev.ldb1 2 (.t rfl) rfl ag35 rfl)) rfl (fun _ _ => rfl) (by first | exact .inr (fun _ _ => rfl) | exact .inl (by kernel_rfl)) ?_
        refine DE.q (fun e c hk => (Ev.move (.t rfl))) rfl (fun _ _ => rfl) (by first | exact .inr (fun _ _ => rfl) | exact .inl (by kernel_rfl)) ?_
        refine DE.q (fun e c hk => (Ev.move (.t rfl))) rfl (fun _ _ => rfl) (by first | exact .inr (fun _ _ => rfl) | exact .inl (by kernel_rfl)) ?_
        refine DE.q (fun e c hk => (Ev.move (.t rfl))) rfl (fun _ _ => rfl) (by first | exact .inr (fun _ _ => rfl) | exact .inl (by kernel_rfl)) ?_
        refine DE.q (fun e c hk => (Ev.nilc (.t rfl))) rfl (fun _ _ => rfl) (by first | exact .inr (fun _ _ => rfl) | exact .inl (by kernel_rfl)) ?_
        first | refine DE.q (fun e c hk => (Ev.lde1 (.t rfl) ag3)) rfl (fun _ _ => rfl) (by first | exact .inr (fun _ _ => rfl) | exact .inl (by kernel_rfl)) ?_ | refine DE.q (fun e c hk => (Ev.ldb1 0 (.t rfl) rfl ag3 rfl)) rfl (fun _ _ => rfl) (by first | exact .inr (fun _ _ => rfl) | exact .inl (by kernel_rfl)) ?_ | refine DE.q (fun e c hk => (Ev.ldb1 1 (.t rfl) rfl ag3 rfl)) rfl (fun _ _ => rfl) (by first | exact .inr (fun _ _ => rfl) | exact .inl (by kernel_rfl)) ?_ | refine DE.q (fun e c hk => (Ev.ldb1 2 (.t rfl) rfl ag3 rfl)) rfl (fun _ _ => rfl) (by first | exact .inr (fun _ _ => rfl) | exact .inl (by kernel_rfl)) ?_
        refine DE.q (av := fun _ => .eptr [.str s]) (fun e c hk => Ev.at (E := 9) (.t rfl) (.t rfl) Tryz.underlying23 ty9 (fun _ => ⟨by show (0 : Int) ≤ ((kk + j : Nat) : Int); omega, hgv⟩) rfl rfl) rfl (fun _ _ => rfl) (by first | exact .inr (fun _ _ => rfl) | exact .inl (by kernel_rfl)) ?_
        first | refine DE.q (fun e c hk => (Ev.lde1 (.t rfl) ag9)) rfl (fun _ _ => rfl) (by first | exact .inr (fun _ _ => rfl) | exact .inl (by kernel_rfl)) ?_ | refine DE.q (fun e c hk => (Ev.ldb1 0 (.t rfl) rfl ag9 rfl)) rfl (fun _ _ => rfl) (by first | exact .inr (fun _ _ => rfl) | exact .inl (by kernel_rfl)) ?_ | refine DE.q (fun e c hk => (Ev.ldb1 1 (.t rfl) rfl ag9 rfl)) rfl (fun _ _ => rfl) (by first | exact .inr (fun _ _ => rfl) | exact .inl (by kernel_rfl)) ?_ | refine DE.q (fun e c hk => (Ev.ldb1 2 (.t rfl) rfl ag9 rfl)) rfl (fun _ _ => rfl) (by first | exact .inr (fun _ _ => rfl) | exact .inl (by kernel_rfl)) ?_
        refine DE.q (av := fun _ => .aptr d.v (((j : Nat) : Int).toNat * 2)) (fun e c hk => by have h := hk.down 14 (by kernel_rfl); simp only [h, cond_false]; exact Ev.ata 1 (.t rfl) rfl (.t rfl) Tryz.underlying35 ty34 (fun _ => by rw [hrow]; omega)) rfl (fun _ _ => rfl) (by first | exact .inr (fun _ _ => rfl) | exact .inl (by kernel_rfl)) ?_
        first | refine DE.q (fun e c hk => (Ev.fae (.t rfl) fa34_1 rfl)) rfl (fun _ _ => rfl) (by first | exact .inr (fun _ _ => rfl) | exact .inl (by kernel_rfl)) ?_ | refine DE.q (fun e c hk => (Ev.fab (.t rfl) fa34_1)) rfl (fun _ _ => rfl) (by first | exact .inr (fun _ _ => rfl) | exact .inl (by kernel_rfl)) ?_ | refine DE.q (fun e c hk => (Ev.faa (.t rfl) fa34_1)) rfl (fun _ _ => rfl) (by first | exact .inr (fun _ _ => rfl) | exact .inl (by kernel_rfl)) ?_
        refine DE.eff0 (fun e c hk L_ hs Q h => ?_) ?_
        · have hk_14 := hk.not
          simp only [addE, hk_14, ↓reduceIte, cond_true, cond_false] at h ⊢
          refine W.sta 1 j 1 (e := dav (d.attrs.getD j ([], []))) (e' := dav ((d.attrs.getD j ([], [])).1, s)) (.t (hs _ _ rfl)) (.t (hs _ _ rfl)) rfl hgr rfl ty9 rfl rfl rfl rfl rfl rfl rfl ?_
          exact h
        refine DE.nil (fun c_ e_ he_ => ?_)
        simp only [he_ 14 (by decide), cond_true, cond_false]
        refine W.then ?_
        refine W.region ?_
        refine W.q (Ev.move (.t rfl)) rfl ?_
        refine W.q (Ev.nilc (.t rfl)) rfl ?_
        first | refine W.q (Ev.lde1 (.t rfl) ag3) rfl ?_ | refine W.q (Ev.ldb1 0 (.t rfl) rfl ag3 rfl) rfl ?_ | refine W.q (Ev.ldb1 1 (.t rfl) rfl ag3 rfl) rfl ?_ | refine W.q (Ev.ldb1 2 (.t rfl) rfl ag3 rfl) rfl ?_
        first | refine W.q (Ev.add (.t rfl) .k (fun _ => by omega)) rfl ?_ | refine W.q (Ev.addw (.t rfl) .k) rfl ?_
        refine W.is (t := 47) (g := true) (av' := .int ((kk + (j + 1) : Nat) : Int)) rfl (congrArg AV.int (by omega)) ?_
        refine W.q (Ev.nilc (.t rfl)) rfl ?_
        first | refine W.stb 0 (.t rfl) (.t rfl) rfl ty3 rfl rfl rfl ?_ | refine W.stb 1 (.t rfl) (.t rfl) rfl ty3 rfl rfl rfl ?_ | refine W.stb 2 (.t rfl) (.t rfl) rfl ty3 rfl rfl rfl ?_
        refine W.nil ?_
        refine W.blk_normal ?_
        refine W.then ?_
        refine W.region ?_
        refine W.q (Ev.move (.t rfl)) rfl ?_
        first | refine W.q (Ev.add (.t rfl) .k (fun _ => by omega)) rfl ?_ | refine W.q (Ev.addw (.t rfl) .k) rfl ?_
        refine W.q (Ev.assign (.t rfl)) rfl ?_
        refine W.nil ?_
        refine W.then ?_
        refine W.reach (D := []) (j + 1) ⟨rfl, rfl, rfl, rfl, rfl, trivial⟩ (List.Perm.of_eq ?_) ⟨hj1, by show d.attrs.length - (j + 1) < d.attrs.length - j; omega⟩
        rw [List.append_nil, hnx] <;> rfl
      · have h29 : ¬ kk + j < vs.length := by have := of_decide_eq_false hc_t29; omega
        have hnx := Nm.rowA_keep vs kk j d.attrs hj1 h29
        refine W.skip ?_
        refine W.then ?_
        refine W.region ?_
        refine W.q (Ev.move (.t rfl)) rfl ?_
        refine W.q (Ev.nilc (.t rfl)) rfl ?_
        first | refine W.q (Ev.lde1 (.t rfl) ag3) rfl ?_ | refine W.q (Ev.ldb1 0 (.t rfl) rfl ag3 rfl) rfl ?_ | refine W.q (Ev.ldb1 1 (.t rfl) rfl ag3 rfl) rfl ?_ | refine W.q (Ev.ldb1 2 (.t rfl) rfl ag3 rfl) rfl ?_
        first | refine W.q (Ev.add (.t rfl) .k (fun _ => by omega)) rfl ?_ | refine W.q (Ev.addw (.t rfl) .k) rfl ?_
        refine W.is (t := 47) (g := true) (av' := .int ((kk + (j + 1) : Nat) : Int)) rfl (congrArg AV.int (by omega)) ?_
        refine W.q (Ev.nilc (.t rfl)) rfl ?_
        first | refine W.stb 0 (.t rfl) (.t rfl) rfl ty3 rfl rfl rfl ?_ | refine W.stb 1 (.t rfl) (.t rfl) rfl ty3 rfl rfl rfl ?_ | refine W.stb 2 (.t rfl) (.t rfl) rfl ty3 rfl rfl rfl ?_
        refine W.nil ?_
        refine W.blk_normal ?_
        refine W.then ?_
        refine W.region ?_
        refine W.q (Ev.move (.t rfl)) rfl ?_
        first | refine W.q (Ev.add (.t rfl) .k (fun _ => by omega)) rfl ?_ | refine W.q (Ev.addw (.t rfl) .k) rfl ?_
        refine W.q (Ev.assign (.t rfl)) rfl ?_
        refine W.nil ?_
        refine W.then ?_
        refine W.reach (D := []) (j + 1) ⟨rfl, rfl, rfl, rfl, rfl, trivial⟩ (List.Perm.of_eq ?_) ⟨hj1, by show d.attrs.length - (j + 1) < d.attrs.length - j; omega⟩
        rw [List.append_nil, hnx] <;> rfl
    · subst hj2
      refine W.seq ?_
      refine W.seq ?_
      refine W.region ?_
      refine W.q (Ev.move (.t rfl)) rfl ?_
      refine W.q (Ev.move (.t rfl)) rfl ?_
      refine W.q (Ev.move (.t rfl)) rfl ?_
      refine W.q (Ev.at (E := 37) (.t rfl) (.t rfl) Tryz.underlying24 ty37 (fun _ => ⟨by omega, hga⟩) rfl rfl) rfl ?_
      first | refine W.q (Ev.fae (.t rfl) fa37_1 rfl) rfl ?_ | refine W.q (Ev.fab (.t rfl) fa37_1) rfl ?_ | refine W.q (Ev.faa (.t rfl) fa37_1) rfl ?_
      first | refine W.q (Ev.lde1 (.t rfl) ag35) rfl ?_ | refine W.q (Ev.ldb1 0 (.t rfl) rfl ag35 rfl) rfl ?_ | refine W.q (Ev.ldb1 1 (.t rfl) rfl ag35 rfl) rfl ?_ | refine W.q (Ev.ldb1 2 (.t rfl) rfl ag35 rfl) rfl ?_
      first | refine W.q (Ev.lensl (.t rfl) Tryz.underlying35) rfl ?_ | refine W.q (Ev.lenar (i := 0) (.t rfl) rfl Tryz.underlying35) rfl ?_ | refine W.q (Ev.lenar (i := 1) (.t rfl) rfl Tryz.underlying35) rfl ?_ | refine W.q (Ev.lenar (i := 2) (.t rfl) rfl Tryz.underlying35) rfl ?_
      refine W.q (Ev.lti (.t rfl) (.t rfl)) rfl ?_
      refine W.nil ?_
      refine W.then ?_
      refine W.is (t := 21) (g := true) (av' := .lit (.bool false)) rfl (congrArg (fun b => AV.lit (.bool b)) (by exact decide_eq_false (by omega))) ?_
      refine W.condF (.t rfl) ?_
      refine W.exit ?_
      refine W.then_exit ?_
      refine W.then_exit ?_
      refine W.blk_hit ?_
      refine W.then ?_
      refine W.region ?_
      refine W.q (Ev.move (.t rfl)) rfl ?_
      refine W.q (Ev.move (.t rfl)) rfl ?_
      refine W.q (Ev.at (E := 37) (.t rfl) (.t rfl) Tryz.underlying24 ty37 (fun _ => ⟨by omega, hga⟩) rfl rfl) rfl ?_
      first | refine W.q (Ev.fae (.t rfl) fa37_3 rfl) rfl ?_ | refine W.q (Ev.fab (.t rfl) fa37_3) rfl ?_ | refine W.q (Ev.faa (.t rfl) fa37_3) rfl ?_
      first | refine W.q (Ev.lde1 (.t rfl) ag24) rfl ?_ | refine W.q (Ev.ldb1 0 (.t rfl) rfl ag24 rfl) rfl ?_ | refine W.q (Ev.ldb1 1 (.t rfl) rfl ag24 rfl) rfl ?_ | refine W.q (Ev.ldb1 2 (.t rfl) rfl ag24 rfl) rfl ?_
      refine W.q (Ev.move (.t rfl)) rfl ?_
      refine W.q (Ev.move (.t rfl)) rfl ?_
      refine W.call (ih d.parts (kk + d.attrs.length) (by omega) (by omega)) ⟨(.t rfl), (.t rfl), (.t rfl), trivial⟩ (Nm.perm_call _ _ _ _ _) rfl ?_
      rintro _ _ ⟨rfl, rfl⟩
      refine W.nil ?_
      refine W.blk_normal ?_
      refine W.then ?_
      refine W.region ?_
      refine W.q (Ev.move (.t rfl)) rfl ?_
      first | refine W.q (Ev.add (.t rfl) .k (fun _ => by omega)) rfl ?_ | refine W.q (Ev.addw (.t rfl) .k) rfl ?_
      refine W.q (Ev.assign (.t rfl)) rfl ?_
      refine W.nil ?_
      refine W.then ?_
      refine W.reach (D := []) (i + 1) ⟨rfl, rfl, rfl, rfl, trivial⟩ ?_ ⟨by omega, by omega⟩
      rw [hct, hmt, show k + (Nm.cnts (ms.take i) + (d.attrs.length + Nm.cnts d.parts)) = kk + d.attrs.length + Nm.cnts d.parts from by omega, List.append_nil, Nm.rowA_all]
      exact Nm.perm_out _ _ _ _ _
  · rw [hend, List.take_length, List.drop_length]
    refine W.seq ?_
    refine W.seq ?_
    refine W.region ?_
    refine W.q (Ev.move (.t rfl)) rfl ?_
    refine W.q (Ev.move (.t rfl)) rfl ?_
    first | refine W.q (Ev.lensl (.t rfl) Tryz.underlying24) rfl ?_ | refine W.q (Ev.lenar (i := 0) (.t rfl) rfl Tryz.underlying24) rfl ?_ | refine W.q (Ev.lenar (i := 1) (.t rfl) rfl Tryz.underlying24) rfl ?_ | refine W.q (Ev.lenar (i := 2) (.t rfl) rfl Tryz.underlying24) rfl ?_
    refine W.q (Ev.lti (.t rfl) (.t rfl)) rfl ?_
    refine W.nil ?_
    refine W.then ?_
    refine W.is (t := 11) (g := true) (av' := .lit (.bool false)) rfl (congrArg (fun b => AV.lit (.bool b)) (by exact decide_eq_false (by omega))) ?_
    refine W.condF (.t rfl) ?_
    refine W.exit ?_
    refine W.then_exit ?_
    refine W.then_exit ?_
    refine W.blk_hit ?_
    refine W.endn (M' := (.box bn 3 [.int ((k + Nm.cnts ms) : Nat)] :: Nm.mems 34 (Nm.sets vs k ms))) (D := []) (rs := []) (avs := []) Tryz.results6 trivial rfl (by rw [List.append_nil, Nm.mems, List.append_nil]) ?_
    exact ⟨rfl, rfl⟩

theorem c_setLinks (vs : List (List UInt8)) (hv : vs.length ≤ 1048576) (bn : Nat) (ms : List Nm) (k : Nat) (hl : Nd.szs (Nm.nds ms) ≤ 16777216) (hkc : k + Nm.cnts ms ≤ 1073741824) : FnC Tryz.prog 6 [.sl 4 (Nm.avs ms), .sl 1 (vs.map AV.str), .lit (.pointer (some ⟨bn, 0, none⟩))] (.box bn 3 [.int ((k) : Nat)] :: Nm.mems 34 ms) (fun rr M => rr = .tup [] ∧ M = (.box bn 3 [.int ((k + Nm.cnts ms) : Nat)] :: Nm.mems 34 (Nm.sets vs k ms))) := by
  suffices H : ∀ n, n ≤ 16777216 → ∀ ms k, Nd.szs (Nm.nds ms) = n → k + Nm.cnts ms ≤ 1073741824 → FnC Tryz.prog 6 [.sl 4 (Nm.avs ms), .sl 1 (vs.map AV.str), .lit (.pointer (some ⟨bn, 0, none⟩))] (.box bn 3 [.int ((k) : Nat)] :: Nm.mems 34 ms) (fun rr M => rr = .tup [] ∧ M = (.box bn 3 [.int ((k + Nm.cnts ms) : Nat)] :: Nm.mems 34 (Nm.sets vs k ms))) from H _ hl ms k rfl hkc
  intro n
  induction n using Nat.strongRecOn with
  | _ n ih => exact fun hn ms k hl hkc => c_setLinks_step vs hv bn n hn (fun ms' k' h' hk' => ih _ h' (by omega) ms' k' rfl hk') ms k hl hkc

end WSetL

end Go.Proofs.YtgjndpgcpohnoaaGreatDoor
end

section
set_option linter.unusedVariables false
set_option linter.unusedSimpArgs false
set_option maxRecDepth 100000
namespace Go.Proofs.YtgjndpgcpohnoaaGreatDoor
open Go.Vl

namespace WDelA
theorem ty34 : Ty Tryz.prog 34 2 32 (.agg #[.string ⟨#[]⟩, .string ⟨#[]⟩]) := Ty.of (by kernel_rfl)
theorem ag34 : IsAgg Tryz.prog 34 true := ⟨_, Tryz.underlying34, rfl⟩
theorem c_IndexFuncR (l : List Dc) (v : Value) (g : Nat) (caps : List Value) (M0 : List ME) (p : Dc → Bool) (hg : ∀ d ∈ l, FnC Tryz.prog g ([dav d] ++ caps.map .lit) M0 (fun r M => r = .bool (p d) ∧ M = M0)) (hn : l.length ≤ 1073741824) : FnC Tryz.prog 24 [.lit v, .lit (.func (.func g) #[] caps.toArray)] (.arr v 34 2 (l.map dav) :: M0) (fun r M => r = .int (idxI p l) ∧ M = .arr v 34 2 (l.map dav) :: M0) :=  by
  refine FnC.mk Tryz.func24 (by kernel_rfl) rfl Tryz.ntmps24 rfl (fun w0 F => ?_)
  have hnl : (l.map dav).length = l.length := List.length_map ..
  refine W.seq ?_
  refine W.region ?_
  refine W.q (Ev.assign .k) rfl ?_
  refine W.nil ?_
  refine W.then ?_
  refine W.seq ?_
  refine W.seq ?_
  refine W.region ?_
  refine W.q (Ev.move (.t rfl)) rfl ?_
  first | refine W.q (Ev.lensl (.t rfl) Tryz.underlying35) rfl ?_ | refine W.q (Ev.lenar (i := 0) (.t rfl) rfl Tryz.underlying35) rfl ?_ | refine W.q (Ev.lenar (i := 1) (.t rfl) rfl Tryz.underlying35) rfl ?_ | refine W.q (Ev.lenar (i := 2) (.t rfl) rfl Tryz.underlying35) rfl ?_ | refine W.q (Ev.lenar (i := 3) (.t rfl) rfl Tryz.underlying35) rfl ?_
  refine W.q (Ev.move .k) rfl ?_
  refine W.nil ?_
  refine W.then ?_
  refine W.block ?_
  refine W.loop (D := []) (ι := Nat) (fun i => [(8, true, .int (i : Int)), (7, true, .int ((l.map dav).length : Int)), (0, true, .lit v), (1, true, .lit (.func (.func g) #[] caps.toArray))]) (fun _ => .arr v 34 2 (l.map dav) :: M0) (fun i => i ≤ l.length ∧ ∀ d ∈ l.take i, p d = false) (fun i => l.length - i) 0 ⟨rfl, rfl, rfl, rfl, trivial⟩ (List.Perm.of_eq (List.append_nil _).symm) ⟨Nat.zero_le _, by simp⟩ ?_
  rintro i ⟨hi1, hi2⟩
  dsimp only at hi1 hi2 ⊢
  rcases (show i < l.length ∨ i = l.length from by omega) with hlt | hend
  · have hga := getD_mapG dav ([], []) l i hlt
    refine W.seq ?_
    refine W.region ?_
    refine W.q (Ev.lti (.t rfl) (.t rfl)) rfl ?_
    refine W.nil ?_
    refine W.then ?_
    refine W.seq ?_
    refine W.is (t := 9) (g := true) (av' := .lit (.bool true)) rfl (congrArg (fun b => AV.lit (.bool b)) (by exact decide_eq_true (by omega))) ?_
    refine W.condT (.t rfl) ?_
    refine W.skip ?_
    refine W.then ?_
    refine W.seq ?_
    refine W.block ?_
    refine W.seq ?_
    refine W.region ?_
    refine W.q (Ev.move (.t rfl)) rfl ?_
    refine W.q (Ev.assign (.t rfl)) rfl ?_
    refine W.nil ?_
    refine W.then ?_
    refine W.seq ?_
    refine W.region ?_
    refine W.q (Ev.move (.t rfl)) rfl ?_
    refine W.q (Ev.move (.t rfl)) rfl ?_
    refine W.q (Ev.move (.t rfl)) rfl ?_
    refine W.q (Ev.ata 0 (.t rfl) rfl (.t rfl) Tryz.underlying35 ty34 (fun _ => by omega)) rfl ?_
    refine W.q (Ev.ldan 0 i (e := dav (l.getD i ([], []))) (.t rfl) rfl hga (by omega) rfl ag34 ty34) rfl ?_
    refine W.callv (caps := caps) (avs := [_]) (hg (l.getD i ([], [])) (getD_memG ([], []) l i hlt)) (.t rfl) ⟨(.t rfl), trivial⟩ rfl ((List.perm_append_comm (l₁ := [_]))) rfl ?_
    rintro _ M' ⟨rfl, hM⟩
    rw [hM]
    refine W.perm (M' := .arr v 34 2 (l.map dav) :: M0) (List.perm_append_comm (l₂ := [_])) ?_
    refine W.nil ?_
    refine W.then ?_
    refine W.cond (.t rfl) (fun hc_t16 => ?_) (fun hc_t16 => ?_)
    · have hq := idxI_hit p ([], []) l i hlt hi2 hc_t16
      refine W.seq ?_
      refine W.region ?_
      refine W.q (Ev.move (.t rfl)) rfl ?_
      refine W.q (Ev.assign (.t rfl)) rfl ?_
      refine W.nil ?_
      refine W.then ?_
      refine W.ret ?_
      refine W.blk_ret ?_
      refine W.then_ret ?_
      refine W.then_ret ?_
      refine W.blk_ret ?_
      refine W.then_ret ?_
      refine W.retn (M' := (.arr v 34 2 (l.map dav) :: M0)) (D := []) (rs := [.tmp 4]) (avs := [_]) Tryz.results24 ⟨rfl, trivial⟩ rfl (List.Perm.of_eq (List.append_nil _).symm) ?_
      exact ⟨congrArg AV.int (by rw [hq]), rfl⟩
    · have hq : p (l.getD i ([], [])) = false := hc_t16
      refine W.skip ?_
      refine W.blk_normal ?_
      refine W.then ?_
      refine W.region ?_
      first | refine W.q (Ev.add (.t rfl) .k (fun _ => by omega)) rfl ?_ | refine W.q (Ev.addw (.t rfl) .k) rfl ?_
      refine W.q (Ev.move (.t rfl)) rfl ?_
      refine W.nil ?_
      refine W.then ?_
      refine W.reach (D := []) (i + 1) ⟨rfl, rfl, rfl, rfl, trivial⟩ (List.Perm.of_eq (List.append_nil _).symm) ⟨⟨by omega, ?_⟩, by omega⟩
      rw [take_getDG ([], []) l i hlt]
      intro d hd
      cases List.mem_append.1 hd with
      | inl h => exact hi2 d h
      | inr h => rw [List.mem_singleton.1 h]; exact hq
  · rw [List.take_of_length_le (by omega)] at hi2
    have hq := idxI_miss p l hi2
    refine W.seq ?_
    refine W.region ?_
    refine W.q (Ev.lti (.t rfl) (.t rfl)) rfl ?_
    refine W.nil ?_
    refine W.then ?_
    refine W.seq ?_
    refine W.is (t := 9) (g := true) (av' := .lit (.bool false)) rfl (congrArg (fun b => AV.lit (.bool b)) (by exact decide_eq_false (by omega))) ?_
    refine W.condF (.t rfl) ?_
    refine W.exit ?_
    refine W.then_exit ?_
    refine W.then_exit ?_
    refine W.blk_hit ?_
    refine W.then ?_
    refine W.seq ?_
    refine W.region ?_
    refine W.q (Ev.assign .k) rfl ?_
    refine W.nil ?_
    refine W.then ?_
    refine W.ret ?_
    refine W.retn (M' := (.arr v 34 2 (l.map dav) :: M0)) (D := []) (rs := [.tmp 4]) (avs := [_]) Tryz.results24 ⟨rfl, trivial⟩ rfl (List.Perm.of_eq (List.append_nil _).symm) ?_
    exact ⟨congrArg AV.int (by rw [hq]), rfl⟩

theorem c_DeleteFunc (l : List Dc) (v : Value) (g : Nat) (caps : List Value) (M0 : List ME) (p : Dc → Bool) (hg : ∀ d ∈ l, FnC Tryz.prog g ([dav d] ++ caps.map .lit) M0 (fun r M => r = .bool (p d) ∧ M = M0)) (hn : l.length ≤ 1073741824) : FnC Tryz.prog 16 [.lit v, .lit (.func (.func g) #[] caps.toArray)] (.arr v 34 2 (l.map dav) :: M0) (fun r M => ∃ v', r = .lit v' ∧ M = .arr v' 34 2 ((l.filter (fun a => !(p a))).map dav) :: M0) :=  by
  refine FnC.mk Tryz.func16 (by kernel_rfl) rfl Tryz.ntmps16 rfl (fun w0 F => ?_)
  have hnl : (l.map dav).length = l.length := List.length_map ..
  have hge := idxI_ge p l
  have hlt0 := idxI_lt p l
  refine W.seq ?_
  refine W.region ?_
  refine W.q (Ev.assign .k) rfl ?_
  refine W.nil ?_
  refine W.then ?_
  refine W.seq ?_
  refine W.region ?_
  refine W.q (Ev.move (.t rfl)) rfl ?_
  refine W.q (Ev.move (.t rfl)) rfl ?_
  refine W.call (c_IndexFuncR l v g caps M0 p hg hn) ⟨(.t rfl), (.t rfl), trivial⟩ ((List.Perm.of_eq (List.append_nil _).symm)) rfl ?_
  rintro _ _ ⟨rfl, rfl⟩
  rw [List.append_nil]
  refine W.q (Ev.assign (.t rfl)) rfl ?_
  refine W.nil ?_
  refine W.then ?_
  refine W.seq ?_
  refine W.seq ?_
  refine W.region ?_
  refine W.q (Ev.move (.t rfl)) rfl ?_
  refine W.is (t := 11) (g := true) (av' := .int (idxI p l)) rfl rfl ?_
  refine W.q (Ev.eqi (.t rfl) .k) rfl ?_
  refine W.nil ?_
  refine W.then ?_
  refine W.cond (.t rfl) (fun hc_t12 => ?_) (fun hc_t12 => ?_)
  · have hm1 : idxI p l = -1 := beq_iff_eq.1 hc_t12
    have hfl : l.filter (fun a => !(p a)) = l := filter_all _ _ (fun d hd => by rw [idxI_neg p l hm1 d hd]; rfl)
    refine W.seq ?_
    refine W.region ?_
    refine W.q (Ev.move (.t rfl)) rfl ?_
    refine W.q (Ev.assign (.t rfl)) rfl ?_
    refine W.nil ?_
    refine W.then ?_
    refine W.ret ?_
    refine W.then_ret ?_
    refine W.retn (M' := (.arr v 34 2 (l.map dav) :: M0)) (D := []) (rs := [.tmp 4]) (avs := [_]) Tryz.results16 ⟨rfl, trivial⟩ rfl (List.Perm.of_eq (List.append_nil _).symm) ?_
    exact ⟨v, rfl, by rw [hfl]⟩
  · have hm1 : idxI p l ≠ -1 := beq_eq_false_iff_ne.1 hc_t12
    have hm0 : 0 ≤ idxI p l := by omega
    have hfi := filter_idx p l hm0
    obtain ⟨m, hm⟩ : ∃ m : Nat, idxI p l = (m : Int) := ⟨(idxI p l).toNat, by omega⟩
    rw [hm] at hlt0 hfi ⊢
    rw [Int.toNat_natCast] at hfi
    refine W.arr_lit 0 rfl (by omega) ?_
    intro gb off cq hv hc1 hc2
    subst hv
    refine W.skip ?_
    refine W.then ?_
    refine W.seq ?_
    refine W.seq ?_
    refine W.region ?_
    refine W.q (Ev.move (.t rfl)) rfl ?_
    first | refine W.q (Ev.add (.t rfl) .k (fun _ => by omega)) rfl ?_ | refine W.q (Ev.addw (.t rfl) .k) rfl ?_
    refine W.is (t := 15) (g := true) (av' := .int ((m + 1 : Nat) : Int)) rfl (congrArg AV.int (by omega)) ?_
    refine W.q (Ev.assign (.t rfl)) rfl ?_
    refine W.nil ?_
    refine W.then ?_
    refine W.block ?_
    refine W.loop (D := []) (ι := Nat × Nat × List Dc) (fun z => [(5, true, .int (z.1 : Int)), (6, true, .int (z.2.1 : Int)), (0, true, .lit (.slice (some ⟨gb, off, none⟩) (l.map dav).length cq)), (1, true, .lit (.func (.func g) #[] caps.toArray))]) (fun z => .arr (.slice (some ⟨gb, off, none⟩) (l.map dav).length cq) 34 2 (z.2.2.map dav) :: M0) (fun z => z.1 < z.2.1 ∧ z.2.1 ≤ l.length ∧ z.2.2.length = l.length ∧ z.2.2.take z.1 = (l.take z.2.1).filter (fun a => !(p a)) ∧ z.2.2.drop z.2.1 = l.drop z.2.1) (fun z => l.length - z.2.1) (m, m + 1, l) ⟨rfl, rfl, rfl, rfl, trivial⟩ (List.Perm.of_eq (List.append_nil _).symm) ⟨Nat.lt_succ_self _, by show m + 1 ≤ _; omega, rfl, hfi, rfl⟩ ?_
    rintro ⟨w, j, R⟩ ⟨hwj, hjl, hR, h1, h2⟩
    dsimp only at hwj hjl hR h1 h2 ⊢
    have hRl : (R.map dav).length = l.length := by rw [List.length_map]; exact hR
    rcases (show j < l.length ∨ j = l.length from by omega) with hlt | hend
    · have hga := getD_mapG dav ([], []) R j (by omega)
      rw [del_at hlt hR h2] at hga
      refine W.seq ?_
      refine W.seq ?_
      refine W.region ?_
      refine W.q (Ev.move (.t rfl)) rfl ?_
      refine W.q (Ev.move (.t rfl)) rfl ?_
      first | refine W.q (Ev.lensl (.t rfl) Tryz.underlying35) rfl ?_ | refine W.q (Ev.lenar (i := 0) (.t rfl) rfl Tryz.underlying35) rfl ?_ | refine W.q (Ev.lenar (i := 1) (.t rfl) rfl Tryz.underlying35) rfl ?_ | refine W.q (Ev.lenar (i := 2) (.t rfl) rfl Tryz.underlying35) rfl ?_ | refine W.q (Ev.lenar (i := 3) (.t rfl) rfl Tryz.underlying35) rfl ?_ | refine W.q (Ev.lenl (.t rfl) Tryz.underlying35) rfl ?_
      refine W.q (Ev.lti (.t rfl) (.t rfl)) rfl ?_
      refine W.nil ?_
      refine W.then ?_
      refine W.is (t := 19) (g := true) (av' := .lit (.bool true)) rfl (congrArg (fun b => AV.lit (.bool b)) (by exact decide_eq_true (by omega))) ?_
      refine W.condT (.t rfl) ?_
      refine W.skip ?_
      refine W.then ?_
      refine W.seq ?_
      refine W.block ?_
      refine W.seq ?_
      refine W.region ?_
      refine W.q (Ev.move (.t rfl)) rfl ?_
      refine W.q (Ev.move (.t rfl)) rfl ?_
      refine W.q (Ev.ata 0 (.t rfl) rfl (.t rfl) Tryz.underlying35 ty34 (fun _ => by omega)) rfl ?_
      refine W.q (Ev.ldan 0 j (e := dav (l.getD j ([], []))) (.t rfl) rfl hga (by omega) rfl ag34 ty34) rfl ?_
      refine W.alloc ty34 rfl rfl ?_
      intro b7
      first | refine W.stb 0 (.t rfl) (.t rfl) rfl ty34 rfl rfl rfl ?_ | refine W.stb 1 (.t rfl) (.t rfl) rfl ty34 rfl rfl rfl ?_ | refine W.stb 2 (.t rfl) (.t rfl) rfl ty34 rfl rfl rfl ?_ | refine W.stb 3 (.t rfl) (.t rfl) rfl ty34 rfl rfl rfl ?_
      refine W.nil ?_
      refine W.then ?_
      refine W.seq ?_
      refine W.region ?_
      refine W.q (Ev.move (.t rfl)) rfl ?_
      first | refine W.q (Ev.lden (.t rfl) ag34 ty34 rfl rfl) rfl ?_ | refine W.q (Ev.ldbn 0 (.t rfl) rfl ag34 ty34 rfl) rfl ?_ | refine W.q (Ev.ldbn 1 (.t rfl) rfl ag34 ty34 rfl) rfl ?_ | refine W.q (Ev.ldbn 2 (.t rfl) rfl ag34 ty34 rfl) rfl ?_ | refine W.q (Ev.ldbn 3 (.t rfl) rfl ag34 ty34 rfl) rfl ?_
      refine W.callv (caps := caps) (avs := [_]) (hg (l.getD j ([], [])) (getD_memG ([], []) l j hlt)) (.t rfl) ⟨(.t rfl), trivial⟩ rfl ((List.perm_append_comm (l₁ := [_, _]))) rfl ?_
      rintro _ M' ⟨rfl, hM⟩
      rw [hM]
      refine W.perm (M' := .box b7 34 [.str (l.getD j ([], [])).1, .str (l.getD j ([], [])).2] :: .arr (.slice (some ⟨gb, off, none⟩) (l.map dav).length cq) 34 2 (R.map dav) :: M0) (List.perm_append_comm (l₂ := [_, _])) ?_
      refine W.q (Ev.not (.t rfl)) rfl ?_
      refine W.nil ?_
      refine W.then ?_
      refine W.cond (.t rfl) (fun hc_t29 => ?_) (fun hc_t29 => ?_)
      · have hk := del_keep (q := (fun a => !(p a))) hwj hlt hR h1 h2 (by simpa using hc_t29)
        refine W.seq ?_
        refine W.region ?_
        refine W.q (Ev.move (.t rfl)) rfl ?_
        refine W.q (Ev.move (.t rfl)) rfl ?_
        first | refine W.q (Ev.lden (.t rfl) ag34 ty34 rfl rfl) rfl ?_ | refine W.q (Ev.ldbn 0 (.t rfl) rfl ag34 ty34 rfl) rfl ?_ | refine W.q (Ev.ldbn 1 (.t rfl) rfl ag34 ty34 rfl) rfl ?_ | refine W.q (Ev.ldbn 2 (.t rfl) rfl ag34 ty34 rfl) rfl ?_ | refine W.q (Ev.ldbn 3 (.t rfl) rfl ag34 ty34 rfl) rfl ?_
        refine W.q (Ev.ata 1 (.t rfl) rfl (.t rfl) Tryz.underlying35 ty34 (fun _ => by omega)) rfl ?_
        refine W.sta 1 w 0 (e := dav (R.getD w ([], []))) (e' := dav (l.getD j ([], []))) (.t rfl) (.t rfl) rfl (getD_mapG dav ([], []) R w (by omega)) rfl ty34 rfl rfl rfl rfl rfl rfl rfl ?_
        refine W.perm (M' := .box b7 34 [.str (l.getD j ([], [])).1, .str (l.getD j ([], [])).2] :: .arr (.slice (some ⟨gb, off, none⟩) (l.map dav).length cq) 34 2 ((R.set w (l.getD j ([], []))).map dav) :: M0) (List.Perm.of_eq (by rw [List.map_set]; rfl)) ?_
        refine W.nil ?_
        refine W.then ?_
        refine W.region ?_
        refine W.q (Ev.move (.t rfl)) rfl ?_
        first | refine W.q (Ev.add (.t rfl) .k (fun _ => by omega)) rfl ?_ | refine W.q (Ev.addw (.t rfl) .k) rfl ?_
        refine W.is (t := 35) (g := true) (av' := .int ((w + 1 : Nat) : Int)) rfl rfl ?_
        refine W.q (Ev.assign (.t rfl)) rfl ?_
        refine W.nil ?_
        refine W.blk_normal ?_
        refine W.then ?_
        refine W.region ?_
        refine W.q (Ev.move (.t rfl)) rfl ?_
        first | refine W.q (Ev.add (.t rfl) .k (fun _ => by omega)) rfl ?_ | refine W.q (Ev.addw (.t rfl) .k) rfl ?_
        refine W.is (t := 21) (g := true) (av' := .int ((j + 1 : Nat) : Int)) rfl rfl ?_
        refine W.q (Ev.assign (.t rfl)) rfl ?_
        refine W.nil ?_
        refine W.then ?_
        refine W.reach (D := [_]) (w + 1, j + 1, R.set w (l.getD j ([], []))) ⟨rfl, rfl, rfl, rfl, trivial⟩ (List.perm_append_comm (l₁ := [_])) ⟨⟨by show w + 1 < j + 1; omega, by show j + 1 ≤ _; omega, by show (R.set _ _).length = _; rw [List.length_set]; exact hR, hk.1, hk.2⟩, by show l.length - (j + 1) < l.length - j; omega⟩
      · have hk := del_drop (q := (fun a => !(p a))) hlt h1 h2 (by simpa using hc_t29)
        refine W.skip ?_
        refine W.blk_normal ?_
        refine W.then ?_
        refine W.region ?_
        refine W.q (Ev.move (.t rfl)) rfl ?_
        first | refine W.q (Ev.add (.t rfl) .k (fun _ => by omega)) rfl ?_ | refine W.q (Ev.addw (.t rfl) .k) rfl ?_
        refine W.is (t := 21) (g := true) (av' := .int ((j + 1 : Nat) : Int)) rfl rfl ?_
        refine W.q (Ev.assign (.t rfl)) rfl ?_
        refine W.nil ?_
        refine W.then ?_
        refine W.reach (D := [_]) (w, j + 1, R) ⟨rfl, rfl, rfl, rfl, trivial⟩ (List.perm_append_comm (l₁ := [_])) ⟨⟨by show w < j + 1; omega, by show j + 1 ≤ _; omega, hR, hk.1, hk.2⟩, by show l.length - (j + 1) < l.length - j; omega⟩
    · rw [hend, List.take_length] at h1
      refine W.seq ?_
      refine W.seq ?_
      refine W.region ?_
      refine W.q (Ev.move (.t rfl)) rfl ?_
      refine W.q (Ev.move (.t rfl)) rfl ?_
      first | refine W.q (Ev.lensl (.t rfl) Tryz.underlying35) rfl ?_ | refine W.q (Ev.lenar (i := 0) (.t rfl) rfl Tryz.underlying35) rfl ?_ | refine W.q (Ev.lenar (i := 1) (.t rfl) rfl Tryz.underlying35) rfl ?_ | refine W.q (Ev.lenar (i := 2) (.t rfl) rfl Tryz.underlying35) rfl ?_ | refine W.q (Ev.lenar (i := 3) (.t rfl) rfl Tryz.underlying35) rfl ?_ | refine W.q (Ev.lenl (.t rfl) Tryz.underlying35) rfl ?_
      refine W.q (Ev.lti (.t rfl) (.t rfl)) rfl ?_
      refine W.nil ?_
      refine W.then ?_
      refine W.is (t := 19) (g := true) (av' := .lit (.bool false)) rfl (congrArg (fun b => AV.lit (.bool b)) (by exact decide_eq_false (by omega))) ?_
      refine W.condF (.t rfl) ?_
      refine W.exit ?_
      refine W.then_exit ?_
      refine W.then_exit ?_
      refine W.blk_hit ?_
      refine W.then ?_
      refine W.seq ?_
      refine W.region ?_
      refine W.q (Ev.move (.t rfl)) rfl ?_
      refine W.q (Ev.move (.t rfl)) rfl ?_
      refine W.q (Ev.slitp (p := w) (q := l.length) (lo := some (.tmp 37)) (hi := none) (.t rfl) Tryz.underlying35 ty34 (.t rfl) rfl (by first | rfl | omega | (simp; omega)) (by first | rfl | omega | (simp; omega)) (by omega)) rfl ?_
      refine W.cutrow (M1 := []) (M2 := M0) (m := w) (by rw [hRl]; omega) ?_
      refine W.clear 0 (j := w) (m := l.length - w) (.t rfl) rfl Tryz.underlying35 ty34 rfl rfl (by rw [List.length_take]; omega) (by omega) ?_
      refine W.nil ?_
      refine W.then ?_
      refine W.seq ?_
      refine W.region ?_
      refine W.q (Ev.move (.t rfl)) rfl ?_
      refine W.q (Ev.move (.t rfl)) rfl ?_
      refine W.q (Ev.slit0 (q := w) (hi := some (.tmp 40)) (.t rfl) Tryz.underlying35 ty34 (.t rfl) (by first | rfl | omega | (simp; omega)) (by omega)) rfl ?_
      refine W.q (Ev.assign (.t rfl)) rfl ?_
      refine W.nil ?_
      refine W.then ?_
      refine W.ret ?_
      refine W.retn (M' := (.arr _ 34 2 _ :: M0)) (D := []) (rs := [.tmp 4]) (avs := [_]) Tryz.results16 ⟨rfl, trivial⟩ rfl (List.Perm.of_eq (List.append_nil _).symm) ?_
      exact ⟨_, rfl, by rw [← h1, List.map_take]⟩

end WDelA

end Go.Proofs.YtgjndpgcpohnoaaGreatDoor
end

section
set_option linter.unusedVariables false
set_option linter.unusedSimpArgs false
set_option maxRecDepth 100000
namespace Go.Proofs.YtgjndpgcpohnoaaGreatDoor
open Go.Vl

namespace WCloneA
theorem ty34 : Ty Tryz.prog 34 2 32 (.agg #[.string ⟨#[]⟩, .string ⟨#[]⟩]) := Ty.of (by kernel_rfl)
theorem ni35 : NotInt Tryz.prog 35 := .inl ⟨_, Tryz.underlying35⟩
theorem c_CloneAttr (es : List AV) (ho : ∀ e ∈ es, e.okc = true) (hl : es.length ≤ 1099511627776) : FnC Tryz.prog 17 [.sl 2 es] [] (fun r M => ∃ v, r = .lit v ∧ M = [.arr v 34 2 es]) :=  by
  refine FnC.mk Tryz.func17 (by kernel_rfl) rfl Tryz.ntmps17 rfl (fun w0 F => ?_)
  refine W.seq ?_
  refine W.region ?_
  refine W.q (Ev.assign .k) rfl ?_
  refine W.nil ?_
  refine W.then ?_
  refine W.seq ?_
  refine W.seq ?_
  refine W.region ?_
  refine W.q (Ev.move (.t rfl)) rfl ?_
  refine W.slnil (.t rfl) Tryz.underlying35 rfl (fun q hq => ?_)
  refine W.nil ?_
  refine W.then ?_
  refine W.cond (.t rfl) (fun hc_t4 => ?_) (fun hc_t4 => ?_)
  · refine W.seq ?_
    refine W.region ?_
    refine W.q (Ev.assign .k) rfl ?_
    refine W.nil ?_
    refine W.own_nil 34 2 ?_
    refine W.then ?_
    refine W.ret ?_
    refine W.then_ret ?_
    refine W.retn (M' := [.arr _ 34 2 _]) (rs := [.tmp 2]) (avs := [_]) Tryz.results17 ⟨rfl, trivial⟩ rfl (.refl _) ?_
    first | exact ⟨_, rfl, by rw [hq hc_t4]⟩ | exact ⟨_, rfl, rfl⟩
  · refine W.skip ?_
    refine W.then ?_
    refine W.seq ?_
    refine W.region ?_
    refine W.bso (es := []) Tryz.underlying35 ty34 trivial rfl (by decide) rfl rfl ?_
    intro v5
    refine W.q (Ev.move (.t rfl)) rfl ?_
    first | refine W.app 0 (.t rfl) rfl (.sl (.t rfl) (ho)) Tryz.underlying35 ni35 ty34 rfl rfl (by simp; omega) rfl ?_ | refine W.app 1 (.t rfl) rfl (.sl (.t rfl) (ho)) Tryz.underlying35 ni35 ty34 rfl rfl (by simp; omega) rfl ?_ | refine W.app 2 (.t rfl) rfl (.sl (.t rfl) (ho)) Tryz.underlying35 ni35 ty34 rfl rfl (by simp; omega) rfl ?_ | refine W.app 3 (.t rfl) rfl (.sl (.t rfl) (ho)) Tryz.underlying35 ni35 ty34 rfl rfl (by simp; omega) rfl ?_ | refine W.app 0 (.t rfl) rfl (.arr 0 (.t rfl) rfl (ho)) Tryz.underlying35 ni35 ty34 rfl rfl (by simp; omega) rfl ?_ | refine W.app 0 (.t rfl) rfl (.arr 1 (.t rfl) rfl (ho)) Tryz.underlying35 ni35 ty34 rfl rfl (by simp; omega) rfl ?_ | refine W.app 0 (.t rfl) rfl (.arr 2 (.t rfl) rfl (ho)) Tryz.underlying35 ni35 ty34 rfl rfl (by simp; omega) rfl ?_ | refine W.app 0 (.t rfl) rfl (.arr 3 (.t rfl) rfl (ho)) Tryz.underlying35 ni35 ty34 rfl rfl (by simp; omega) rfl ?_ | refine W.app 1 (.t rfl) rfl (.arr 0 (.t rfl) rfl (ho)) Tryz.underlying35 ni35 ty34 rfl rfl (by simp; omega) rfl ?_ | refine W.app 1 (.t rfl) rfl (.arr 1 (.t rfl) rfl (ho)) Tryz.underlying35 ni35 ty34 rfl rfl (by simp; omega) rfl ?_ | refine W.app 1 (.t rfl) rfl (.arr 2 (.t rfl) rfl (ho)) Tryz.underlying35 ni35 ty34 rfl rfl (by simp; omega) rfl ?_ | refine W.app 1 (.t rfl) rfl (.arr 3 (.t rfl) rfl (ho)) Tryz.underlying35 ni35 ty34 rfl rfl (by simp; omega) rfl ?_ | refine W.app 2 (.t rfl) rfl (.arr 0 (.t rfl) rfl (ho)) Tryz.underlying35 ni35 ty34 rfl rfl (by simp; omega) rfl ?_ | refine W.app 2 (.t rfl) rfl (.arr 1 (.t rfl) rfl (ho)) Tryz.underlying35 ni35 ty34 rfl rfl (by simp; omega) rfl ?_ | refine W.app 2 (.t rfl) rfl (.arr 2 (.t rfl) rfl (ho)) Tryz.underlying35 ni35 ty34 rfl rfl (by simp; omega) rfl ?_ | refine W.app 2 (.t rfl) rfl (.arr 3 (.t rfl) rfl (ho)) Tryz.underlying35 ni35 ty34 rfl rfl (by simp; omega) rfl ?_ | refine W.app 3 (.t rfl) rfl (.arr 0 (.t rfl) rfl (ho)) Tryz.underlying35 ni35 ty34 rfl rfl (by simp; omega) rfl ?_ | refine W.app 3 (.t rfl) rfl (.arr 1 (.t rfl) rfl (ho)) Tryz.underlying35 ni35 ty34 rfl rfl (by simp; omega) rfl ?_ | refine W.app 3 (.t rfl) rfl (.arr 2 (.t rfl) rfl (ho)) Tryz.underlying35 ni35 ty34 rfl rfl (by simp; omega) rfl ?_ | refine W.app 3 (.t rfl) rfl (.arr 3 (.t rfl) rfl (ho)) Tryz.underlying35 ni35 ty34 rfl rfl (by simp; omega) rfl ?_
    intro v7
    refine W.q (Ev.assign (.t rfl)) rfl ?_
    refine W.nil ?_
    refine W.then ?_
    refine W.ret ?_
    refine W.retn (M' := [.arr _ 34 2 _]) (rs := [.tmp 2]) (avs := [_]) Tryz.results17 ⟨rfl, trivial⟩ rfl (.refl _) ?_
    first | exact ⟨_, rfl, by rw [hq hc_t4]⟩ | exact ⟨_, rfl, rfl⟩

end WCloneA

end Go.Proofs.YtgjndpgcpohnoaaGreatDoor
end
