/-
  Merged: Utf Enc UtfLaw More Str Style Bld Tree Mrk DrawM Walk CallG Rules MrkN.
-/
import Derived.Test.YtlglnmafddnmmaaDoorG2
import Derived.Laws.StructEq
import Derived.Lib.Builder
import Derived.Lib.UnsafeStr
import Derived.Laws.Pointers
import Derived.Laws.Externs
import Derived.Laws.Cover3

section
set_option linter.unusedVariables false
set_option linter.unusedSimpArgs false
namespace Go.Vl

theorem dec_eq (l : List UInt8) : dec l =
    (if (l.getD 0 0).toNat < 128 then ((l.getD 0 0).toNat, 1)
    else if (l.getD 0 0).toNat / 32 == 6 && (decide (1 < l.length) && (l.getD 1 0).toNat / 64 == 2) then
      if ((l.getD 0 0).toNat % 32) * 64 + (l.getD 1 0).toNat % 64 ≥ 128 then (((l.getD 0 0).toNat % 32) * 64 + (l.getD 1 0).toNat % 64, 2) else (Utf8.runeError, 1)
    else if (l.getD 0 0).toNat / 16 == 14 && (decide (1 < l.length) && (l.getD 1 0).toNat / 64 == 2) && (decide (2 < l.length) && (l.getD 2 0).toNat / 64 == 2) then
      if ((l.getD 0 0).toNat % 16) * 4096 + ((l.getD 1 0).toNat % 64) * 64 + (l.getD 2 0).toNat % 64 ≥ 2048 && Utf8.valid ((((l.getD 0 0).toNat % 16) * 4096 + ((l.getD 1 0).toNat % 64) * 64 + (l.getD 2 0).toNat % 64 : Nat) : Int) then (((l.getD 0 0).toNat % 16) * 4096 + ((l.getD 1 0).toNat % 64) * 64 + (l.getD 2 0).toNat % 64, 3) else (Utf8.runeError, 1)
    else if (l.getD 0 0).toNat / 8 == 30 && (decide (1 < l.length) && (l.getD 1 0).toNat / 64 == 2) && (decide (2 < l.length) && (l.getD 2 0).toNat / 64 == 2) && (decide (3 < l.length) && (l.getD 3 0).toNat / 64 == 2) then
      if ((l.getD 0 0).toNat % 8) * 262144 + ((l.getD 1 0).toNat % 64) * 4096 + ((l.getD 2 0).toNat % 64) * 64 + (l.getD 3 0).toNat % 64 ≥ 65536 && Utf8.valid ((((l.getD 0 0).toNat % 8) * 262144 + ((l.getD 1 0).toNat % 64) * 4096 + ((l.getD 2 0).toNat % 64) * 64 + (l.getD 3 0).toNat % 64 : Nat) : Int) then (((l.getD 0 0).toNat % 8) * 262144 + ((l.getD 1 0).toNat % 64) * 4096 + ((l.getD 2 0).toNat % 64) * 64 + (l.getD 3 0).toNat % 64, 4) else (Utf8.runeError, 1)
    else (Utf8.runeError, 1)) := by
  unfold dec Utf8.decode
  simp only [get!_mk, size_mk, Nat.zero_add]

/-- a letter's width, and that it is one -/
theorem dec_width (l : List UInt8) (h : l ≠ []) : 1 ≤ (dec l).2 ∧ (dec l).2 ≤ l.length ∧ (dec l).2 ≤ 4 := by
  have hl : 0 < l.length := List.length_pos_iff.2 h
  rw [dec_eq]
  generalize (l.getD 0 0).toNat = b0
  generalize (l.getD 1 0).toNat = b1
  generalize (l.getD 2 0).toNat = b2
  generalize (l.getD 3 0).toNat = b3
  repeat' split
  all_goals simp_all
  all_goals omega

theorem dec_le (l : List UInt8) : (dec l).1 ≤ 1114111 := by
  rw [dec_eq]
  generalize (l.getD 0 0).toNat = b0
  generalize (l.getD 1 0).toNat = b1
  generalize (l.getD 2 0).toNat = b2
  generalize (l.getD 3 0).toNat = b3
  repeat' split
  all_goals simp_all [Utf8.runeError, Utf8.valid]
  all_goals omega

def runesN : Nat → List UInt8 → List Nat
  | 0, _ => []
  | _ + 1, [] => []
  | n + 1, b :: l => (dec (b :: l)).1 :: runesN n ((b :: l).drop (dec (b :: l)).2)
/-- the letters of a text -/
def runes (l : List UInt8) : List Nat := runesN l.length l

theorem runesN_eq : ∀ (n m : Nat) (l : List UInt8), l.length ≤ n → l.length ≤ m → runesN n l = runesN m l
  | 0, m, l, h, _ => by
    have : l = [] := List.eq_nil_of_length_eq_zero (by omega)
    subst this
    cases m <;> rfl
  | n + 1, 0, l, _, h => by
    have : l = [] := List.eq_nil_of_length_eq_zero (by omega)
    subst this
    rfl
  | n + 1, m + 1, [], _, _ => rfl
  | n + 1, m + 1, b :: l, h1, h2 => by
    have hw := dec_width (b :: l) (by simp)
    simp only [runesN]
    rw [runesN_eq n m _ (by rw [List.length_drop]; omega) (by rw [List.length_drop]; omega)]
theorem runes_nil : runes [] = [] := rfl
theorem runes_cons (l : List UInt8) (h : l ≠ []) : runes l = (dec l).1 :: runes (l.drop (dec l).2) := by
  cases l with
  | nil => exact absurd rfl h
  | cons b l =>
    have hw := dec_width (b :: l) h
    simp only [runes, List.length_cons, runesN]
    rw [runesN_eq l.length _ _ (by rw [List.length_drop, List.length_cons]; omega) (Nat.le_refl _)]
theorem runes_drop (l : List UInt8) (p : Nat) (h : p < l.length) : runes (l.drop p) = (dec (l.drop p)).1 :: runes (l.drop (p + (dec (l.drop p)).2)) := by
  rw [runes_cons (l.drop p) (by intro e; have := congrArg List.length e; simp at this; omega), List.drop_drop]

def rvs (l : List UInt8) : List AV := (runes l).map fun (n : Nat) => AV.int (n : Int)
/-! ### how many letters -/
def rc (l : List UInt8) : Nat := (runes l).length
/-- the letter's value, and whether bytes are such a letter -/
def v2 (a b : UInt8) : Nat := (a.toNat % 32) * 64 + b.toNat % 64
def v3 (a b c : UInt8) : Nat := (a.toNat % 16) * 4096 + (b.toNat % 64) * 64 + c.toNat % 64
def v4 (a b c d : UInt8) : Nat := (a.toNat % 8) * 262144 + (b.toNat % 64) * 4096 + (c.toNat % 64) * 64 + d.toNat % 64
def ct (b : UInt8) : Bool := b.toNat / 64 == 2
def k2 (a b : UInt8) : Bool := a.toNat / 32 == 6 && ct b && decide (v2 a b ≥ 128)
def k3 (a b c : UInt8) : Bool := a.toNat / 16 == 14 && ct b && ct c && (decide (v3 a b c ≥ 2048) && Utf8.valid (v3 a b c : Int))
def k4 (a b c d : UInt8) : Bool := a.toNat / 8 == 30 && ct b && ct c && ct d && (decide (v4 a b c d ≥ 65536) && Utf8.valid (v4 a b c d : Int))
abbrev er : Nat × Nat := (Utf8.runeError, 1)

end Go.Vl
end

section
set_option linter.unusedVariables false
set_option linter.unusedSimpArgs false
namespace Go.Vl

def o8 (n : Nat) : UInt8 := UInt8.ofNat n
/-- the bytes of a letter that is one -/
def encN (c : Nat) : List UInt8 :=
  if c < 128 then [o8 c]
  else if c < 2048 then [o8 (192 + c / 64), o8 (128 + c % 64)]
  else if c < 65536 then [o8 (224 + c / 4096), o8 (128 + c / 64 % 64), o8 (128 + c % 64)]
  else [o8 (240 + c / 262144), o8 (128 + c / 4096 % 64), o8 (128 + c / 64 % 64), o8 (128 + c % 64)]
/-- the bytes of whatever number -/
def enc (r : Int) : List UInt8 := encN (if Utf8.valid r then r.toNat else 65533)

/-! ### the bytes as_ the program reckons them -/
/-! ### Clean -/
/-- what a letter becomes, ahead of a rest -/
def cpiece (r : Nat) (rest : List UInt8) : List UInt8 :=
  if r = 0 then enc 65533 else if r = 13 then (if rest.head? = some 10 then [] else [10]) else enc (r : Int)
def cleanN : Nat → List UInt8 → List UInt8
  | 0, _ => []
  | _ + 1, [] => []
  | n + 1, b :: l => cpiece (dec (b :: l)).1 ((b :: l).drop (dec (b :: l)).2) ++ cleanN n ((b :: l).drop (dec (b :: l)).2)
def clean (l : List UInt8) : List UInt8 := cleanN l.length l

end Go.Vl
end

section
set_option linter.unusedVariables false
set_option linter.unusedSimpArgs false
namespace Go.Vl

/-! ### what is encoded is decoded -/
/-- the bytes of letters -/
def flat (cs : List Nat) : List UInt8 := cs.flatMap encN
/-- letters that Clean leaves -/
def Good (c : Nat) : Prop := Utf8.valid (c : Int) = true ∧ c ≠ 0 ∧ c ≠ 13
/-! ### Text -/
/-- the first letter of a list that is none -/
def allOk (l : List Int) : Bool := l.all fun n => Utf8.valid n
def textE (l : List Int) : Int := if allOk l then (if (l.flatMap enc).length ≤ 600 then 0 else 1) else 2
def textS (l : List Int) : List UInt8 := if allOk l ∧ (l.flatMap enc).length ≤ 600 then l.flatMap enc else []
/-! ### the letters that the laws draw -/
def pick5 (k : Int) : Int := if k = 0 then 128 else if k = 1 then 300 else if k = 2 then 3000 else if k = 3 then 70000 else 1114112
def letter0 (z : Int) : Int := z % pick5 (IntKind.i64.wrap (z.tdiv 7) % 5)
def letterOf (z : Int) : Int := if 55296 ≤ letter0 z ∧ letter0 z ≤ 57343 then 65 else letter0 z
end Go.Vl
end

section
set_option linter.unusedVariables false
set_option linter.unusedSimpArgs false
namespace Go.Vl
open Go Go.Sem
variable {x : Cx} {L : List (Tmp × Bool × AV)} {M : List ME} {ops : Array Oper} {Q : Exit → Act → World → Prop} {rest : List Oper}
theorem getD_map (l : List Int) (i : Nat) (h : i < l.length) : (l.map AV.int)[i]? = some (AV.int (l.getD i 0)) := by
  rw [List.getD_eq_getElem?_getD, List.getElem?_map, List.getElem?_eq_getElem h]; rfl
end Go.Vl
end

section
set_option linter.unusedVariables false
set_option linter.unusedSimpArgs false
set_option linter.unusedSectionVars false
namespace Go.Vl
open Go Go.Sem
variable {x : Cx} {g : Bool} {L : List (Tmp × Bool × AV)} {M : List ME} {ty : TypeId}

def PlacesAt (P : Program) : List Field → List (Nat × Nat) → Prop
  | [], [] => True
  | f :: fs, (o, k) :: ps => f.offset = o ∧ (∀ w, (sizeOf f.type).run P w = .ok k w) ∧ PlacesAt P fs ps
  | _, _ => False
def StructAt (P : Program) (T : TypeId) (pl : List (Nat × Nat)) : Prop := ∃ fields : List Field, P.underlying T = some (.struct fields.toArray) ∧ PlacesAt P fields pl
theorem PlacesAt.run {P : Program} : ∀ {fs : List Field} {ps : List (Nat × Nat)}, PlacesAt P fs ps → ∀ w, (fs.mapM (fun (f : Field) => (do Pure.pure (f.offset, ← sizeOf f.type) : Sem (Nat × Nat)))).run P w = .ok ps w
  | [], [], _, w => by simp
  | f :: fs, (o, k) :: ps, h, w => by
    obtain ⟨rfl, h1, h2⟩ := h
    rw [List.mapM_cons]
    simp only [Sem.run_bind, h1, Result.andThen_ok, Sem.run_pure, h2.run w]
  | [], _ :: _, h, _ => h.elim
  | _ :: _, [], h, _ => h.elim

def BuildOv (g : Bool) (L : List (Tmp × Bool × AV)) (pl : List (Nat × Nat)) : List (Nat × Operand) → List AV → List AV → Prop
  | [], cs, res => cs = res
  | (f, o) :: ps, cs, res => ∃ off k av, pl[f]? = some (off, k) ∧ Ov g L o av ∧ av.okc = true ∧ av.cells.length = k ∧ Nat.ble (off + k) cs.length = true ∧ BuildOv g L pl ps (Vl.splice cs off av.cells) res

theorem BuildOv.run {a : Act} {w : World} (hs : St x L M a w) {pl : List (Nat × Nat)} : ∀ {ps : List (Nat × Operand)} {cs res : List AV} {cells : Array Value}, BuildOv true L pl ps cs res → RepL w (bl M ++ x.F) cs cells.toList →
    ∃ cells', Instr.fill (pl.toArray[·]?) cells (ps.map fun (i, o) => (i, a.eval o)) = some cells' ∧ RepL w (bl M ++ x.F) res cells'.toList
  | [], cs, res, cells, h, hr => by
    have h' : cs = res := h
    subst h'
    exact ⟨cells, rfl, hr⟩
  | (f, o) :: ps, cs, res, cells, h, hr => by
    obtain ⟨off, k, av, h1, h2, ho, hk, hl, h3⟩ := h
    have hv := h2.rep rfl hs
    have hvl := hv.toL ho
    have hlen : (a.eval o).cells.size = k := by have := hvl.length; simp at this; omega
    have hcl := hr.length
    have hl' := Nat.le_of_ble_eq_true hl
    simp at hcl
    have hfold := foldl_set (a.eval o).cells.toList off 0 cells (by simp [hlen]; omega)
    rw [Nat.add_zero] at hfold
    obtain ⟨cells', hf, hres⟩ := BuildOv.run hs (cells := wr cells off (a.eval o).cells.toList) h3 (hr.splice hvl)
    refine ⟨cells', ?_, hres⟩
    have hpl : (pl.toArray[f]? : Option (Nat × Nat)) = some (off, k) := by simpa using h1
    simp only [List.map_cons, Instr.fill, hpl]
    have hne : ¬ ((a.eval o).cells.size ≠ k ∨ off + (a.eval o).cells.size > cells.size) := by rw [hlen]; omega
    rw [if_neg (by simpa using hne)]
    rw [← hf]
    congr 1
    rw [← hfold]
    rw [← Array.foldl_toList, Array.toList_zipIdx]

theorem RepL.lits {w : World} {N : List Nat} : ∀ (vs : List Value), vs.all (fun v => shV v == 0) = true → RepL w N (vs.map .lit) vs
  | [], _ => by simp [RepL]
  | v :: vs, h => by
    simp only [List.all_cons, Bool.and_eq_true, beq_iff_eq] at h
    simp only [List.map_cons, RepL]
    refine ⟨v, vs, rfl, ⟨h.1, h.1, ?_⟩, RepL.lits vs h.2⟩
    simp only [RepC]
    cases v <;> first | rfl | (simp [shV] at h)

theorem Ev.build {T k bytes : Nat} {z : Value} {pl : List (Nat × Nat)} {ps : List (Nat × Operand)} {res : List AV} (hT : Ty x.P T k bytes z) (hst : StructAt x.P T pl) (hz : z.cells.toList.all (fun v => shV v == 0) = true)
    (hb : g = true → BuildOv true L pl ps (z.cells.toList.map .lit) res) : Ev x g L M (.build T ps.toArray) ty (.agg res) := fun a w hs hg => by
  obtain ⟨fields, hT', hp⟩ := hst
  obtain ⟨cells', hf, hres⟩ := BuildOv.run hs (cells := z.cells) (hb hg) (RepL.lits _ hz)
  have hf' : Instr.fill (pl.toArray[·]?) z.cells (ps.toArray.map fun p => (p.1, a.eval p.2)).toList = some cells' := by rw [← hf]; congr 1; simp
  refine ⟨.agg cells', ?_, rfl, by simp only [RepC]; exact hres⟩
  have hm : (fields.toArray.mapM (fun (f : Field) => (do Pure.pure (f.offset, ← sizeOf f.type) : Sem (Nat × Nat)))).run x.P w = .ok pl.toArray w := by
    rw [List.mapM_toArray]
    have h2 := hp.run w
    generalize (fields.mapM (fun (f : Field) => (do Pure.pure (f.offset, ← sizeOf f.type) : Sem (Nat × Nat)))) = m at h2 ⊢
    simp [h2]
  simp only [execOp, Instr.build, Sem.run_bind, hT.zero, run_underlying hT', Result.andThen_ok, hm]
  rw [hf']
  simp

theorem Ev.max {o1 o2 : Operand} {T T' : TypeId} {ki : IntKind} {p q : Int} (h1 : Ov g L o1 (.lit (.int ki p))) (h2 : Ov g L o2 (.lit (.int ki q))) : Ev x g L M (.call ⟨.builtin .max, #[o1, o2], #[T, T']⟩) ty (.lit (.int ki (if q > p then q else p))) := Ev.pure fun a w hs hg => by
  simp [execOp, resolve, invoke, builtin, h1.lit hg hs, h2.lit hg hs, Builtin.max_, Builtin.max2]

/-- a struct of two strings -/
def Str2 (P : Program) (T : TypeId) : Prop := ∃ f1 f2 : Field, P.underlying T = some (.struct (P.fieldsOf T)) ∧ (P.fieldsOf T).toList = [f1, f2] ∧ P.stoodInHeld T = false ∧ P.eqGuardType P.depth T = false ∧
  f1.name ≠ "_" ∧ f2.name ≠ "_" ∧ f1.offset = 0 ∧ f2.offset = 1 ∧ P.underlying f1.type = some .string ∧ P.underlying f2.type = some .string
theorem Str2.of {P : Program} {T : TypeId} {f1 f2 : Field} (hU : P.underlying T = some (.struct #[f1, f2])) (hp : P.stoodInHeld T = false) (hm : P.eqGuardType P.depth T = false) (n1 : f1.name ≠ "_") (n2 : f2.name ≠ "_") (k1 : f1.offset = 0) (k2 : f2.offset = 1)
    (u1 : P.underlying f1.type = some .string) (u2 : P.underlying f2.type = some .string) : Str2 P T := by
  have h : P.fieldsOf T = #[f1, f2] := by rw [Program.fieldsOf, hU]
  exact ⟨f1, f2, by rw [h, hU], by rw [h], hp, hm, n1, n2, k1, k2, u1, u2⟩
end Go.Vl
end

section
set_option linter.unusedVariables false
set_option linter.unusedSimpArgs false
namespace Go.Vl
abbrev Dc := List UInt8 × List UInt8
abbrev dav (d : Dc) : AV := .agg [.str d.1, .str d.2]
theorem getD_mapG {α : Type} (f : α → AV) (z : α) (l : List α) (i : Nat) (h : i < l.length) : (l.map f)[i]? = some (f (l.getD i z)) := by
  rw [List.getD_eq_getElem?_getD, List.getElem?_map, List.getElem?_eq_getElem h]; rfl
theorem getD_memG {α : Type} (z : α) (l : List α) (i : Nat) (h : i < l.length) : l.getD i z ∈ l := by
  rw [List.getD_eq_getElem?_getD, List.getElem?_eq_getElem h]; exact List.getElem_mem h
theorem take_getDG {α : Type} (z : α) (l : List α) (i : Nat) (h : i < l.length) : l.take (i + 1) = l.take i ++ [l.getD i z] := by
  rw [List.take_add_one, List.getD_eq_getElem?_getD, List.getElem?_eq_getElem h]; rfl
theorem drop_getDG {α : Type} (z : α) (l : List α) (i : Nat) (h : i < l.length) : l.drop i = l.getD i z :: l.drop (i + 1) := by
  rw [List.drop_eq_getElem_cons h, List.getD_eq_getElem?_getD, List.getElem?_eq_getElem h]; rfl
theorem pick_mod (l : List (List UInt8)) (z : Int) (n : Nat) (h : l.length = n) (hn : 0 < n) : ∃ s ∈ l, (l.map AV.str)[(z % (n : Int)).toNat]? = some (.str s) := by
  have h1 := Int.emod_nonneg z (show (n : Int) ≠ 0 by omega)
  have h2 := Int.emod_lt_of_pos z (show (0 : Int) < n by omega)
  exact ⟨_, getD_memG [] l _ (by omega), getD_mapG AV.str [] l _ (by omega)⟩
theorem any_take_false {α : Type} (p : α → Bool) (l : List α) (h : ∀ d ∈ l, p d = false) : l.any p = false := by
  rw [List.any_eq_false]; intro d hd; rw [h d hd]; simp
def only (ns : List (List UInt8)) : List Dc → List Dc
  | [] => []
  | d :: t => if (ns.any fun s => d.1 == s) && !(t.any fun e => e.1 == d.1) then d :: only ns t else only ns t
def lastv (n : List UInt8) (l : List Dc) : List UInt8 := match (l.filter fun d => d.1 == n).getLast? with
  | some d => d.2
  | none => []
abbrev nmc : List UInt8 := [99, 111, 108, 111, 114]
abbrev nma : List UInt8 := [97, 45, 98]
abbrev nms : List (List UInt8) := [nmc, nma]
end Go.Vl
end

section
set_option linter.unusedVariables false
set_option linter.unusedSimpArgs false
set_option linter.unusedSectionVars false
namespace Go.Vl
open Go Go.Sem
section ev
variable {x : Cx} {g : Bool} {L : List (Tmp × Bool × AV)} {M : List ME} {ty : TypeId} {T T' : TypeId} {o1 o2 : Operand}

/-- the address of a row's first element -/
def dataOf : Value → Value
  | .slice a _ _ => .pointer a
  | v => v
def deadOf : Value → Value
  | .slice (some ⟨g, _, _⟩) _ _ => .slice (some ⟨g, 0, none⟩) 0 0
  | v => v
end ev

/-- what an own row's slice is -/
theorem W.arr_inv {x : Cx} {L : List (Tmp × Bool × AV)} {M : List ME} {R : Act → World → Prop} (i : Nat) {v : Value} {U k : Nat} {es : List AV} (hM : M[i]? = some (.arr v U k es)) (h : ∀ a n c, v = .slice a n c → W x L M R) : W x L M R := fun a w hs => by
  obtain ⟨ad, cap, e, _⟩ := hs.mem.holds _ (List.mem_of_getElem? hM)
  exact h _ _ _ e a w hs
section str
variable {x : Cx} {L : List (Tmp × Bool × AV)} {M : List ME} {ty : TypeId} {T1 T2 : TypeId} {o1 o2 : Operand} {ops : Array Oper} {Q : Exit → Act → World → Prop} {rest : List Oper} {pos : String} {aft : Array Edge}
end str
end Go.Vl
end

section
set_option linter.unusedVariables false
set_option linter.unusedSimpArgs false
namespace Go.Vl
open Go Go.Sem
inductive Nd where
  | mk (name : List UInt8) (attrs : List Dc) (text : List UInt8) (parts : List Nd)
namespace Nd
def name : Nd → List UInt8 | mk n _ _ _ => n
def attrs : Nd → List Dc | mk _ a _ _ => a
def text : Nd → List UInt8 | mk _ _ t _ => t
def parts : Nd → List Nd | mk _ _ _ p => p
mutual
def av : Nd → AV
  | mk n a t p => .agg [.str n, .sl 2 (a.map dav), .str t, .sl 4 (avs p)]
def avs : List Nd → List AV
  | [] => []
  | d :: l => av d :: avs l
end
mutual
def sz : Nd → Nat
  | mk _ a _ p => 1 + a.length + szs p
def szs : List Nd → Nat
  | [] => 0
  | d :: l => sz d + szs l
end
theorem avs_map (l : List Nd) : avs l = l.map av := by
  induction l with
  | nil => rfl
  | cons d l ih => rw [avs, ih]; rfl
abbrev avx (d : Nd) : AV := .agg [.str d.name, .sl 2 (d.attrs.map dav), .str d.text, .sl 4 (d.parts.map av)]
theorem av_eq (d : Nd) : d.av = avx d := by
  cases d with | mk n a t p => rw [av, avs_map]; rfl
theorem sz_eq (d : Nd) : d.sz = 1 + d.attrs.length + szs d.parts := by cases d; rfl
theorem szs_append (l m : List Nd) : szs (l ++ m) = szs l + szs m := by
  induction l with
  | nil => simp [szs]
  | cons d l ih => rw [List.cons_append, szs, szs, ih]; omega
theorem szs_len (l : List Nd) : l.length ≤ szs l := by
  induction l with
  | nil => simp [szs]
  | cons d l ih => rw [szs, List.length_cons, sz_eq]; omega
theorem szs_mem {l : List Nd} {d : Nd} (h : d ∈ l) : d.sz ≤ szs l := by
  induction l with
  | nil => cases h
  | cons e l ih =>
    rw [szs]
    rcases List.mem_cons.1 h with rfl | h
    · omega
    · have := ih h; omega
mutual
def cnt : Nd → Nat
  | mk _ _ _ p => 1 + cnts p
def cnts : List Nd → Nat
  | [] => 0
  | d :: l => cnt d + cnts l
end
mutual
theorem cnt_le : ∀ d : Nd, d.cnt ≤ d.sz
  | mk _ a _ p => by have := cnts_le p; simp only [cnt, sz]; omega
theorem cnts_le : ∀ l : List Nd, cnts l ≤ szs l
  | [] => Nat.le_refl _
  | d :: l => by have := cnt_le d; have := cnts_le l; simp only [cnts, szs]; omega
end
mutual
def pths : Nd → List (List Int)
  | mk _ _ _ p => pthsFrom 0 p
def pthsFrom : Nat → List Nd → List (List Int)
  | _, [] => []
  | k, d :: l => [(k : Int)] :: ((pths d).map ((k : Int) :: ·) ++ pthsFrom (k + 1) l)
end
theorem pths_eq (d : Nd) : d.pths = pthsFrom 0 d.parts := by cases d; rfl
mutual
theorem pths_len : ∀ d : Nd, d.pths.length + 1 = d.cnt
  | mk _ _ _ p => by have := pthsFrom_len p 0; simp only [pths, cnt]; omega
theorem pthsFrom_len : ∀ (l : List Nd) (k : Nat), (pthsFrom k l).length = cnts l
  | [], _ => rfl
  | d :: l, k => by have h1 := pths_len d; have h2 := pthsFrom_len l (k + 1); simp only [pthsFrom, cnts, List.length_cons, List.length_append, List.length_map]; omega
end
mutual
theorem pths_deep : ∀ (d : Nd) (p : List Int), p ∈ d.pths → p.length < d.sz
  | mk _ a _ q, p, h => by have := pthsFrom_deep q 0 p h; simp only [sz]; omega
theorem pthsFrom_deep : ∀ (l : List Nd) (k : Nat) (p : List Int), p ∈ pthsFrom k l → p.length ≤ szs l
  | [], _, _, h => by simp [pthsFrom] at h
  | d :: l, k, p, h => by
    simp only [pthsFrom, List.mem_cons, List.mem_append, List.mem_map] at h
    have h1 := sz_eq d
    rcases h with rfl | ⟨q, hq, rfl⟩ | h
    · simp only [szs, List.length_singleton]; omega
    · have := pths_deep d q hq; simp only [szs, List.length_cons]; omega
    · have := pthsFrom_deep l (k + 1) p h; simp only [szs]; omega
end
def dflt : Nd := mk [] [] [] []
theorem at_av (l : List Nd) (i : Nat) (h : i < l.length) : (l.map av)[i]? = some (avx (l.getD i dflt)) := by
  rw [← av_eq]; exact getD_mapG av dflt l i h
theorem at_sz (l : List Nd) (i : Nat) (h : i < l.length) : (l.getD i dflt).sz ≤ szs l := szs_mem (getD_memG dflt l i h)
theorem map_snoc (l : List Nd) (d : Nd) : (l ++ [d]).map av = l.map av ++ [avx d] := by rw [List.map_append, ← av_eq]; rfl
end Nd
abbrev pav (p : List Int) : AV := .sl 1 (p.map AV.int)
theorem Ev.lda1g {x : Cx} {g : Bool} {L : List (Tmp × Bool × AV)} {M : List ME} {ty T : TypeId} {o1 : Operand} (i q o : Nat) {v : Value} {U k j : Nat} {es : List AV} {e c : AV} (h1 : Ov g L o1 (.aptr v j)) (hM : M[i]? = some (ME.arr v U k es)) (hq : g = true → es[q]? = some e) (hj : g = true → j = q * k + o) (ho : e.okc = true) (hk : e.cells.length = k) (hc : e.cells[o]? = some c)
    (hT : IsAgg x.P T false) : Ev x g L M (.load T o1) ty c := fun a w hs hg => Ev.lda1 i q o h1 hM (hq hg) (hj hg) ho hk hc hT a w hs hg
/-- a slice held against nil: not known, but what is nil has no element -/
theorem W.slnil {x : Cx} {L : List (Tmp × Bool × AV)} {M : List ME} {ops : Array Oper} {Q : Exit → Act → World → Prop} {rest : List Oper} {ty : TypeId} {pos : String} {aft : Array Edge} {d : Tmp} {T T' E k : TypeId} {o1 : Operand} {es : List AV}
    (h1 : Ov true L o1 (.sl k es)) (hT : x.P.underlying T = some (.slice E)) (hd : Nat.blt d x.n = true) (next : ∀ q : Bool, (q = true → es = []) → W x ((d, true, .lit (.bool q)) :: L) M (wpList x.P ops Q rest)) :
    W x L M (wpList x.P ops Q (⟨some d, .binOp .eql T o1 (.const (.slice none 0 0)) T', ty, pos, aft, none⟩ :: rest)) := by
  refine W.opv (ι := { q : Bool // q = true → es = [] }) (fun _ => M) (fun q => .lit (.bool q.1)) hd ?_ (fun q => next q.1 q.2)
  intro a w hs
  obtain ⟨ad, cap, ev, h3, h4, h5⟩ := (h1.rep rfl hs).sl_inv
  have hv : a.eval (.const (.slice none 0 0)) = .slice none 0 0 := rfl
  refine ⟨.bool ad.isNone, w, ⟨ad.isNone, fun hq => ?_⟩, ?_, hs, Rep.lit _⟩
  · rcases h5 with h5 | ⟨b, off, cur, U, fr, rfl, _⟩
    · exact h5
    · cases hq
  · simp only [execOp, ev, hv, eqGuard_at_slice, Sem.run_bind, Sem.run_pure, Result.andThen_ok]
    simp [binOp, Op.equal, Op.maxDepth, run_equalIn_slice_nil w 9999 T E ad es.length cap hT]
end Go.Vl
end

section
set_option linter.unusedVariables false
set_option linter.unusedSimpArgs false
namespace Go.Vl
abbrev Rn := List UInt8 × List (List UInt8)
namespace Mrk
/-- the marks of a run, in the order of ms -/
def mks (ms : List (List UInt8)) (r : Rn) : List (List UInt8) := ms.filter fun m => r.2.contains m
/-- one more run -/
def push (out : List Rn) (r : Rn) : List Rn :=
  match out.getLast? with
  | some p => if p.2 = r.2 then out.dropLast ++ [(p.1 ++ r.1, p.2)] else if r.1 = [] then out else out ++ [r]
  | none => if r.1 = [] then out else out ++ [r]
def norm (ms : List (List UInt8)) (l : List Rn) : List Rn := l.foldl (fun out r => push out (r.1, mks ms r)) []
theorem norm_snoc (ms : List (List UInt8)) (l : List Rn) (r : Rn) : norm ms (l ++ [r]) = push (norm ms l) (r.1, mks ms r) := by simp [norm]
/-- no text is empty, no two neighbours have the same marks -/
def Nrm : List Rn → Prop
  | [] => True
  | [r] => r.1 ≠ []
  | r :: s :: l => r.1 ≠ [] ∧ r.2 ≠ s.2 ∧ Nrm (s :: l)
theorem Nrm.snoc : ∀ {l : List Rn} {r : Rn}, Nrm l → r.1 ≠ [] → (∀ p, l.getLast? = some p → p.2 ≠ r.2) → Nrm (l ++ [r])
  | [], r, _, h, _ => h
  | [p], r, hp, h, hl => ⟨hp, hl p rfl, h⟩
  | p :: q :: l, r, hp, h, hl => ⟨hp.1, hp.2.1, Nrm.snoc (l := q :: l) hp.2.2 h fun x hx => hl x (by rw [List.getLast?_cons_cons]; exact hx)⟩
theorem Nrm.last : ∀ {l : List Rn} {p : Rn} (t : List UInt8), Nrm l → l.getLast? = some p → Nrm (l.dropLast ++ [(p.1 ++ t, p.2)])
  | [], p, t, _, h => by cases h
  | [q], p, t, hq, h => by
    cases h
    show q.1 ++ t ≠ []
    intro e; exact hq (List.append_eq_nil_iff.1 e).1
  | [q, s], p, t, hq, h => by
    cases h
    exact ⟨hq.1, hq.2.1, fun e => hq.2.2 (List.append_eq_nil_iff.1 e).1⟩
  | q :: s :: u :: l, p, t, hq, h => by
    have h' : (s :: u :: l).getLast? = some p := by rw [List.getLast?_cons_cons] at h; exact h
    have ih := Nrm.last (l := s :: u :: l) t hq.2.2 h'
    exact ⟨hq.1, hq.2.1, ih⟩
theorem Nrm.push {l : List Rn} {r : Rn} (h : Nrm l) : Nrm (push l r) := by
  unfold Mrk.push
  split
  · rename_i p hp
    split
    · exact Nrm.last _ h hp
    · split
      · exact h
      · rename_i h1 h2
        exact Nrm.snoc h h2 fun q hq => by rw [hp] at hq; cases hq; exact h1
  · rename_i hp
    split
    · exact h
    · rename_i h2
      exact Nrm.snoc h h2 fun q hq => by rw [hp] at hq; cases hq
theorem norm_nrm (ms : List (List UInt8)) (l : List Rn) : Nrm (norm ms l) := by
  have key : ∀ (l out : List Rn), Nrm out → Nrm (l.foldl (fun out r => Mrk.push out (r.1, mks ms r)) out) := by
    intro l
    induction l with
    | nil => exact fun out h => h
    | cons r l ih => exact fun out h => ih _ (Nrm.push h)
  exact key l [] trivial
theorem Nrm.mid : ∀ {out : List Rn} {r : Rn} {l : List Rn}, Nrm (out ++ r :: l) → r.1 ≠ [] ∧ ∀ p, out.getLast? = some p → p.2 ≠ r.2
  | [], r, [], h => ⟨h, fun p hp => by cases hp⟩
  | [], r, s :: l, h => ⟨h.1, fun p hp => by cases hp⟩
  | [q], r, l, h => ⟨(Nrm.mid (out := []) (r := r) (l := l) h.2.2).1, fun p hp => by cases hp; exact h.2.1⟩
  | q :: s :: out, r, l, h => by
    have ih := Nrm.mid (out := s :: out) (r := r) (l := l) h.2.2
    exact ⟨ih.1, fun p hp => ih.2 p (by rw [List.getLast?_cons_cons] at hp; exact hp)⟩
theorem push_new {out : List Rn} {r : Rn} (h1 : r.1 ≠ []) (h2 : ∀ p, out.getLast? = some p → p.2 ≠ r.2) : Mrk.push out r = out ++ [r] := by
  unfold Mrk.push
  split
  · rename_i p hp
    rw [if_neg (h2 p hp), if_neg h1]
  · rw [if_neg h1]
theorem norm_id {ms : List (List UInt8)} {l : List Rn} (h : Nrm l) (hm : ∀ r ∈ l, mks ms r = r.2) : norm ms l = l := by
  have key : ∀ (l out : List Rn), Nrm (out ++ l) → (∀ r ∈ l, mks ms r = r.2) → l.foldl (fun out r => Mrk.push out (r.1, mks ms r)) out = out ++ l := by
    intro l
    induction l with
    | nil => intro out _ _; simp
    | cons r l ih =>
      intro out h hm
      obtain ⟨h1, h2⟩ := h.mid
      rw [List.foldl_cons, hm r List.mem_cons_self]
      have e : (r.1, r.2) = r := rfl
      rw [e, push_new h1 h2, ih (out ++ [r]) (by rw [List.append_assoc]; exact h) fun x hx => hm x (List.mem_cons_of_mem _ hx), List.append_assoc]; rfl
  exact key l [] h hm
theorem mks_mks (ms : List (List UInt8)) (q : List UInt8 → Bool) (t : List UInt8) : mks ms (t, ms.filter q) = ms.filter q := by
  unfold mks
  refine List.filter_congr fun m hm => ?_
  simp only [List.contains_eq_mem, List.mem_filter, hm, true_and]
  cases q m <;> simp
theorem push_mem {out : List Rn} {r x : Rn} (h : x ∈ Mrk.push out r) : (∃ y ∈ out, x.2 = y.2) ∨ x.2 = r.2 := by
  unfold Mrk.push at h
  split at h
  · rename_i p hp
    have hpm : p ∈ out := List.mem_of_getLast? hp
    split at h
    · rcases List.mem_append.1 h with h | h
      · exact .inl ⟨x, (List.dropLast_sublist out).subset h, rfl⟩
      · rw [List.mem_singleton.1 h]; exact .inl ⟨p, hpm, rfl⟩
    · split at h
      · exact .inl ⟨x, h, rfl⟩
      · rcases List.mem_append.1 h with h | h
        · exact .inl ⟨x, h, rfl⟩
        · rw [List.mem_singleton.1 h]; exact .inr rfl
  · split at h
    · exact .inl ⟨x, h, rfl⟩
    · rcases List.mem_append.1 h with h | h
      · exact .inl ⟨x, h, rfl⟩
      · rw [List.mem_singleton.1 h]; exact .inr rfl
/-- the marks of what is normed are in order -/
theorem norm_mks (ms : List (List UInt8)) (l : List Rn) : ∀ r ∈ norm ms l, ∃ q : List UInt8 → Bool, r.2 = ms.filter q := by
  have key : ∀ (l out : List Rn), (∀ r ∈ out, ∃ q : List UInt8 → Bool, r.2 = ms.filter q) → ∀ r ∈ l.foldl (fun out r => Mrk.push out (r.1, mks ms r)) out, ∃ q : List UInt8 → Bool, r.2 = ms.filter q := by
    intro l
    induction l with
    | nil => exact fun out h => h
    | cons r l ih =>
      refine fun out h => ih _ fun x hx => ?_
      rcases push_mem hx with ⟨y, hy, e⟩ | e
      · obtain ⟨q, hq⟩ := h y hy
        exact ⟨q, e.trans hq⟩
      · exact ⟨_, e⟩
  exact key l [] fun r hr => by cases hr
theorem norm_norm (ms : List (List UInt8)) (l : List Rn) : norm ms (norm ms l) = norm ms l :=
  norm_id (norm_nrm ms l) fun r hr => by
    obtain ⟨q, hq⟩ := norm_mks ms l r hr
    obtain ⟨t, m⟩ := r
    cases hq
    exact mks_mks ms q t
/-! ### runs as_ nodes -/
def inG (d : Nat) (m : List UInt8) (s : Rn) : Bool := !(s.2.length == d) && (s.2.getD d [] == m)
def nestF : Nat → Nat → List Rn → List Nd
  | 0, _, _ => []
  | _ + 1, _, [] => []
  | f + 1, d, r :: l =>
    if r.2.length = d then Nd.mk [] [] r.1 [] :: nestF f d l
    else Nd.mk (r.2.getD d []) [] [] (nestF f (d + 1) ((r :: l).takeWhile (inG d (r.2.getD d [])))) :: nestF f d ((r :: l).dropWhile (inG d (r.2.getD d [])))
/-- how long nesting takes at most -/
def wt (d : Nat) (l : List Rn) : Nat := (l.map fun r => r.2.length - d + 1).sum
theorem wt_append (d : Nat) (a b : List Rn) : wt d (a ++ b) = wt d a + wt d b := by simp [wt]
theorem wt_le {d : Nat} : ∀ {l : List Rn}, wt (d + 1) l ≤ wt d l
  | [] => Nat.le_refl _
  | r :: l => by
    have := wt_le (d := d) (l := l)
    simp only [wt, List.map_cons, List.sum_cons] at this ⊢
    omega
theorem wt_lt {d : Nat} {l : List Rn} (h : ∀ r ∈ l, d < r.2.length) (h0 : l ≠ []) : wt (d + 1) l < wt d l := by
  cases l with
  | nil => exact absurd rfl h0
  | cons r l =>
    have h1 := h r List.mem_cons_self
    have h2 := wt_le (d := d) (l := l)
    simp only [wt, List.map_cons, List.sum_cons] at h2 ⊢
    omega
mutual
def flat1 (w : List (List UInt8)) : Nd → List Rn
  | .mk n _ t ps => if n = [] then [(t, w)] else flatL (w ++ [n]) ps
def flatL (w : List (List UInt8)) : List Nd → List Rn
  | [] => []
  | d :: l => flat1 w d ++ flatL w l
end
theorem flat_nest : ∀ (f d : Nat) (l : List Rn) (w : List (List UInt8)), wt d l < f → (∀ r ∈ l, r.2.take d = w ∧ d ≤ r.2.length) → (∀ r ∈ l, ∀ m ∈ r.2, m ≠ []) → flatL w (nestF f d l) = l
  | 0, d, l, w, hf, _, _ => by omega
  | f + 1, d, [], w, _, _, _ => by rw [nestF, flatL]
  | f + 1, d, r :: l, w, hf, hw, hm => by
    have hr := hw r List.mem_cons_self
    have hwt : wt d (r :: l) = r.2.length - d + 1 + wt d l := by simp [wt]
    rw [nestF]
    split
    · rename_i hd
      rw [flatL, flat1, if_pos rfl, flat_nest f d l w (by omega) (fun x hx => hw x (List.mem_cons_of_mem _ hx)) (fun x hx => hm x (List.mem_cons_of_mem _ hx))]
      have : r.2 = w := by rw [← hr.1, ← hd, List.take_length]
      rw [← this]; rfl
    · rename_i hd
      have hlt : d < r.2.length := by omega
      obtain ⟨m, hmd⟩ : ∃ m, r.2.getD d [] = m := ⟨_, rfl⟩
      rw [hmd]
      have hmr : m ∈ r.2 := by rw [← hmd, List.getD_eq_getElem?_getD, List.getElem?_eq_getElem hlt]; exact List.getElem_mem hlt
      have hg : inG d m r = true := by unfold inG; rw [hmd]; simp [hd]
      have hsplit := List.takeWhile_append_dropWhile (p := inG d m) (l := r :: l)
      have hGin : ∀ x ∈ (r :: l).takeWhile (inG d m), x ∈ r :: l ∧ inG d m x = true := fun x hx => ⟨(List.takeWhile_sublist _).subset hx, by have := List.all_takeWhile (p := inG d m) (l := r :: l); rw [List.all_eq_true] at this; exact this x hx⟩
      have hRin : ∀ x ∈ (r :: l).dropWhile (inG d m), x ∈ r :: l := fun x hx => (List.dropWhile_sublist _).subset hx
      have hGne : (r :: l).takeWhile (inG d m) ≠ [] := by rw [List.takeWhile_cons, if_pos hg]; simp
      have hGlen : ∀ x ∈ (r :: l).takeWhile (inG d m), d < x.2.length := fun x hx => by
        have h1 := hGin x hx
        have h2 := (hw x h1.1).2
        have h3 := h1.2
        unfold inG at h3
        simp at h3
        omega
      have hw1 := wt_lt hGlen hGne
      have hw2 := wt_append d ((r :: l).takeWhile (inG d m)) ((r :: l).dropWhile (inG d m))
      rw [hsplit] at hw2
      rw [flatL, flat1, if_neg (hm r List.mem_cons_self m hmr)]
      rw [flat_nest f (d + 1) _ (w ++ [m]) (by omega) (fun x hx => by
        have h1 := hGin x hx
        have h2 := hw x h1.1
        have h3 := hGlen x hx
        have h4 := h1.2
        unfold inG at h4
        simp only [Bool.and_eq_true, beq_iff_eq] at h4
        refine ⟨?_, h3⟩
        rw [List.take_succ_eq_append_getElem h3, h2.1]
        congr 2
        rw [← h4.2, List.getD_eq_getElem?_getD, List.getElem?_eq_getElem h3]; rfl) (fun x hx => hm x (hGin x hx).1)]
      rw [flat_nest f d _ w (by omega) (fun x hx => hw x (hRin x hx)) (fun x hx => hm x (hRin x hx))]
      exact hsplit
/-! ### other orders, runs that are cut -/
theorem nil_or_snoc {α : Type} (l : List α) : l = [] ∨ ∃ X p, l = X ++ [p] := by
  rcases List.eq_nil_or_concat l with h | ⟨X, p, h⟩
  · exact .inl h
  · exact .inr ⟨X, p, by rw [h, List.concat_eq_append]⟩
theorem push_snoc (O : List Rn) (p r : Rn) : Mrk.push (O ++ [p]) r = if p.2 = r.2 then O ++ [(p.1 ++ r.1, p.2)] else if r.1 = [] then O ++ [p] else (O ++ [p]) ++ [r] := by
  unfold Mrk.push
  rw [List.getLast?_concat, List.dropLast_concat]
theorem push_zero (r : Rn) : Mrk.push [] r = if r.1 = [] then [] else [r] := rfl
theorem push_nil (O : List Rn) (M : List (List UInt8)) : Mrk.push O ([], M) = O := by
  rcases nil_or_snoc O with rfl | ⟨X, p, rfl⟩
  · rfl
  · rw [push_snoc]
    split
    · rw [List.append_nil]
    · rfl
theorem push_push (O : List Rn) (t u : List UInt8) (M : List (List UInt8)) : Mrk.push (Mrk.push O (t, M)) (u, M) = Mrk.push O (t ++ u, M) := by
  by_cases ht : t = []
  · subst ht; rw [push_nil, List.nil_append]
  · rcases nil_or_snoc O with rfl | ⟨X, p, rfl⟩
    · rw [push_zero, push_zero, if_neg ht, if_neg (by simp [ht])]
      show Mrk.push ([] ++ [(t, M)]) (u, M) = _
      rw [push_snoc, if_pos rfl]; rfl
    · rw [push_snoc, push_snoc]
      by_cases hp : p.2 = M
      · rw [if_pos hp, if_pos hp, push_snoc, if_pos hp, List.append_assoc]
      · rw [if_neg hp, if_neg hp, if_neg ht, if_neg (by simp [ht]), push_snoc, if_pos rfl]
theorem norm_other {a b : List (List UInt8)} (hab : ∀ m ∈ b, m ∈ a) (l : List Rn) : norm b (norm a l) = norm b l := by
  have hM : ∀ (t : List UInt8) (r : Rn), mks b (t, mks a r) = mks b r := fun t r => by
    unfold mks
    refine List.filter_congr fun m hm => ?_
    simp only [List.contains_eq_mem, List.mem_filter, hab m hm, true_and]
    simp
  have key : ∀ n (l : List Rn), l.length = n → norm b (norm a l) = norm b l := by
    intro n
    induction n with
    | zero => intro l hl; rw [List.eq_nil_of_length_eq_zero hl]; rfl
    | succ n ih =>
      intro l hl
      rcases nil_or_snoc l with rfl | ⟨X, r, rfl⟩
      · cases hl
      · have ihX := ih X (by simp at hl; omega)
        rw [norm_snoc, norm_snoc, ← ihX]
        generalize norm a X = O
        rcases nil_or_snoc O with rfl | ⟨Y, p, rfl⟩
        · rw [push_zero]
          by_cases hr : r.1 = []
          · rw [if_pos hr, hr, push_nil]
          · rw [if_neg hr]
            show norm b ([] ++ [(r.1, mks a r)]) = _
            rw [norm_snoc, hM]
        · rw [push_snoc]
          by_cases hp : p.2 = mks a r
          · rw [if_pos hp, norm_snoc, norm_snoc]
            have e1 : mks b (p.1 ++ r.1, p.2) = mks b r := by rw [hp]; exact hM _ r
            have e2 : mks b p = mks b r := by
              have := hM p.1 r
              rw [← hp] at this; exact this
            rw [e1, e2, push_push]
          · rw [if_neg hp]
            by_cases hr : r.1 = []
            · rw [if_pos hr, hr, push_nil]
            · rw [if_neg hr, norm_snoc, hM]
  exact key _ l rfl
/-- runs of which each is cut in two -/
theorem norm_cut (b : List (List UInt8)) : ∀ (l : List (List UInt8 × List UInt8 × List (List UInt8))), norm b (l.flatMap fun x => [(x.1, x.2.2), (x.2.1, x.2.2)]) = norm b (l.map fun x => (x.1 ++ x.2.1, x.2.2)) := by
  have key : ∀ (l : List (List UInt8 × List UInt8 × List (List UInt8))) (O : List Rn), (l.flatMap fun x => [(x.1, x.2.2), (x.2.1, x.2.2)]).foldl (fun out r => Mrk.push out (r.1, mks b r)) O = (l.map fun x => (x.1 ++ x.2.1, x.2.2)).foldl (fun out r => Mrk.push out (r.1, mks b r)) O := by
    intro l
    induction l with
    | nil => intro O; rfl
    | cons x l ih =>
      intro O
      rw [List.flatMap_cons, List.foldl_append, ih]
      have e : ([(x.1, x.2.2), (x.2.1, x.2.2)] : List Rn).foldl (fun out r => Mrk.push out (r.1, mks b r)) O = Mrk.push O (x.1 ++ x.2.1, mks b (x.1 ++ x.2.1, x.2.2)) := push_push O x.1 x.2.1 _
      exact congrArg (fun o => (l.map fun x => (x.1 ++ x.2.1, x.2.2)).foldl (fun out r => Mrk.push out (r.1, mks b r)) o) e
  exact fun l => key l []
/-! ### texts -/
def tx (l : List Rn) : List UInt8 := l.flatMap fun r => r.1
theorem tx_append (a b : List Rn) : tx (a ++ b) = tx a ++ tx b := by simp [tx]
theorem tx_push (O : List Rn) (r : Rn) : tx (Mrk.push O r) = tx O ++ r.1 := by
  rcases nil_or_snoc O with rfl | ⟨X, p, rfl⟩
  · rw [push_zero]
    split
    · rename_i h; rw [h]; rfl
    · simp [tx]
  · rw [push_snoc]
    split
    · simp [tx]
    · split
      · rename_i h; rw [h, List.append_nil]
      · rw [tx_append]; simp [tx]
theorem tx_norm (ms : List (List UInt8)) (l : List Rn) : tx (norm ms l) = tx l := by
  have key : ∀ (l O : List Rn), tx (l.foldl (fun out r => Mrk.push out (r.1, mks ms r)) O) = tx O ++ tx l := by
    intro l
    induction l with
    | nil => intro O; simp [tx]
    | cons r l ih =>
      intro O
      rw [List.foldl_cons, ih, tx_push]
      simp [tx]
  exact key l []
end Mrk
end Go.Vl
end

section
set_option linter.unusedVariables false
set_option linter.unusedSimpArgs false
set_option linter.unusedSectionVars false
namespace Go.Vl
open Go Go.Sem
abbrev Ks := Nat → Nat × Value
def upd (c : Ks) (i : Nat) (z : Nat × Value) : Ks := fun k => if k = i then z else c k
def ks0 : Ks := fun _ => (0, undef)
theorem St.perm {x : Cx} {L : List En} {M M' : List ME} {a : Act} {w : World} (hs : St x L M a w) (hp : List.Perm M M') : St x L M' a w := by
  obtain ⟨hm, hk, hsub⟩ := hs.mem.sub (M' := M') (D := []) (by rw [List.append_nil]; exact hp)
  exact ⟨hs.defers, hs.size, fun t g av hl => ⟨fun hg => ((hs.slots t g av hl).1 hg).keep hk, (hs.slots t g av hl).2⟩, hm, hs.fr.sub hsub, hs.old⟩
theorem W.perm {x : Cx} {L : List En} {M M' : List ME} {R : Act → World → Prop} (hp : List.Perm M M') (h : W x L M' R) : W x L M R := fun a w hs => h a w (hs.perm hp)
section draw
variable {x : Cx} {L : List En} {M : List ME} {Q : Exit → Act → World → Prop}

def ObM (x : Cx) (ops : Array Oper) (L : List En) (Mf : (Nat → Bool) → Ks → List ME) (i : Nat) (o : Oper) (done : Ks → List En) (ent : Ks → En) : Prop :=
  ∀ e c, OkE ops e i → ∀ L' a w, (∀ t p, look (sel (o.looksAt ops) (done c ++ L)) t = some p → look L' t = some p) → St x L' (Mf e c) a w →
    stepE x ops o a w (fun a' w' => ∃ c' : Ks, (∀ k, k ≠ i → c' k = c k) ∧ St x (ent c' :: L') (Mf (addE e i) c') a' w')

/-- the region's operations in the text's order -/
def DM (x : Cx) (ops : Array Oper) (L : List En) (Mf : (Nat → Bool) → Ks → List ME) (R : Act → World → Prop) : Nat → List Oper → (Ks → List En) → Prop
  | i, [], done => ∀ c e, (∀ j, j < i → e j = true) → W x (done c ++ L) (Mf e c) R
  | i, o :: rest, done => ∃ ent : Ks → En, KeyOk x o ent ∧ (∀ c c' : Ks, (∀ k, (k = i ∨ anc ops k i = true) → c k = c' k) → ent c = ent c') ∧ ObM x ops L Mf i o done ent ∧ DM x ops L Mf R (i + 1) rest (fun c => ent c :: done c)

theorem DM.extract {ops : Array Oper} {R : Act → World → Prop} {Mf : (Nat → Bool) → Ks → List ME} : ∀ {rest : List Oper} {k : Nat} {done : Ks → List En}, DM x ops L Mf R k rest done →
    ∃ ents : List (Ks → En), ents.length = rest.length ∧ (∀ (i : Nat) (o : Oper), rest[i]? = some o → ∃ ent, ents[i]? = some ent ∧ KeyOk x o ent ∧ (∀ c c' : Ks, (∀ m, (m = k + i ∨ anc ops m (k + i) = true) → c m = c' m) → ent c = ent c') ∧
      ObM x ops L Mf (k + i) o (fun c => ((ents.take i).map (· c)).reverse ++ done c) ent) ∧ (∀ c e, (∀ j, j < k + rest.length → e j = true) → W x ((ents.map (· c)).reverse ++ (done c ++ L)) (Mf e c) R)
  | [], k, done, h => by
    have h' : ∀ c e, (∀ j, j < k → e j = true) → W x (done c ++ L) (Mf e c) R := h
    exact ⟨[], rfl, by simp, fun c e he => by simpa using h' c e (by simpa using he)⟩
  | o :: rest, k, done, h => by
    obtain ⟨ent, h1, h2, h3, h4⟩ := h
    obtain ⟨ents, e1, e2, e3⟩ := DM.extract h4
    refine ⟨ent :: ents, by simp [e1], ?_, ?_⟩
    · intro i o' ho'
      cases i with
      | zero => simp at ho'; subst ho'; exact ⟨ent, rfl, h1, h2, by simpa using h3⟩
      | succ i =>
        obtain ⟨ent', f1, f2, f3, f4⟩ := e2 i o' (by simpa using ho')
        have e : k + 1 + i = k + (i + 1) := by omega
        rw [e] at f3 f4
        exact ⟨ent', by simpa using f1, f2, f3, by simpa using f4⟩
    · intro c e he
      have := e3 c e (fun j hj => he j (by simp; omega))
      simpa using this

theorem W.drawnM {id : Nat} {l : List Oper} (Mf : (Nat → Bool) → Ks → List ME) (c0 : Ks) (hm : x.P.follows .mixedOrders = true) (hok : okDrawE x.n l.toArray = true) (hM0 : M = Mf (fun _ => false) c0) (h : DM x l.toArray L Mf (Q .normal) 0 l (fun _ => [])) : W x L M (Code.wp x.P (.region id l.toArray true) Q) := by
  subst hM0
  intro a w hs
  obtain ⟨ents, hlen, hes, hW⟩ := h.extract
  simp only [List.append_nil, Nat.zero_add, List.nil_append] at hes hW
  -- the edges, in words
  have hok' : ∀ (i : Nat) (oi : Oper), l[i]? = some oi → ((∀ e ∈ oi.after, Region.binds .any e = true → e.on < i) ∧ x.n ∉ oi.looksAt l.toArray) ∧ ∀ (j : Nat) (oj : Oper), l[j]? = some oj → i ≠ j → (oi.dst ≠ oj.dst ∨ oj.dst = none) ∧ ∀ d, oj.dst = some d → d ∈ oi.looksAt l.toArray →
      (j < i ∧ ∃ e ∈ oi.after, Region.binds .any e = true ∧ e.on = j) ∨ (i < j ∧ ∃ e ∈ oj.after, Region.binds .any e = true ∧ e.on = i) := by
    intro i oi hi
    have hil : i < l.length := by
      rcases Nat.lt_or_ge i l.length with h' | h'
      · exact h'
      · rw [List.getElem?_eq_none h'] at hi; cases hi
    simp only [okDrawE, List.size_toArray, List.all_eq_true, List.mem_range] at hok
    have h1 := hok i hil
    rw [List.getElem?_toArray, hi] at h1
    simp only [Bool.and_eq_true, Array.all_eq_true', List.all_eq_true, List.mem_range, decide_eq_true_eq, Bool.not_eq_true', List.contains_eq_mem, decide_eq_false_iff_not] at h1
    refine ⟨⟨fun e he hb => by
      have h9 := h1.1.1 e he
      rw [hb] at h9
      simpa using h9, h1.1.2⟩, fun j oj hj hne => ?_⟩
    have hjl : j < l.length := by
      rcases Nat.lt_or_ge j l.length with h' | h'
      · exact h'
      · rw [List.getElem?_eq_none h'] at hj; cases hj
    have h2 := h1.2 j hjl
    rw [List.getElem?_toArray, hj] at h2
    simp only [Bool.or_eq_true, beq_iff_eq, hne, false_or, Bool.and_eq_true, bne_iff_ne, Option.isNone_iff_eq_none] at h2
    refine ⟨h2.1, fun d hd hdl => ?_⟩
    have h3 := h2.2
    rw [hd] at h3
    simp only [Bool.or_eq_true, Bool.not_eq_true', List.contains_eq_mem, decide_eq_false_iff_not, hdl, not_true_eq_false, false_or] at h3
    by_cases hji : j < i
    · left
      simp only [hji, decide_true, cond_true, Array.any_eq_true', Bool.and_eq_true, beq_iff_eq] at h3
      obtain ⟨e, he, hb, ho⟩ := h3
      exact ⟨hji, e, he, hb, ho⟩
    · right
      simp only [hji, decide_false, cond_false, Array.any_eq_true', Bool.and_eq_true, beq_iff_eq] at h3
      obtain ⟨e, he, hb, ho⟩ := h3
      exact ⟨by omega, e, he, hb, ho⟩
  have hkd : ∀ (i : Nat) (ent : Ks → En), ents[i]? = some ent → ∃ oi : Oper, l[i]? = some oi ∧ KeyOk x oi ent := by
    intro i e he
    have hil : i < l.length := by
      rcases Nat.lt_or_ge i ents.length with h' | h'
      · omega
      · rw [List.getElem?_eq_none h'] at he; cases he
    obtain ⟨ent, h1, h2, _⟩ := hes i l[i] (List.getElem?_eq_getElem hil)
    rw [he] at h1
    cases h1
    exact ⟨l[i], List.getElem?_eq_getElem hil, h2⟩
  let es : Ks → List En := fun c => ents.map (· c)
  have hesl : ∀ c, (es c).length = ents.length := fun c => List.length_map ..
  have hesi : ∀ (c : Ks) (i : Nat) (e : En), (es c)[i]? = some e → ∃ ent, ents[i]? = some ent ∧ ent c = e := by
    intro c i e he
    rw [List.getElem?_map] at he
    cases hx : ents[i]? with
    | none => rw [hx] at he; cases he
    | some ent => rw [hx] at he; cases he; exact ⟨ent, rfl, rfl⟩
  have hesm : ∀ (c : Ks) (i : Nat) (ent : Ks → En), ents[i]? = some ent → (es c)[i]? = some (ent c) := by
    intro c i ent he
    rw [List.getElem?_map, he]; rfl
  have hget : ∀ (c : Ks) (i : Nat) (e : En), (es c)[i]? = some e → ∃ oi : Oper, l[i]? = some oi ∧ (oi.dst = some e.1 ∨ (oi.dst = none ∧ e.1 = x.n)) := by
    intro c i e he
    obtain ⟨ent, h1, rfl⟩ := hesi c i e he
    obtain ⟨oi, h2, h3⟩ := hkd i ent h1
    refine ⟨oi, h2, ?_⟩
    have h4 := h3 c
    cases hd : oi.dst with
    | none => rw [hd] at h4; exact .inr ⟨rfl, by rw [show ent c = (x.n, false, .lit undef) from h4]⟩
    | some d => rw [hd] at h4; exact .inl (by rw [h4.1])
  have hkey : ∀ (c : Ks) (i j : Nat) (e e' : En), (es c)[i]? = some e → (es c)[j]? = some e' → e.1 = e'.1 → e = e' := by
    intro c i j e e' hi hj he
    by_cases hne : i = j
    · subst hne; rw [hi] at hj; cases hj; rfl
    · skip
      obtain ⟨enti, hi1, rfl⟩ := hesi c i e hi
      obtain ⟨entj, hj1, rfl⟩ := hesi c j e' hj
      obtain ⟨oi, h1, h2⟩ := hkd i enti hi1
      obtain ⟨oj, h3, h4⟩ := hkd j entj hj1
      have hn := ((hok' i oi h1).2 j oj h3 hne).1
      have h5 := h2 c
      have h6 := h4 c
      cases hd : oi.dst with
      | none =>
        cases hd' : oj.dst with
        | none =>
          rw [hd] at h5
          rw [hd'] at h6
          exact (show enti c = _ from h5).trans (show entj c = _ from h6).symm
        | some d' =>
          exfalso
          rw [hd] at h5
          rw [hd'] at h6
          replace h5 : (enti c).1 = x.n := by rw [show enti c = (x.n, false, .lit undef) from h5]
          have : d' < x.n := by simpa [Nat.blt_eq] using h6.2
          have e1 : d' = x.n := by rw [← h6.1, ← he, h5]
          rw [e1] at this; exact Nat.lt_irrefl _ this
      | some d =>
        exfalso
        cases hd' : oj.dst with
        | none =>
          rw [hd] at h5
          rw [hd'] at h6
          replace h6 : (entj c).1 = x.n := by rw [show entj c = (x.n, false, .lit undef) from h6]
          have : d < x.n := by simpa [Nat.blt_eq] using h5.2
          have e1 : d = x.n := by rw [← h5.1, he, h6]
          rw [e1] at this; exact Nat.lt_irrefl _ this
        | some d' =>
          rw [hd] at h5
          rw [hd'] at h6
          rcases hn with hn | hn
          · exact hn (by rw [hd, hd', ← h5.1, ← h6.1, he])
          · rw [hd'] at hn; cases hn
  have hdist : ∀ (c : Ks) listed, ∀ e ∈ esOf (es c) listed, ∀ e' ∈ esOf (es c) listed, e.1 = e'.1 → e = e' := by
    intro c listed e he e' he' hk
    obtain ⟨i, _, hi⟩ := mem_esOf.1 he
    obtain ⟨j, _, hj⟩ := mem_esOf.1 he'
    exact hkey c i j e e' hi hj hk
  refine wp_region_any hm ?_
  have key : ∀ (fuel : Nat) (listed : Array Bool) (a : Act) (w : World), listed.size = l.length → (∀ (i : Nat) (o : Oper), l[i]? = some o → listed.getD i false = true → ∀ e ∈ o.after, Region.binds .any e = true → listed.getD e.on false = true) →
      (∃ c, St x (esOf (es c) listed ++ L) (Mf (fun j => listed.getD j false) c) a w) → (fuel = 0 → ∀ i, i < l.length → listed.getD i false = true) → (listed.toList.filter (!·)).length ≤ fuel → wpAny x.P .any l.toArray Q fuel listed a w := by
    intro fuel
    have hdone : ∀ (listed : Array Bool) (a : Act) (w : World), listed.size = l.length → (∃ c, St x (esOf (es c) listed ++ L) (Mf (fun j => listed.getD j false) c) a w) → Region.ready .any l.toArray listed = [] → Q .normal a w := by
      rintro listed a w hsz ⟨c, hs⟩ hr
      have hall : ∀ i, i < l.length → listed.getD i false = true := by
        intro i
        induction i using Nat.strongRecOn with
        | _ i ih =>
          intro hi
          cases hli : listed.getD i false with
          | true => rfl
          | false =>
            exfalso
            have : i ∈ Region.ready .any l.toArray listed := by
              simp only [Region.ready, List.mem_filter, List.mem_range, List.size_toArray, Bool.and_eq_true]
              refine ⟨hi, ?_, ?_⟩
              · have : listed.getD i true = false := by
                  rw [Array.getD_eq_getD_getElem?, Array.getElem?_eq_getElem (by omega)] at hli ⊢
                  simpa using hli
                simp [this]
              · rw [List.getElem?_toArray, List.getElem?_eq_getElem hi]
                simp only [Option.map_some, Option.getD_some, Array.all_eq_true', Bool.or_eq_true, Bool.not_eq_true']
                intro e he
                cases hb : Region.binds .any e with
                | false => exact .inl rfl
                | true =>
                  have hlt := (hok' i l[i] (List.getElem?_eq_getElem hi)).1.1 e he hb
                  exact .inr (ih e.on hlt (by omega))
            rw [hr] at this
            cases this
      refine hW c _ (fun j hj => hall j (by simpa using hj)) a w (hs.look ?_)
      intro t p hl
      rw [look_append] at hl ⊢
      by_cases hk : ∃ e ∈ es c, e.1 = t
      · obtain ⟨e, he, rfl⟩ := hk
        obtain ⟨i, hi, hie⟩ := List.getElem_of_mem he
        have hie' : (es c)[i]? = some e := by rw [List.getElem?_eq_getElem hi, hie]
        have h1 : look (es c).reverse e.1 = some e.2 := look_mem (List.mem_reverse.2 he) (by
          intro e1 he1 e2 he2 hk
          obtain ⟨i1, hi1, hie1⟩ := List.getElem_of_mem (List.mem_reverse.1 he1)
          obtain ⟨i2, hi2, hie2⟩ := List.getElem_of_mem (List.mem_reverse.1 he2)
          exact hkey c i1 i2 e1 e2 (by rw [List.getElem?_eq_getElem hi1, hie1]) (by rw [List.getElem?_eq_getElem hi2, hie2]) hk)
        have h2 : look (esOf (es c) listed) e.1 = some e.2 := look_mem (mem_esOf.2 ⟨i, hall i (by have := hesl c; omega), hie'⟩) (hdist c listed)
        rw [h1] at hl
        rw [h2]
        simpa using hl
      · have h1 : look (es c).reverse t = none := look_none (fun e he h => hk ⟨e, List.mem_reverse.1 he, h⟩)
        rw [h1, Option.none_or] at hl
        have h2 : look (esOf (es c) listed) t = none := look_none (fun e he h => by
          obtain ⟨i, _, hi⟩ := mem_esOf.1 he
          exact hk ⟨e, List.mem_of_getElem? hi, h⟩)
        rw [h2, Option.none_or]
        exact hl
    induction fuel with
    | zero =>
      intro listed a w hsz hcl hs h0 _
      have hall := h0 rfl
      have hr : Region.ready .any l.toArray listed = [] := by
        apply List.eq_nil_iff_forall_not_mem.2
        intro i hi
        simp only [Region.ready, List.mem_filter, List.mem_range, List.size_toArray, Bool.and_eq_true, Bool.not_eq_true'] at hi
        have h1 := hall i hi.1
        have h2 := hi.2.1
        rw [Array.getD_eq_getD_getElem?, Array.getElem?_eq_getElem (by omega)] at h1 h2
        simp at h1 h2
        rw [h1] at h2
        cases h2
      exact ⟨hr, hdone listed a w hsz hs hr⟩
    | succ fuel ih =>
      rintro listed a w hsz hcl ⟨c, hs⟩ _ hcount
      refine ⟨hdone listed a w hsz ⟨c, hs⟩, fun i hi => ?_⟩
      simp only [Region.ready, List.mem_filter, List.mem_range, List.size_toArray, Bool.and_eq_true, Bool.not_eq_true'] at hi
      obtain ⟨hil, hnl, hdeps⟩ := hi
      have hnl' : listed.getD i false = false := by
        rw [Array.getD_eq_getD_getElem?, Array.getElem?_eq_getElem (by omega)] at hnl ⊢
        simpa using hnl
      have hoi : l[i]? = some l[i] := List.getElem?_eq_getElem hil
      generalize l[i] = oi at hoi
      obtain ⟨ent, he, hko, hdep, hob⟩ := hes i oi hoi
      have hce := hesm c i ent he
      rw [List.getElem?_toArray, hoi] at hdeps
      simp only [Option.map_some, Option.getD_some, Array.all_eq_true', Bool.or_eq_true, Bool.not_eq_true'] at hdeps
      have hdeps' : ∀ e ∈ oi.after, Region.binds .any e = true → listed.getD e.on false = true := by
        intro e he hb
        rcases hdeps e he with h' | h'
        · rw [hb] at h'; cases h'
        · exact h'
      -- what the operation looks at is known
      have hsee : ∀ t p, look (sel (oi.looksAt l.toArray) (((ents.take i).map (· c)).reverse ++ L)) t = some p → look (esOf (es c) listed ++ L) t = some p := by
        intro t p hl
        rw [look_sel] at hl
        split at hl
        · rename_i ht
          rw [look_append] at hl ⊢
          by_cases hk : ∃ j e, j < i ∧ (es c)[j]? = some e ∧ e.1 = t
          · obtain ⟨j, e, hji, hje, rfl⟩ := hk
            obtain ⟨oj, hoj, hdj⟩ := hget c j e hje
            replace hdj : oj.dst = some e.1 := by
              rcases hdj with h | ⟨_, h⟩
              · exact h
              · rw [h] at ht; exact absurd ht (hok' i oi hoi).1.2
            have hl1 : listed.getD j false = true := by
              rcases ((hok' i oi hoi).2 j oj hoj (by omega)).2 e.1 hdj ht with ⟨_, ed, hed, hb, ho⟩ | ⟨h', _⟩
              · rw [← ho]; exact hdeps' ed hed hb
              · omega
            have h1 : look ((ents.take i).map (· c)).reverse e.1 = some e.2 := look_mem (List.mem_reverse.2 (by rw [List.map_take]; exact List.mem_of_getElem? (i := j) (by rw [List.getElem?_take, if_pos hji]; exact hje))) (by
              intro e1 he1 e2 he2 hk
              obtain ⟨i1, hi1, hie1⟩ := List.getElem_of_mem (l := es c) (by have := List.mem_reverse.1 he1; rw [List.map_take] at this; exact List.mem_of_mem_take this)
              obtain ⟨i2, hi2, hie2⟩ := List.getElem_of_mem (l := es c) (by have := List.mem_reverse.1 he2; rw [List.map_take] at this; exact List.mem_of_mem_take this)
              exact hkey c i1 i2 e1 e2 (by rw [List.getElem?_eq_getElem hi1, hie1]) (by rw [List.getElem?_eq_getElem hi2, hie2]) hk)
            have h2 : look (esOf (es c) listed) e.1 = some e.2 := look_mem (mem_esOf.2 ⟨j, hl1, hje⟩) (hdist c listed)
            rw [h1] at hl
            rw [h2]
            simpa using hl
          · have h1 : look ((ents.take i).map (· c)).reverse t = none := look_none (fun e he h => by
              have he' := List.mem_reverse.1 he
              rw [List.map_take] at he'
              obtain ⟨j, hj, hje⟩ := List.getElem_of_mem he'
              rw [List.length_take] at hj
              refine hk ⟨j, e, by omega, ?_, h⟩
              rw [← hje, List.getElem_take]
              exact List.getElem?_eq_getElem _)
            rw [h1, Option.none_or] at hl
            have h2 : look (esOf (es c) listed) t = none := look_none (fun e he h => by
              obtain ⟨j, hlj, hje⟩ := mem_esOf.1 he
              obtain ⟨oj, hoj, hdj⟩ := hget c j e hje
              replace hdj : oj.dst = some e.1 := by
                rcases hdj with h' | ⟨_, h'⟩
                · exact h'
                · rw [← h, h'] at ht; exact absurd ht (hok' i oi hoi).1.2
              have hji : ¬ j < i := fun h' => hk ⟨j, e, h', hje, h⟩
              by_cases hij : i = j
              · subst hij; rw [hnl'] at hlj; cases hlj
              · rcases ((hok' i oi hoi).2 j oj hoj hij).2 e.1 hdj (h ▸ ht) with ⟨h', _⟩ | ⟨_, ed, hed, hb, ho⟩
                · exact hji h'
                · have := hcl j oj hoj hlj ed hed hb
                  rw [ho, hnl'] at this
                  cases this)
            rw [h2, Option.none_or]
            exact hl
        · cases hl
      -- behind it
      have hnext : ∀ a' w', (∃ c' : Ks, (∀ k, k ≠ i → c' k = c k) ∧ St x (ent c' :: (esOf (es c) listed ++ L)) (Mf (addE (fun j => listed.getD j false) i) c') a' w') → wpAny x.P .any l.toArray Q fuel (listed.setIfInBounds i true) a' w' := by
        rintro a' w' ⟨c', hcc, hst⟩
        have hset : ∀ j, (listed.setIfInBounds i true).getD j false = if i = j then true else listed.getD j false := by
          intro j
          rw [Array.getD_eq_getD_getElem?, Array.getD_eq_getD_getElem?, Array.getElem?_setIfInBounds]
          by_cases e : i = j
          · subst e; simp [hsz, hil]
          · simp [e]
        have hcnt : ((listed.setIfInBounds i true).toList.filter (!·)).length < (listed.toList.filter (!·)).length := by
          rw [Array.toList_setIfInBounds]
          have hlt : i < listed.toList.length := by simp [hsz]; exact hil
          have hv : listed.toList[i] = false := by
            rw [Array.getD_eq_getD_getElem?, Array.getElem?_eq_getElem (by omega)] at hnl'
            simpa using hnl'
          exact count_set _ i hlt hv
        have hMe : Mf (addE (fun j => listed.getD j false) i) c' = Mf (fun j => (listed.setIfInBounds i true).getD j false) c' := by
          congr 1
          funext j
          rw [hset]
          unfold addE
          rfl
        rw [hMe] at hst
        have hsame : ∀ j, listed.getD j false = true → (es c)[j]? = (es c')[j]? := by
          intro j hlj
          cases hx : ents[j]? with
          | none => show (ents.map (· c))[j]? = (ents.map (· c'))[j]?; rw [List.getElem?_map, List.getElem?_map, hx]; rfl
          | some entj =>
            obtain ⟨oj, hoj, _⟩ := hkd j entj hx
            obtain ⟨entj', hx', _, hd', _⟩ := hes j oj hoj
            rw [hx] at hx'; cases hx'
            rw [hesm c j entj hx, hesm c' j entj hx]
            refine congrArg some (hd' c c' ?_)
            intro m hm
            refine (hcc m ?_).symm
            rintro rfl
            rcases hm with h' | h'
            · rw [h', hlj] at hnl'; cases hnl'
            · have := ancN_closed (ops := l.toArray) (e := fun j => listed.getD j false) (fun j o ho hj ed hed hb => hcl j o (by simpa using ho) hj ed hed hb) _ m j hlj h'
              rw [hnl'] at this; cases this
        have hesE : esOf (es c) listed = esOf (es c') listed := by
          unfold esOf
          rw [hesl, hesl]
          refine fm_congr _ ?_
          intro j hj
          exact hsame j (by simpa using (List.mem_filter.1 hj).2)
        rw [hesE] at hst
        have he' := hesm c' i ent he
        refine ih _ a' w' (by simpa using hsz) ?_ ⟨c', hst.look ?_⟩ ?_ (by omega)
        · intro j o ho hlj e he hb
          rw [hset] at hlj ⊢
          split
          · rfl
          · split at hlj
            · rename_i hij; subst hij; rw [hoi] at ho; cases ho; exact hdeps' e he hb
            · exact hcl j o ho hlj e he hb
        · intro t p hl
          rw [look_append] at hl
          rw [show ent c' = ((ent c').1, (ent c').2) from rfl, look_cons]
          by_cases hdt : (ent c').1 = t
          · subst hdt
            rw [if_pos rfl]
            have h2 : look (esOf (es c') (listed.setIfInBounds i true)) (ent c').1 = some (ent c').2 := look_mem (mem_esOf.2 ⟨i, by rw [hset, if_pos rfl], he'⟩) (hdist c' _)
            rw [h2] at hl
            simpa using hl
          · rw [if_neg hdt, look_append]
            by_cases hk : ∃ e ∈ esOf (es c') listed, e.1 = t
            · obtain ⟨e, hee, rfl⟩ := hk
              obtain ⟨j, hlj, hje⟩ := mem_esOf.1 hee
              have h2 : look (esOf (es c') (listed.setIfInBounds i true)) e.1 = some e.2 := look_mem (mem_esOf.2 ⟨j, by rw [hset, hlj, ite_self], hje⟩) (hdist c' _)
              have h3 : look (esOf (es c') listed) e.1 = some e.2 := look_mem hee (hdist c' _)
              rw [h2] at hl
              rw [h3]
              exact hl
            · have h2 : look (esOf (es c') (listed.setIfInBounds i true)) t = none := look_none (fun e hee h => by
                obtain ⟨j, hlj, hje⟩ := mem_esOf.1 hee
                rw [hset] at hlj
                split at hlj
                · rename_i hij; subst hij; rw [he'] at hje; cases hje; exact hdt h
                · exact hk ⟨e, mem_esOf.2 ⟨j, hlj, hje⟩, h⟩)
              have h3 : look (esOf (es c') listed) t = none := look_none (fun e hee h => hk ⟨e, hee, h⟩)
              rw [h2, Option.none_or] at hl
              rw [h3, Option.none_or]
              exact hl
        · intro hf j hj
          rw [hset]
          split
          · rfl
          · rename_i hij
            subst hf
            cases hlj : listed.getD j false with
            | true => rfl
            | false =>
              exfalso
              have hz : ((listed.setIfInBounds i true).toList.filter (!·)).length = 0 := by omega
              have hz' := List.eq_nil_of_length_eq_zero hz
              have : false ∈ (listed.setIfInBounds i true).toList.filter (!·) := by
                rw [List.mem_filter]
                refine ⟨?_, rfl⟩
                have h5 := hset j
                rw [if_neg hij, hlj, Array.getD_eq_getD_getElem?, Array.getElem?_eq_getElem (by simp; omega)] at h5
                simp only [Option.getD_some] at h5
                rw [← h5]
                exact Array.mem_toList_iff.2 (Array.getElem_mem _)
              rw [hz'] at this
              cases this
      -- the operation itself
      have hst := hob (fun j => listed.getD j false) c ⟨fun j o ho hj ed hed hb => hcl j o (by simpa using ho) hj ed hed hb, hnl', fun o ho ed hed hb => by rw [List.getElem?_toArray, hoi] at ho; cases ho; exact hdeps' ed hed hb⟩ _ a w hsee hs Q
      unfold wpOp
      rw [List.getElem?_toArray, hoi]
      simp only
      split
      · rename_i hw
        rw [if_pos hw] at hst
        exact .inl (Oper.wp_mono hnext hst)
      · rename_i hw
        rw [if_neg hw] at hst
        exact hnext _ _ hst
  refine key _ _ _ _ (by simp) ?_ ?_ ?_ ?_
  · intro i o ho hl
    exfalso
    rw [Array.getD_eq_getD_getElem?] at hl
    rcases Nat.lt_or_ge i l.length with h' | h'
    · simp [h'] at hl
    · simp [h'] at hl
  · refine ⟨c0, ?_⟩
    have : esOf (es c0) (Array.replicate l.toArray.size false) = [] := by
      apply List.eq_nil_iff_forall_not_mem.2
      intro e he
      obtain ⟨i, hi, _⟩ := mem_esOf.1 he
      rw [Array.getD_eq_getD_getElem?] at hi
      rcases Nat.lt_or_ge i l.length with h' | h'
      · simp [h'] at hi
      · simp [h'] at hi
    have hfe : (fun j => (Array.replicate l.toArray.size false).getD j false) = fun _ => false := by
      funext j
      rw [Array.getD_eq_getD_getElem?]
      rcases Nat.lt_or_ge j l.length with h' | h'
      · simp [h']
      · simp [h']
    rw [this, List.nil_append, hfe]
    exact hs.same rfl rfl rfl rfl
  · intro h0 i hi
    simp at h0
    subst h0
    simp at hi
  · simp


/-! ### what such a region's operations are met by -/
section rules
variable {ops : Array Oper} {R : Act → World → Prop} {rest : List Oper} {done : Ks → List En} {ty : TypeId} {pos : String} {aft : Array Edge} {Mf : (Nat → Bool) → Ks → List ME} {i : Nat}

theorem ObM.pure {o : Oper} {d : Tmp} {G : Bool} {av : Ks → AV} (hd : o.dst = some d) (hdn : Nat.blt d x.n = true) (hG : ∀ c, Gd ops (sel (o.looksAt ops) (done c ++ L)) o G)
    (hsv : ∀ e c, OkE ops e i → G = true → Sv x (sel (o.looksAt ops) (done c ++ L)) (Mf e c) o (av c)) (hMf : ∀ e c, Mf (addE e i) c = Mf e c) : ObM x ops L Mf i o done (fun c => (d, G, av c)) := by
  intro e c hk L' a w hsub hs Q
  have hs0 := hs.look hsub
  have hw : Region.wanted o (yielded ops a.tmps) = G := by
    rcases hG c with ⟨h1, h2⟩ | ⟨j, want, t, gb, b, h1, h2, h3, h4⟩
    · rw [Region.wanted, h1, h2]
    · obtain ⟨dst, op, ty', pos', aft', gu⟩ := o
      simp only at h1
      subst h1
      rw [guard_of (want := want) h2 h3 hs0, h4]
  rw [hw]
  cases hG' : G with
  | true =>
    rw [if_pos rfl]
    refine hsv e c hk hG' a w hs0 _ _ ?_
    intro v w' hK hmm hf hr
    rw [hd]
    refine ⟨c, fun _ _ => rfl, ?_⟩
    rw [hMf]
    exact (hs.world hK hmm hf).put hdn true (av c) v (fun _ => hr) (by simp)
  | false =>
    rw [if_neg (by simp), hd]
    refine ⟨c, fun _ _ => rfl, ?_⟩
    rw [hMf]
    exact hs.put hdn false (av c) undef (by simp) (fun _ => rfl)

theorem DM.nil (h : ∀ c e, (∀ j, j < i → e j = true) → W x (done c ++ L) (Mf e c) R) : DM x ops L Mf R i [] done := h
theorem DM.pure {o : Oper} {d : Tmp} {G : Bool} {av : Ks → AV} (hd : o.dst = some d) (hdn : Nat.blt d x.n = true) (hG : ∀ c, Gd ops (sel (o.looksAt ops) (done c ++ L)) o G)
    (hsv : ∀ e c, OkE ops e i → G = true → Sv x (sel (o.looksAt ops) (done c ++ L)) (Mf e c) o (av c)) (hMf : ∀ e c, Mf (addE e i) c = Mf e c) (hi : ∀ c c' : Ks, (∀ k, (k = i ∨ anc ops k i = true) → c k = c' k) → av c = av c')
    (next : DM x ops L Mf R (i + 1) rest (fun c => (d, G, av c) :: done c)) : DM x ops L Mf R i (o :: rest) done := by
  refine ⟨fun c => (d, G, av c), ?_, fun c c' h => congrArg (fun a => (d, G, a)) (hi c c' h), ObM.pure hd hdn hG hsv hMf, next⟩
  intro c
  rw [hd]
  exact ⟨rfl, hdn⟩
theorem DM.q {d : Tmp} {op : Op} {av : Ks → AV} (he : ∀ e c, OkE ops e i → Ev x true (sel (Oper.looksAt ops ⟨some d, op, ty, pos, aft, none⟩) (done c ++ L)) (Mf e c) op ty (av c)) (hdn : Nat.blt d x.n = true)
    (hMf : ∀ e c, Mf (addE e i) c = Mf e c) (hi : ∀ c c' : Ks, (∀ k, (k = i ∨ anc ops k i = true) → c k = c' k) → av c = av c') (next : DM x ops L Mf R (i + 1) rest (fun c => (d, true, av c) :: done c)) :
    DM x ops L Mf R i (⟨some d, op, ty, pos, aft, none⟩ :: rest) done := DM.pure rfl hdn (fun _ => .inl ⟨rfl, rfl⟩) (fun e c hk _ => Sv.ev (he e c hk)) hMf hi next
theorem DM.qg {d : Tmp} {op : Op} {av : Ks → AV} {j : Nat} {t : Tmp} {gb b want : Bool} (hj : (ops[j]?).bind (·.dst) = some t) (hl : ∀ c, Vl.look (sel (Oper.looksAt ops ⟨some d, op, ty, pos, aft, some (j, want)⟩) (done c ++ L)) t = some (gb, .lit (.bool b)))
    (he : ∀ e c, OkE ops e i → Ev x (gb && (b == want)) (sel (Oper.looksAt ops ⟨some d, op, ty, pos, aft, some (j, want)⟩) (done c ++ L)) (Mf e c) op ty (av c)) (hdn : Nat.blt d x.n = true)
    (hMf : ∀ e c, Mf (addE e i) c = Mf e c) (hi : ∀ c c' : Ks, (∀ k, (k = i ∨ anc ops k i = true) → c k = c' k) → av c = av c') (next : DM x ops L Mf R (i + 1) rest (fun c => (d, gb && (b == want), av c) :: done c)) :
    DM x ops L Mf R i (⟨some d, op, ty, pos, aft, some (j, want)⟩ :: rest) done := DM.pure rfl hdn (fun c => .inr ⟨j, want, t, gb, b, rfl, hj, hl c, rfl⟩) (fun e c hk hb => Sv.ev ((he e c hk).strip hb)) hMf hi next
theorem DM.callp {f : FuncId} {d : Tmp} {os : List Operand} {ats : Array TypeId} {avs : Ks → List AV} {r : Ks → AV} (hc : ∀ c, FnP x.P f (avs c) (r c)) (ha : ∀ c, ArgsOv (sel (Oper.looksAt ops ⟨some d, .call ⟨.value (.func f), os.toArray, ats⟩, ty, pos, aft, none⟩) (done c ++ L)) os (avs c)) (hdn : Nat.blt d x.n = true)
    (hMf : ∀ e c, Mf (addE e i) c = Mf e c) (hi : ∀ c c' : Ks, (∀ k, (k = i ∨ anc ops k i = true) → c k = c' k) → r c = r c') (next : DM x ops L Mf R (i + 1) rest (fun c => (d, true, r c) :: done c)) :
    DM x ops L Mf R i (⟨some d, .call ⟨.value (.func f), os.toArray, ats⟩, ty, pos, aft, none⟩ :: rest) done := DM.pure rfl hdn (fun _ => .inl ⟨rfl, rfl⟩) (fun e c _ _ => Sv.callp (hc c) (ha c)) hMf hi next
theorem DM.callg {f : FuncId} {d : Tmp} {os : List Operand} {ats : Array TypeId} {avs : Ks → List AV} {r : Ks → AV} {j : Nat} {t : Tmp} {gb b want : Bool} (hj : (ops[j]?).bind (·.dst) = some t)
    (hl : ∀ c, Vl.look (sel (Oper.looksAt ops ⟨some d, .call ⟨.value (.func f), os.toArray, ats⟩, ty, pos, aft, some (j, want)⟩) (done c ++ L)) t = some (gb, .lit (.bool b)))
    (hc : ∀ c, (gb && (b == want)) = true → FnP x.P f (avs c) (r c)) (ha : ∀ c, (gb && (b == want)) = true → ArgsOv (sel (Oper.looksAt ops ⟨some d, .call ⟨.value (.func f), os.toArray, ats⟩, ty, pos, aft, some (j, want)⟩) (done c ++ L)) os (avs c)) (hdn : Nat.blt d x.n = true)
    (hMf : ∀ e c, Mf (addE e i) c = Mf e c) (hi : ∀ c c' : Ks, (∀ k, (k = i ∨ anc ops k i = true) → c k = c' k) → r c = r c') (next : DM x ops L Mf R (i + 1) rest (fun c => (d, gb && (b == want), r c) :: done c)) :
    DM x ops L Mf R i (⟨some d, .call ⟨.value (.func f), os.toArray, ats⟩, ty, pos, aft, some (j, want)⟩ :: rest) done :=
  DM.pure rfl hdn (fun c => .inr ⟨j, want, t, gb, b, rfl, hj, hl c, rfl⟩) (fun e c _ hb => Sv.callp (hc c hb) (ha c hb)) hMf hi next
theorem DM.bs {d : Tmp} {T E k bytes n : Nat} {z : Value} {ps : List (Nat × Operand)} {es : Ks → List AV} (hT : x.P.underlying T = some (.slice E)) (hE : Ty x.P E k bytes z)
    (hp : ∀ c, PartsOv (sel (Oper.looksAt ops ⟨some d, .buildSlice T n ps.toArray, ty, pos, aft, none⟩) (done c ++ L)) k 0 ps (es c)) (hn : ∀ c, n = (es c).length) (hb : n * k ≤ 16777216) (hk1 : Nat.ble 1 k = true) (hdn : Nat.blt d x.n = true)
    (hMf : ∀ e c, Mf (addE e i) c = Mf e c) (hi : ∀ c c' : Ks, (∀ k, (k = i ∨ anc ops k i = true) → c k = c' k) → es c = es c') (next : DM x ops L Mf R (i + 1) rest (fun c => (d, true, .sl k (es c)) :: done c)) : DM x ops L Mf R i (⟨some d, .buildSlice T n ps.toArray, ty, pos, aft, none⟩ :: rest) done :=
  DM.pure rfl hdn (fun _ => .inl ⟨rfl, rfl⟩) (fun e c _ _ => Sv.bs hT hE (hp c) (hn c) hb hk1) hMf (fun c c' h => by rw [hi c c' h]) next
theorem DM.bsg {d : Tmp} {T E k bytes n : Nat} {z : Value} {ps : List (Nat × Operand)} {es : Ks → List AV} {j : Nat} {t : Tmp} {gb b want : Bool} (hj : (ops[j]?).bind (·.dst) = some t)
    (hl : ∀ c, Vl.look (sel (Oper.looksAt ops ⟨some d, .buildSlice T n ps.toArray, ty, pos, aft, some (j, want)⟩) (done c ++ L)) t = some (gb, .lit (.bool b))) (hT : x.P.underlying T = some (.slice E)) (hE : Ty x.P E k bytes z)
    (hp : ∀ c, (gb && (b == want)) = true → PartsOv (sel (Oper.looksAt ops ⟨some d, .buildSlice T n ps.toArray, ty, pos, aft, some (j, want)⟩) (done c ++ L)) k 0 ps (es c)) (hn : ∀ c, n = (es c).length) (hb : n * k ≤ 16777216) (hk1 : Nat.ble 1 k = true) (hdn : Nat.blt d x.n = true)
    (hMf : ∀ e c, Mf (addE e i) c = Mf e c) (hi : ∀ c c' : Ks, (∀ k, (k = i ∨ anc ops k i = true) → c k = c' k) → es c = es c') (next : DM x ops L Mf R (i + 1) rest (fun c => (d, gb && (b == want), .sl k (es c)) :: done c)) : DM x ops L Mf R i (⟨some d, .buildSlice T n ps.toArray, ty, pos, aft, some (j, want)⟩ :: rest) done :=
  DM.pure rfl hdn (fun c => .inr ⟨j, want, t, gb, b, rfl, hj, hl c, rfl⟩) (fun e c _ hb' => Sv.bs hT hE (hp c hb') (hn c) hb hk1) hMf (fun c c' h => by rw [hi c c' h]) next

theorem DM.eff0 {op : Op} (hW : ∀ e c, OkE ops e i → ∀ L', (∀ t p, Vl.look (sel (Oper.looksAt ops ⟨none, op, ty, pos, aft, none⟩) (done c ++ L)) t = some p → Vl.look L' t = some p) → ∀ Q : Exit → Act → World → Prop,
      W x L' (Mf (addE e i) c) (wpList x.P ops Q []) → W x L' (Mf e c) (wpList x.P ops Q [⟨none, op, ty, pos, aft, none⟩]))
    (next : DM x ops L Mf R (i + 1) rest (fun c => (x.n, false, .lit undef) :: done c)) : DM x ops L Mf R i (⟨none, op, ty, pos, aft, none⟩ :: rest) done := by
  refine ⟨fun c => (x.n, false, .lit undef), fun c => rfl, fun _ _ _ => rfl, ?_, next⟩
  intro e c hk L' a w hsub hs
  refine stepE_of rfl ?_
  refine hW e c hk L' hsub _ ?_ a w hs
  exact fun a' w' hs' => ⟨rfl, c, fun _ _ => rfl, hs'.ghost⟩
theorem DM.eff1 {op : Op} {d : Tmp} {av : Ks → AV} (hdn : Nat.blt d x.n = true) (hi : ∀ c c' : Ks, (∀ k, (k = i ∨ anc ops k i = true) → c k = c' k) → av c = av c')
    (hW : ∀ e c, OkE ops e i → ∀ L', (∀ t p, Vl.look (sel (Oper.looksAt ops ⟨some d, op, ty, pos, aft, none⟩) (done c ++ L)) t = some p → Vl.look L' t = some p) → ∀ Q : Exit → Act → World → Prop,
      (∀ z M', List.Perm M' (Mf (addE e i) (upd c i z)) → W x ((d, true, av (upd c i z)) :: L') M' (wpList x.P ops Q [])) → W x L' (Mf e c) (wpList x.P ops Q [⟨some d, op, ty, pos, aft, none⟩]))
    (next : DM x ops L Mf R (i + 1) rest (fun c => (d, true, av c) :: done c)) : DM x ops L Mf R i (⟨some d, op, ty, pos, aft, none⟩ :: rest) done := by
  refine ⟨fun c => (d, true, av c), fun c => ⟨rfl, hdn⟩, fun c c' h => congrArg (fun a => (d, true, a)) (hi c c' h), ?_, next⟩
  intro e c hk L' a w hsub hs
  refine stepE_of rfl ?_
  refine hW e c hk L' hsub _ ?_ a w hs
  intro z M' hp a' w' hs'
  exact ⟨rfl, upd c i z, fun k hk => if_neg hk, (hs'.perm hp)⟩
end rules
end draw
end Go.Vl
end

section
set_option linter.unusedVariables false
set_option linter.unusedSimpArgs false
namespace Go.Vl
/-- nil stands for the row of no element -/
def NilL : List AV → List AV → Prop
  | [], [] => True
  | a :: as_, b :: bs => (a = b ∨ (a = .lit (.slice none 0 0) ∧ ∃ k, b = .sl k [])) ∧ NilL as_ bs
  | _, _ => False
theorem NilL.rep {w : World} {N : List Nat} : ∀ {as_ bs : List AV} {row : List Value}, NilL as_ bs → RepL w N as_ row → RepL w N bs row
  | [], [], _, _, hr => hr
  | a :: as_, b :: bs, row, h, hr => by
    simp only [RepL] at hr ⊢
    obtain ⟨v, vs, e, ⟨h1, h2, h3⟩, h4⟩ := hr
    refine ⟨v, vs, e, ?_, NilL.rep h.2 h4⟩
    rcases h.1 with rfl | ⟨rfl, k, rfl⟩
    · exact ⟨h1, h2, h3⟩
    · have hv0 : [v] = (Value.slice none 0 0).cells.toList := by simpa only [RepC] using h3
      have hv : [v] = [Value.slice none 0 0] := hv0
      obtain rfl := (List.cons.inj hv).1
      exact ⟨rfl, rfl, by simp only [RepC]; exact ⟨none, 0, rfl, Nat.le_refl _, by simp [maxLen], .inl trivial⟩⟩
  | [], _ :: _, _, h, _ => h.elim
  | _ :: _, [], _, h, _ => h.elim
theorem W.nils {x : Cx} {L : List (Tmp × Bool × AV)} {M : List ME} {R : Act → World → Prop} {t : Tmp} {g : Bool} {cs cs' : List AV} (h : look L t = some (g, .agg cs)) (hc : NilL cs cs') (next : W x ((t, g, .agg cs') :: L) M R) : W x L M R := by
  intro a w hs
  refine next a w ⟨hs.defers, hs.size, ?_, hs.mem, hs.fr, hs.old⟩
  intro u g' av' hl
  rw [look_cons] at hl
  by_cases e : t = u
  · subst e; rw [if_pos rfl] at hl; cases hl
    have h1 := hs.slots t g _ h
    refine ⟨fun hg => ?_, h1.2⟩
    obtain ⟨h2, h3⟩ := h1.1 hg
    refine ⟨h2, ?_⟩
    simp only [RepC] at h3 ⊢
    exact hc.rep h3
  · rw [if_neg e] at hl; exact hs.slots u g' av' hl
namespace Nd
/-- path p leads to d -/
def atP : List Nd → List Int → Nd → Prop
  | _, [], _ => False
  | l, k :: p, d => ∃ i : Nat, k = (i : Int) ∧ i < l.length ∧ ((p = [] ∧ l.getD i dflt = d) ∨ (p ≠ [] ∧ atP (l.getD i dflt).parts p d))
theorem mem_paths : ∀ (l : List Nd) (k : Nat) (p : List Int), p ∈ pthsFrom k l → ∃ (i : Nat) (r : List Int), p = ((k + i : Nat) : Int) :: r ∧ i < l.length ∧ (r = [] ∨ r ∈ pthsFrom 0 (l.getD i dflt).parts)
  | [], k, p, h => by simp [pthsFrom] at h
  | d :: l, k, p, h => by
    simp only [pthsFrom, List.mem_cons, List.mem_append, List.mem_map] at h
    rcases h with rfl | ⟨q, hq, rfl⟩ | h
    · exact ⟨0, [], by simp, by simp, .inl rfl⟩
    · exact ⟨0, q, by simp, by simp, .inr (by rw [pths_eq] at hq; exact hq)⟩
    · obtain ⟨i, r, h1, h2, h3⟩ := mem_paths l (k + 1) p h
      exact ⟨i + 1, r, by rw [h1]; congr 2; omega, by simp; omega, by simpa using h3⟩
mutual
def wf : Nd → Prop
  | mk n _ _ p => (n = [] → p = []) ∧ wfs p
def wfs : List Nd → Prop
  | [] => True
  | d :: l => wf d ∧ wfs l
end
/-- one path stands ahead of another -/
def bfr : List Int → List Int → Bool
  | _, [] => false
  | [], _ :: _ => true
  | x :: a, y :: b => if x = y then bfr a b else decide (x < y)
theorem bfr_lt (x y : Int) (a b : List Int) (h : x < y) : bfr (x :: a) (y :: b) = true := by
  have : x ≠ y := by omega
  simp [bfr, this, h]
mutual
theorem pths_ord : ∀ d : Nd, (pths d).Pairwise (fun a b => bfr a b = true)
  | mk _ _ _ p => pthsFrom_ord p 0
theorem pthsFrom_ord : ∀ (l : List Nd) (k : Nat), (pthsFrom k l).Pairwise (fun a b => bfr a b = true)
  | [], _ => List.Pairwise.nil
  | d :: l, k => by
    rw [pthsFrom, List.pairwise_cons, List.pairwise_append, List.pairwise_map]
    refine ⟨?_, ?_, pthsFrom_ord l (k + 1), ?_⟩
    · intro p hp
      rcases List.mem_append.1 hp with hp | hp
      · obtain ⟨q, hq, rfl⟩ := List.mem_map.1 hp
        rw [pths_eq] at hq
        obtain ⟨i, r, rfl, _⟩ := mem_paths _ 0 q hq
        simp [bfr]
      · obtain ⟨i, r, rfl, _⟩ := mem_paths _ (k + 1) p hp
        exact bfr_lt _ _ _ _ (by omega)
    · refine (pths_ord d).imp ?_
      intro a b h
      simpa [bfr] using h
    · intro p hp q hq
      obtain ⟨p', _, rfl⟩ := List.mem_map.1 hp
      obtain ⟨i, r, rfl, _⟩ := mem_paths _ (k + 1) q hq
      exact bfr_lt _ _ _ _ (by omega)
end
end Nd
end Go.Vl
end

section
set_option linter.unusedVariables false
set_option linter.unusedSimpArgs false
set_option linter.unusedSectionVars false
namespace Go.Vl
open Go Go.Sem
section callg
variable {x : Cx} {L : List (Tmp × Bool × AV)} {M : List ME} {ops : Array Oper} {Q : Exit → Act → World → Prop} {rest : List Oper}
theorem W.callg {f : FuncId} {d : Tmp} {fo : Operand} {caps : List Value} {os : List Operand} {ats : Array TypeId} {ty : TypeId} {pos : String} {aft : Array Edge} {avs avs' : List AV} {r : AV} {Min Mr : List ME} {j : Nat} {want : Bool} {t : Tmp} {gb b G : Bool}
    (hj : (ops[j]?).bind (·.dst) = some t) (hl : look L t = some (gb, .lit (.bool b))) (hG : G = (gb && (b == want)))
    (hc : G = true → FnC x.P f avs' Min (fun r' M' => r' = r ∧ M' = Min)) (hfo : G = true → Ov true L fo (.lit (.func (.func f) #[] caps.toArray))) (ha : G = true → ArgsOv L os avs) (he : avs' = avs ++ caps.map .lit) (hM : List.Perm M (Min ++ Mr)) (hd : Nat.blt d x.n = true)
    (next : W x ((d, G, r) :: L) M (wpList x.P ops Q rest)) :
    W x L M (wpList x.P ops Q (⟨some d, .call ⟨.value fo, os.toArray, ats⟩, ty, pos, aft, some (j, want)⟩ :: rest)) := by
  intro a w hs
  have hw := guard_of (d := some d) (op := .call ⟨.value fo, os.toArray, ats⟩) (ty := ty) (pos := pos) (aft := aft) (want := want) hj hl hs
  rw [← hG] at hw
  cases hGv : G with
  | true =>
    have h := W.callv (ops := ops) (Q := Q) (rest := rest) (ats := ats) (ty := ty) (pos := pos) (aft := aft) (hc hGv) (hfo hGv) (ha hGv) he hM hd (fun r' M' hp => by
      obtain ⟨rfl, rfl⟩ := hp
      rw [hGv] at next
      exact W.perm hM.symm next) a w hs
    unfold wpList at h ⊢
    rw [if_pos (by rw [hw, hGv])]
    rw [if_pos (by simp [Region.wanted])] at h
    exact h
  | false =>
    refine wpList_cons_skip (by rw [hw, hGv]) ?_
    rw [hGv] at next
    exact next _ _ (hs.put hd false r undef (by simp) (fun _ => rfl))
theorem W.callgF {f : FuncId} {d : Tmp} {fo : Operand} {caps : List Value} {os : List Operand} {ats : Array TypeId} {ty : TypeId} {pos : String} {aft : Array Edge} {avs avs' : List AV} {r : AV} {Min Mr : List ME} {j : Nat} {t : Tmp} {b : Bool}
    (hj : (ops[j]?).bind (·.dst) = some t) (hl : look L t = some (true, .lit (.bool b)))
    (hc : (!b) = true → FnC x.P f avs' Min (fun r' M' => r' = r ∧ M' = Min)) (hfo : (!b) = true → Ov true L fo (.lit (.func (.func f) #[] caps.toArray))) (ha : (!b) = true → ArgsOv L os avs) (he : avs' = avs ++ caps.map .lit) (hM : List.Perm M (Min ++ Mr)) (hd : Nat.blt d x.n = true)
    (next : W x ((d, !b, r) :: L) M (wpList x.P ops Q rest)) :
    W x L M (wpList x.P ops Q (⟨some d, .call ⟨.value fo, os.toArray, ats⟩, ty, pos, aft, some (j, false)⟩ :: rest)) :=
  W.callg hj hl (by simp) hc hfo ha he hM hd next
theorem W.callgF' {f : FuncId} {d : Tmp} {fo : Operand} {caps : List Value} {os : List Operand} {ats : Array TypeId} {ty : TypeId} {pos : String} {aft : Array Edge} {avs avs' : List AV} {r : AV} {Min Mr : List ME} {j : Nat} {t : Tmp} {gb b : Bool}
    (hj : (ops[j]?).bind (·.dst) = some t) (hl : look L t = some (gb, .lit (.bool b)))
    (hc : (gb && !b) = true → FnC x.P f avs' Min (fun r' M' => r' = r ∧ M' = Min)) (hfo : (gb && !b) = true → Ov true L fo (.lit (.func (.func f) #[] caps.toArray))) (ha : (gb && !b) = true → ArgsOv L os avs) (he : avs' = avs ++ caps.map .lit) (hM : List.Perm M (Min ++ Mr)) (hd : Nat.blt d x.n = true)
    (next : W x ((d, gb && !b, r) :: L) M (wpList x.P ops Q rest)) :
    W x L M (wpList x.P ops Q (⟨some d, .call ⟨.value fo, os.toArray, ats⟩, ty, pos, aft, some (j, false)⟩ :: rest)) :=
  W.callg hj hl (by simp) hc hfo ha he hM hd next
end callg
/-- AN ARRAY OF THE CALL's OWN IS WRITTEN NO MORE; what else is known of the slots stays. -/
theorem W.freezeA {x : Cx} {L : List (Tmp × Bool × AV)} {M : List ME} {R : Act → World → Prop} {v : Value} {T k : Nat} {es : List AV} {L' : List (Tmp × Bool × AV)} {M1 M2 D : List ME} (hM : List.Perm M (ME.arr v T k es :: (M1 ++ D))) (hL : FSub v k es L L') (hM2 : FrzMs v k es M1 M2) (h : W x (L' ++ L) M2 R) : W x L M R := by
  intro a w hs
  have h1 : St x L' M2 a w := W.freeze (x := x) (R := fun a w => St x L' M2 a w) hM hL hM2 (fun a w hs => hs) a w hs
  have hp2 : List.Perm M (M1 ++ (ME.arr v T k es :: D)) := hM.trans (List.perm_middle.symm)
  have h2 : St x L M1 a w := by
    obtain ⟨hm, hk, hsub⟩ := hs.mem.sub hp2
    exact ⟨hs.defers, hs.size, fun t g av hl => ⟨fun hg => ((hs.slots t g av hl).1 hg).keep hk, (hs.slots t g av hl).2⟩, hm, hs.fr.sub hsub, hs.old⟩
  refine h a w ⟨h1.defers, h1.size, ?_, h1.mem, h1.fr, h1.old⟩
  intro t g av hl
  rw [look_append] at hl
  cases hx : look L' t with
  | some p => rw [hx, Option.some_or] at hl; obtain rfl := Option.some.inj hl; exact h1.slots t g av hx
  | none =>
    rw [hx, Option.none_or] at hl
    have := h2.slots t g av hl
    rw [hM2.bl]
    exact this
/-- a row by a function of the place -/
abbrev rowB (n : Nat) (f : Nat → Bool) : List AV := (List.range n).map fun k => AV.bool (f k)
theorem okc_strs (l : List (List UInt8)) : ∀ e ∈ l.map AV.str, e.okc = true := by
  intro e he
  obtain ⟨d, _, rfl⟩ := List.mem_map.1 he
  rfl
/-- the first place where it holds, or -1 -/
def idxI {α : Type} (p : α → Bool) : List α → Int
  | [] => -1
  | a :: l => if p a then 0 else if idxI p l < 0 then -1 else idxI p l + 1
theorem idxI_any {α : Type} (p : α → Bool) : ∀ l : List α, decide (0 ≤ idxI p l) = l.any p
  | [] => rfl
  | a :: l => by
    have ih := idxI_any p l
    rw [List.any_cons, ← ih, idxI]
    cases h : p a with
    | true => simp
    | false =>
      rw [if_neg (by simp), Bool.false_or]
      split <;> simp <;> omega
theorem idxI_ge {α : Type} (p : α → Bool) : ∀ l : List α, -1 ≤ idxI p l
  | [] => by simp [idxI]
  | a :: l => by have := idxI_ge p l; rw [idxI]; split <;> (try split) <;> omega
theorem idxI_lt {α : Type} (p : α → Bool) : ∀ l : List α, idxI p l < l.length
  | [] => by simp [idxI]
  | a :: l => by have := idxI_lt p l; have := idxI_ge p l; rw [idxI, List.length_cons]; split <;> (try split) <;> omega
theorem idxI_miss {α : Type} (p : α → Bool) : ∀ l : List α, (∀ d ∈ l, p d = false) → idxI p l = -1
  | [], _ => rfl
  | a :: l, h => by rw [idxI, h a (by simp), idxI_miss p l (fun d hd => h d (by simp [hd]))]; simp
theorem idxI_hit {α : Type} (p : α → Bool) (z : α) : ∀ (l : List α) (i : Nat), i < l.length → (∀ d ∈ l.take i, p d = false) → p (l.getD i z) = true → idxI p l = i
  | [], i, h, _, _ => by simp at h
  | a :: l, 0, _, _, h => by
    have h' : p a = true := by simpa using h
    simp [idxI, h']
  | a :: l, i + 1, h1, h2, h3 => by
    have ih := idxI_hit p z l i (by simpa using h1) (fun d hd => h2 d (by simp [hd])) (by simpa using h3)
    rw [idxI, h2 a (by simp), ih]
    simp
    omega
/-- is a text a name? -/
def nameCh (r : Int) : Bool := ((decide (97 ≤ r) && decide (r ≤ 122)) || (decide (48 ≤ r) && decide (r ≤ 57))) || r == 45
def nameOk (s : List UInt8) : Bool := !(((s == [] || decide ((12 : Int) < (s.length : Int))) || decide (((s.getD 0 0).toNat : Int) < 97)) || decide ((122 : Int) < ((s.getD 0 0).toNat : Int))) && !((runes s).any fun r => !(nameCh (r : Int)))
end Go.Vl
end

section
set_option linter.unusedVariables false
set_option linter.unusedSimpArgs false
namespace Go.Vl
structure Rl where
  name : List UInt8
  act : Int
  to : List UInt8
abbrev rav (r : Rl) : AV := .agg [.str r.name, .int r.act, .str r.to]
namespace Nd
theorem text_mk (n : List UInt8) (a : List Dc) (t : List UInt8) (q : List Nd) : (mk n a t q).text = t := rfl
/-- is the last one a text? (p: where there is none) -/
def lastT (p : Bool) (l : List Nd) : Bool := match l.getLast? with
  | none => p
  | some d => d.name == []
theorem lastT_nil (p : Bool) : lastT p [] = p := rfl
theorem lastT_snoc (p : Bool) (l : List Nd) (d : Nd) : lastT p (l ++ [d]) = (d.name == []) := by simp [lastT]
theorem lastT_cons (p : Bool) (d : Nd) (l : List Nd) : lastT p (d :: l) = lastT (d.name == []) l := by
  rcases List.eq_nil_or_concat l with rfl | ⟨m, e, rfl⟩
  · simp [lastT]
  · rw [List.concat_eq_append, ← List.cons_append, lastT_snoc, lastT_snoc]
mutual
/-- texts are not empty, hold nothing, and do not stand side by side (p: does one stand ahead?); elements have no text -/
def apt : Nd → Bool
  | mk _ _ _ q => apts false q
def apts : Bool → List Nd → Bool
  | _, [] => true
  | p, d :: l => (if d.name = [] then (!(d.text == []) && (d.parts.length == 0 && d.attrs.length == 0)) && !p else (d.text == []) && apt d) && apts (d.name == []) l
end
theorem apt_eq (d : Nd) : apt d = apts false d.parts := by cases d; rfl
def apt1 (p : Bool) (d : Nd) : Bool := if d.name = [] then (!(d.text == []) && (d.parts.length == 0 && d.attrs.length == 0)) && !p else (d.text == []) && apts false d.parts
theorem apts_cons (p : Bool) (d : Nd) (l : List Nd) : apts p (d :: l) = (apt1 p d && apts (d.name == []) l) := by rw [apts, apt_eq]; rfl
theorem apts_append (l m : List Nd) : ∀ p, apts p (l ++ m) = (apts p l && apts (lastT p l) m) := by
  induction l with
  | nil => intro p; rw [List.nil_append, lastT_nil, apts, Bool.true_and]
  | cons d l ih => intro p; rw [List.cons_append, apts_cons, apts_cons, ih, lastT_cons, Bool.and_assoc]
theorem apts_one (p : Bool) (d : Nd) : apts p [d] = apt1 p d := by rw [apts_cons, apts, Bool.and_true]
mutual
/-- all texts, one behind the other -/
def wd : Nd → List UInt8
  | mk _ _ _ q => wds q
def wds : List Nd → List UInt8
  | [] => []
  | d :: l => (d.text ++ wd d) ++ wds l
end
theorem wd_eq (d : Nd) : wd d = wds d.parts := by cases d; rfl
theorem wds_append (l m : List Nd) : wds (l ++ m) = wds l ++ wds m := by
  induction l with
  | nil => rfl
  | cons d l ih => rw [List.cons_append, wds, wds, ih]; simp
theorem wds_one (d : Nd) : wds [d] = d.text ++ wds d.parts := by rw [wds, wds, List.append_nil, wd_eq]
theorem wds_snoc (l : List Nd) (i : Nat) (h : i < l.length) : wds (l.take (i + 1)) = wds (l.take i) ++ ((l.getD i dflt).text ++ wds (l.getD i dflt).parts) := by
  rw [take_getDG dflt l i h, wds_append, wds_one]
mutual
/-- the bytes of all texts, and of all names and values -/
def tsz : Nd → Nat
  | mk _ _ t q => t.length + tszs q
def tszs : List Nd → Nat
  | [] => 0
  | d :: l => tsz d + tszs l
end
theorem tsz_eq (d : Nd) : tsz d = d.text.length + tszs d.parts := by cases d; rfl
theorem tszs_append (l m : List Nd) : tszs (l ++ m) = tszs l + tszs m := by
  induction l with
  | nil => simp [tszs]
  | cons d l ih => rw [List.cons_append, tszs, tszs, ih]; omega
mutual
theorem wd_len : ∀ d : Nd, d.text.length + (wd d).length = tsz d
  | mk _ _ t q => by have := wds_len q; simp only [wd, tsz, text_mk]; omega
theorem wds_len : ∀ l : List Nd, (wds l).length = tszs l
  | [] => rfl
  | d :: l => by have := wd_len d; have := wds_len l; simp only [wds, tszs, List.length_append]; omega
end
mutual
/-- have all elements one of these names? -/
def onl (ns : List (List UInt8)) : Nd → Bool
  | mk _ _ _ q => onls ns q
def onls (ns : List (List UInt8)) : List Nd → Bool
  | [] => true
  | d :: l => ((d.name == [] || ns.any fun s => d.name == s) && onl ns d) && onls ns l
end
/-- a node behind others; texts side by side are one -/
def jn1 (out : List Nd) (n : Nd) : List Nd :=
  if n.name = [] ∧ lastT false out = true then out.dropLast ++ [mk [] (out.getD (out.length - 1) dflt).attrs ((out.getD (out.length - 1) dflt).text ++ n.text) (out.getD (out.length - 1) dflt).parts] else out ++ [n]
def jn : List Nd → List Nd → List Nd
  | out, [] => out
  | out, n :: more => jn (jn1 out n) more
end Nd
namespace Rl
open Nd
abbrev dfl : Rl := ⟨[], 2, []⟩
/-- what is done with an element of a name -/
def of (rs : List Rl) (nm : List UInt8) : Rl := if 0 ≤ idxI (fun q => q.name == nm) rs then rs.getD (idxI (fun q => q.name == nm) rs).toNat dfl else dfl
def step (rs : List Rl) (out : List Nd) (d : Nd) (sub : List Nd) : List Nd :=
  if d.name = [] then (if d.text = [] then out else jn1 out (Nd.mk [] [] d.text []))
  else if (of rs d.name).act = 1 then out ++ [Nd.mk (of rs d.name).to d.attrs [] sub]
  else if (of rs d.name).act = 2 then jn out sub else out
mutual
def subs (rs : List Rl) : Nd → List Nd
  | .mk _ _ _ q => run rs [] q
def run (rs : List Rl) : List Nd → List Nd → List Nd
  | out, [] => out
  | out, d :: l => run rs (step rs out d (subs rs d)) l
end
mutual
/-- elements have no text, texts hold nothing -/
def plain : Nd → Prop
  | .mk n a t q => (n = [] → q = [] ∧ a = []) ∧ (n ≠ [] → t = []) ∧ plains q
def plains : List Nd → Prop
  | [] => True
  | d :: l => plain d ∧ plains l
end
/-- elements that are kept as_ they are -/
def kept (rs : List Rl) (nm : List UInt8) : Prop := (of rs nm).act = 1 ∧ (of rs nm).to = nm
mutual
def kp (rs : List Rl) : Nd → Prop
  | .mk n _ _ q => (n ≠ [] → kept rs n) ∧ kps rs q
def kps (rs : List Rl) : List Nd → Prop
  | [] => True
  | d :: l => kp rs d ∧ kps rs l
end
/-- texts that stand in no element -/
def outer (l : List Nd) : List UInt8 := l.flatMap text
end Rl
end Go.Vl
end

section
set_option linter.unusedVariables false
set_option linter.unusedSimpArgs false
namespace Go.Vl
namespace Mrk
theorem grp_facts {d : Nat} {r : Rn} {l : List Rn} {m : List UInt8} (hmd : r.2.getD d [] = m) (hlt : d < r.2.length) :
    (r :: l).takeWhile (inG d m) ≠ [] ∧ (∀ x ∈ (r :: l).takeWhile (inG d m), x ∈ r :: l ∧ x.2.getD d [] = m ∧ x.2.length ≠ d) ∧ (∀ x ∈ (r :: l).dropWhile (inG d m), x ∈ r :: l) := by
  have hg : inG d m r = true := by unfold inG; rw [hmd]; simp; omega
  refine ⟨by rw [List.takeWhile_cons, if_pos hg]; simp, fun x hx => ?_, fun x hx => (List.dropWhile_sublist _).subset hx⟩
  have h1 := List.all_takeWhile (p := inG d m) (l := r :: l)
  rw [List.all_eq_true] at h1
  have h2 := h1 x hx
  unfold inG at h2
  simp only [Bool.and_eq_true, beq_iff_eq, Bool.not_eq_true', beq_eq_false_iff_ne] at h2
  exact ⟨(List.takeWhile_sublist _).subset hx, h2.2, h2.1⟩
theorem wds_nest : ∀ (f d : Nat) (l : List Rn), wt d l < f → (∀ r ∈ l, d ≤ r.2.length) → Nd.wds (nestF f d l) = tx l
  | 0, d, l, hf, _ => by omega
  | f + 1, d, [], hf, _ => rfl
  | f + 1, d, r :: l, hf, hw => by
    have hr := hw r List.mem_cons_self
    have hwt : wt d (r :: l) = r.2.length - d + 1 + wt d l := by simp [wt]
    rw [nestF]
    split
    · rename_i hd
      rw [Nd.wds, wds_nest f d l (by omega) fun x hx => hw x (List.mem_cons_of_mem _ hx)]
      show (r.1 ++ Nd.wds []) ++ tx l = _
      rw [show Nd.wds [] = [] from rfl, List.append_nil]
      simp [tx]
    · rename_i hd
      obtain ⟨m, hmd⟩ : ∃ m, r.2.getD d [] = m := ⟨_, rfl⟩
      rw [hmd]
      obtain ⟨g1, g2, g3⟩ := grp_facts (l := l) hmd (by omega)
      have hsplit := List.takeWhile_append_dropWhile (p := inG d m) (l := r :: l)
      have hGlen : ∀ x ∈ (r :: l).takeWhile (inG d m), d < x.2.length := fun x hx => by
        have h1 := g2 x hx
        have h2 := hw x h1.1
        omega
      have hw1 := wt_lt hGlen g1
      have hw2 := wt_append d ((r :: l).takeWhile (inG d m)) ((r :: l).dropWhile (inG d m))
      rw [hsplit] at hw2
      rw [Nd.wds]
      show ([] ++ Nd.wds (nestF f (d + 1) _)) ++ _ = _
      rw [wds_nest f (d + 1) _ (by omega) (fun x hx => hGlen x hx), wds_nest f d _ (by omega) (fun x hx => hw x (g3 x hx)), List.nil_append, ← tx_append, hsplit]
theorem Nrm.tail {r : Rn} : ∀ {l : List Rn}, Nrm (r :: l) → Nrm l
  | [], _ => trivial
  | _ :: _, h => h.2.2
theorem Nrm.right : ∀ {a b : List Rn}, Nrm (a ++ b) → Nrm b
  | [], _, h => h
  | _ :: a, _, h => Nrm.right (a := a) (Nrm.tail h)
theorem Nrm.left : ∀ {a b : List Rn}, Nrm (a ++ b) → Nrm a
  | [], _, _ => trivial
  | [r], [], h => h
  | [r], _ :: _, h => h.1
  | r :: s :: a, b, h => ⟨h.1, h.2.1, Nrm.left (a := s :: a) (b := b) h.2.2⟩
theorem Nrm.head {r : Rn} : ∀ {l : List Rn}, Nrm (r :: l) → r.1 ≠ []
  | [], h => h
  | _ :: _, h => h.1
theorem apts_nest : ∀ (f d : Nat) (l : List Rn) (w : List (List UInt8)) (p : Bool), wt d l < f → (∀ r ∈ l, r.2.take d = w ∧ d ≤ r.2.length) → (∀ r ∈ l, ∀ m ∈ r.2, m ≠ []) → Nrm l → (p = true → ∀ r, l.head? = some r → r.2.length ≠ d) → Nd.apts p (nestF f d l) = true
  | 0, d, l, w, p, hf, _, _, _, _ => by omega
  | f + 1, d, [], w, p, hf, _, _, _, _ => rfl
  | f + 1, d, r :: l, w, p, hf, hw, hm, hn, hp => by
    have hr := hw r List.mem_cons_self
    have hwt : wt d (r :: l) = r.2.length - d + 1 + wt d l := by simp [wt]
    rw [nestF]
    split
    · rename_i hd
      have hpf : p = false := by
        cases p with
        | false => rfl
        | true => exact absurd hd (hp rfl r rfl)
      have hne := hn.head
      rw [Nd.apts_cons, Nd.apt1]
      have hrw : r.2 = w := by rw [← hr.1, ← hd, List.take_length]
      have ih := apts_nest f d l w true (by omega) (fun x hx => hw x (List.mem_cons_of_mem _ hx)) (fun x hx => hm x (List.mem_cons_of_mem _ hx)) hn.tail (fun _ s hs => by
        cases l with
        | nil => cases hs
        | cons t l =>
          cases hs
          intro e
          have h1 := hw s (List.mem_cons_of_mem _ List.mem_cons_self)
          have h2 : s.2 = w := by rw [← h1.1, ← e, List.take_length]
          exact hn.2.1 (by rw [hrw, h2]))
      rw [hpf, if_pos (show (Nd.mk [] [] r.1 []).name = [] from rfl)]
      show ((!(r.1 == []) && ((([] : List Nd).length == 0) && (([] : List Dc).length == 0))) && !false && Nd.apts true (nestF f d l)) = true
      rw [ih]
      simp [hne]
    · rename_i hd
      obtain ⟨m, hmd⟩ : ∃ m, r.2.getD d [] = m := ⟨_, rfl⟩
      rw [hmd]
      have hlt : d < r.2.length := by omega
      have hmr : m ∈ r.2 := by rw [← hmd, List.getD_eq_getElem?_getD, List.getElem?_eq_getElem hlt]; exact List.getElem_mem hlt
      have hmn := hm r List.mem_cons_self m hmr
      obtain ⟨g1, g2, g3⟩ := grp_facts (l := l) hmd hlt
      have hsplit := List.takeWhile_append_dropWhile (p := inG d m) (l := r :: l)
      have hGlen : ∀ x ∈ (r :: l).takeWhile (inG d m), d < x.2.length := fun x hx => by
        have h1 := g2 x hx
        have h2 := hw x h1.1
        omega
      have hw1 := wt_lt hGlen g1
      have hw2 := wt_append d ((r :: l).takeWhile (inG d m)) ((r :: l).dropWhile (inG d m))
      rw [hsplit] at hw2
      have hnn : Nrm ((r :: l).takeWhile (inG d m) ++ (r :: l).dropWhile (inG d m)) := by rw [hsplit]; exact hn
      have i1 := apts_nest f (d + 1) _ (w ++ [m]) false (by omega) (fun x hx => by
        have h1 := g2 x hx
        have h2 := hw x h1.1
        have h3 := hGlen x hx
        refine ⟨?_, h3⟩
        rw [List.take_succ_eq_append_getElem h3, h2.1]
        congr 2
        rw [← h1.2.1, List.getD_eq_getElem?_getD, List.getElem?_eq_getElem h3]; rfl) (fun x hx => hm x (g2 x hx).1) hnn.left (fun h => by cases h)
      have i2 := apts_nest f d _ w false (by omega) (fun x hx => hw x (g3 x hx)) (fun x hx => hm x (g3 x hx)) hnn.right (fun h => by cases h)
      have hb : (m == []) = false := by simpa using hmn
      rw [Nd.apts_cons, Nd.apt1]
      show ((if m = [] then _ else (([] : List UInt8) == []) && Nd.apts false (nestF f (d + 1) _)) && Nd.apts (m == []) _) = true
      rw [if_neg hmn, hb, i1, i2]; rfl
mutual
/-- is an element's name among the marks, and what is within it of those behind it? (prev: the name ahead) -/
def nb1 (ms : List (List UInt8)) (prev : List UInt8) : Nd → Bool
  | .mk n _ _ ps => n == [] || (ms.contains n && !(prev == n) && !(ps.length == 0) && nbL (ms.drop (ms.idxOf n + 1)) [] ps)
def nbL (ms : List (List UInt8)) (prev : List UInt8) : List Nd → Bool
  | [] => true
  | d :: l => nb1 ms prev d && nbL ms d.name l
end
theorem sub_drop {m : List UInt8} {t : List (List UInt8)} : ∀ {ms : List (List UInt8)}, ms.Nodup → (m :: t).Sublist ms → t.Sublist (ms.drop (ms.idxOf m + 1))
  | [], _, h => by cases h
  | x :: ms, hn, h => by
    by_cases hx : x = m
    · subst hx
      rw [List.idxOf_cons_self]
      exact List.cons_sublist_cons.1 h
    · have h2 : (m :: t).Sublist ms := by
        cases h with
        | cons _ h => exact h
        | cons_cons _ h => exact absurd rfl hx
      rw [show (x :: ms).idxOf m = ms.idxOf m + 1 from by rw [List.idxOf_cons, show (x == m) = false from beq_eq_false_iff_ne.2 hx]; rfl]
      exact sub_drop (List.nodup_cons.1 hn).2 h2
theorem nestF_ne {f d : Nat} {l : List Rn} (h : l ≠ []) : nestF (f + 1) d l ≠ [] := by
  cases l with
  | nil => exact absurd rfl h
  | cons r l => rw [nestF]; split <;> simp
theorem nb_nest : ∀ (f d : Nat) (l : List Rn) (w : List (List UInt8)) (ms : List (List UInt8)) (prev : List UInt8), wt d l < f → (∀ r ∈ l, r.2.take d = w ∧ d ≤ r.2.length ∧ (r.2.drop d).Sublist ms) → (∀ r ∈ l, ∀ m ∈ r.2, m ≠ []) → ms.Nodup → (∀ r, l.head? = some r → r.2.length = d ∨ r.2.getD d [] ≠ prev) → nbL ms prev (nestF f d l) = true
  | 0, d, l, w, ms, prev, hf, _, _, _, _ => by omega
  | f + 1, d, [], w, ms, prev, hf, _, _, _, _ => by rw [nestF, nbL]
  | f + 1, d, r :: l, w, ms, prev, hf, hw, hm, hn, hp => by
    have hr := hw r List.mem_cons_self
    have hwt : wt d (r :: l) = r.2.length - d + 1 + wt d l := by simp [wt]
    have hne : ∀ (e : Nat) (x : Rn), x ∈ r :: l → e ≤ x.2.length → x.2.length = e ∨ x.2.getD e [] ≠ [] := fun e x hx he => by
      rcases Nat.eq_or_lt_of_le he with h | h
      · exact .inl h.symm
      · right
        rw [List.getD_eq_getElem?_getD, List.getElem?_eq_getElem h]
        exact hm x hx _ (List.getElem_mem h)
    rw [nestF]
    split
    · rename_i hd
      rw [nbL, nb1]
      have ih := nb_nest f d l w ms [] (by omega) (fun x hx => hw x (List.mem_cons_of_mem _ hx)) (fun x hx => hm x (List.mem_cons_of_mem _ hx)) hn (fun x hx => by
        cases l with
        | nil => cases hx
        | cons t l => cases hx; exact hne d x (List.mem_cons_of_mem _ List.mem_cons_self) (hw x (List.mem_cons_of_mem _ List.mem_cons_self)).2.1)
      show (true && nbL ms [] (nestF f d l)) = true
      rw [ih]; rfl
    · rename_i hd
      obtain ⟨m, hmd⟩ : ∃ m, r.2.getD d [] = m := ⟨_, rfl⟩
      rw [hmd]
      have hlt : d < r.2.length := by omega
      have hmr : m ∈ r.2 := by rw [← hmd, List.getD_eq_getElem?_getD, List.getElem?_eq_getElem hlt]; exact List.getElem_mem hlt
      have hmn := hm r List.mem_cons_self m hmr
      obtain ⟨g1, g2, g3⟩ := grp_facts (l := l) hmd hlt
      have hsplit := List.takeWhile_append_dropWhile (p := inG d m) (l := r :: l)
      have hGlen : ∀ x ∈ (r :: l).takeWhile (inG d m), d < x.2.length := fun x hx => by
        have h1 := g2 x hx
        have h2 := hw x h1.1
        omega
      have hw1 := wt_lt hGlen g1
      have hw2 := wt_append d ((r :: l).takeWhile (inG d m)) ((r :: l).dropWhile (inG d m))
      rw [hsplit] at hw2
      have hcut : ∀ x ∈ (r :: l).takeWhile (inG d m), x.2.drop d = m :: x.2.drop (d + 1) := fun x hx => by
        have h3 := hGlen x hx
        rw [List.drop_eq_getElem_cons h3]
        congr 1
        rw [← (g2 x hx).2.1, List.getD_eq_getElem?_getD, List.getElem?_eq_getElem h3]; rfl
      have hmem : m ∈ ms := by
        have h1 := hr.2.2
        rw [List.drop_eq_getElem_cons hlt] at h1
        have h2 : r.2[d] = m := by rw [← hmd, List.getD_eq_getElem?_getD, List.getElem?_eq_getElem hlt]; rfl
        rw [h2] at h1
        exact h1.subset List.mem_cons_self
      have hpm : prev ≠ m := fun e => by
        rcases hp r rfl with h | h
        · exact hd h
        · exact h (hmd.trans e.symm)
      have i1 := nb_nest f (d + 1) _ (w ++ [m]) (ms.drop (ms.idxOf m + 1)) [] (by omega) (fun x hx => by
        have h1 := g2 x hx
        have h2 := hw x h1.1
        have h3 := hGlen x hx
        refine ⟨?_, h3, ?_⟩
        · rw [List.take_succ_eq_append_getElem h3, h2.1]
          congr 2
          rw [← h1.2.1, List.getD_eq_getElem?_getD, List.getElem?_eq_getElem h3]; rfl
        · have h4 := h2.2.2
          rw [hcut x hx] at h4
          exact sub_drop hn h4) (fun x hx => hm x (g2 x hx).1) (hn.sublist (List.drop_sublist _ _)) (fun x hx => by
        have hx' := List.mem_of_mem_head? hx
        exact hne (d + 1) x (g2 x hx').1 (hGlen x hx'))
      have i2 := nb_nest f d _ w ms m (by omega) (fun x hx => hw x (g3 x hx)) (fun x hx => hm x (g3 x hx)) hn (fun x hx => by
        have h1 := List.head?_dropWhile_not (inG d m) (r :: l)
        rw [hx] at h1
        simp only [inG, Bool.and_eq_false_iff, Bool.not_eq_false', beq_iff_eq, beq_eq_false_iff_ne] at h1
        exact h1)
      obtain ⟨f', rfl⟩ : ∃ f', f = f' + 1 := ⟨f - 1, by omega⟩
      have hpn : (nestF (f' + 1) (d + 1) ((r :: l).takeWhile (inG d m))).length ≠ 0 := fun e => nestF_ne g1 (List.eq_nil_of_length_eq_zero e)
      rw [nbL, nb1, i1]
      show (_ && nbL ms m _) = true
      rw [i2]
      simp [hmem, hpm, hpn, hmn]
end Mrk
end Go.Vl
end
