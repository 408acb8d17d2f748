/-
  Merged: Str Style Bld Tree Walk CallG Map ArrV Copy Rules Drawn Emit Ref Rep Sty Url Base.
-/
import Derived.Test.YtohncieijjhnjaaDoorG2
import Derived.Laws.StructEq
import Derived.Lib.Builder
import Derived.Lib.UnsafeStr
import Derived.Laws.Pointers
import Derived.Laws.Externs
import Derived.Laws.Cover3
import Derived.MapKept
import Derived.Lib.Overlaps
import Derived.Lib.Bytealg
import Derived.Lib.IndexMore
import Derived.Lib.SlTrimSet
import Derived.Test.YtohncieijjhnjaaDoorRows

section
set_option linter.unusedVariables false
set_option linter.unusedSimpArgs false
set_option linter.unusedSectionVars false
namespace Go.Vl
open Go Go.Sem
variable {x : Cx} {g : Bool} {L : List (Tmp × Bool × AV)} {M : List ME} {ty : TypeId}

def PlacesAt (P : Program) : List Field → List (Nat × Nat) → Prop
  | [], [] => True
  | f :: fs, (o, k) :: ps => f.offset = o ∧ (∀ w, (sizeOf f.type).run P w = .ok k w) ∧ PlacesAt P fs ps
  | _, _ => False
def StructAt (P : Program) (T : TypeId) (pl : List (Nat × Nat)) : Prop := ∃ fields : List Field, P.underlying T = some (.struct fields.toArray) ∧ PlacesAt P fields pl
theorem PlacesAt.run {P : Program} : ∀ {fs : List Field} {ps : List (Nat × Nat)}, PlacesAt P fs ps → ∀ w, (fs.mapM (fun (f : Field) => (do Pure.pure (f.offset, ← sizeOf f.type) : Sem (Nat × Nat)))).run P w = .ok ps w
  | [], [], _, w => by simp
  | f :: fs, (o, k) :: ps, h, w => by
    obtain ⟨rfl, h1, h2⟩ := h
    rw [List.mapM_cons]
    simp only [Sem.run_bind, h1, Result.andThen_ok, Sem.run_pure, h2.run w]
  | [], _ :: _, h, _ => h.elim
  | _ :: _, [], h, _ => h.elim

def BuildOv (g : Bool) (L : List (Tmp × Bool × AV)) (pl : List (Nat × Nat)) : List (Nat × Operand) → List AV → List AV → Prop
  | [], cs, res => cs = res
  | (f, o) :: ps, cs, res => ∃ off k av, pl[f]? = some (off, k) ∧ Ov g L o av ∧ av.okc = true ∧ av.cells.length = k ∧ Nat.ble (off + k) cs.length = true ∧ BuildOv g L pl ps (Vl.splice cs off av.cells) res

theorem BuildOv.run {a : Act} {w : World} (hs : St x L M a w) {pl : List (Nat × Nat)} : ∀ {ps : List (Nat × Operand)} {cs res : List AV} {cells : Array Value}, BuildOv true L pl ps cs res → RepL w (bl M ++ x.F) cs cells.toList →
    ∃ cells', Instr.fill (pl.toArray[·]?) cells (ps.map fun (i, o) => (i, a.eval o)) = some cells' ∧ RepL w (bl M ++ x.F) res cells'.toList
  | [], cs, res, cells, h, hr => by
    have h' : cs = res := h
    subst h'
    exact ⟨cells, rfl, hr⟩
  | (f, o) :: ps, cs, res, cells, h, hr => by
    obtain ⟨off, k, av, h1, h2, ho, hk, hl, h3⟩ := h
    have hv := h2.rep rfl hs
    have hvl := hv.toL ho
    have hlen : (a.eval o).cells.size = k := by have := hvl.length; simp at this; omega
    have hcl := hr.length
    have hl' := Nat.le_of_ble_eq_true hl
    simp at hcl
    have hfold := foldl_set (a.eval o).cells.toList off 0 cells (by simp [hlen]; omega)
    rw [Nat.add_zero] at hfold
    obtain ⟨cells', hf, hres⟩ := BuildOv.run hs (cells := wr cells off (a.eval o).cells.toList) h3 (hr.splice hvl)
    refine ⟨cells', ?_, hres⟩
    have hpl : (pl.toArray[f]? : Option (Nat × Nat)) = some (off, k) := by simpa using h1
    simp only [List.map_cons, Instr.fill, hpl]
    have hne : ¬ ((a.eval o).cells.size ≠ k ∨ off + (a.eval o).cells.size > cells.size) := by rw [hlen]; omega
    rw [if_neg (by simpa using hne)]
    rw [← hf]
    congr 1
    rw [← hfold]
    rw [← Array.foldl_toList, Array.toList_zipIdx]

theorem RepL.lits {w : World} {N : List Nat} : ∀ (vs : List Value), vs.all (fun v => shV v == 0) = true → RepL w N (vs.map .lit) vs
  | [], _ => by simp [RepL]
  | v :: vs, h => by
    simp only [List.all_cons, Bool.and_eq_true, beq_iff_eq] at h
    simp only [List.map_cons, RepL]
    refine ⟨v, vs, rfl, ⟨h.1, h.1, ?_⟩, RepL.lits vs h.2⟩
    simp only [RepC]
    cases v <;> first | rfl | (simp [shV] at h)

theorem Ev.build {T k bytes : Nat} {z : Value} {pl : List (Nat × Nat)} {ps : List (Nat × Operand)} {res : List AV} (hT : Ty x.P T k bytes z) (hst : StructAt x.P T pl) (hz : z.cells.toList.all (fun v => shV v == 0) = true)
    (hb : g = true → BuildOv true L pl ps (z.cells.toList.map .lit) res) : Ev x g L M (.build T ps.toArray) ty (.agg res) := fun a w hs hg => by
  obtain ⟨fields, hT', hp⟩ := hst
  obtain ⟨cells', hf, hres⟩ := BuildOv.run hs (cells := z.cells) (hb hg) (RepL.lits _ hz)
  have hf' : Instr.fill (pl.toArray[·]?) z.cells (ps.toArray.map fun p => (p.1, a.eval p.2)).toList = some cells' := by rw [← hf]; congr 1; simp
  refine ⟨.agg cells', ?_, rfl, by simp only [RepC]; exact hres⟩
  have hm : (fields.toArray.mapM (fun (f : Field) => (do Pure.pure (f.offset, ← sizeOf f.type) : Sem (Nat × Nat)))).run x.P w = .ok pl.toArray w := by
    rw [List.mapM_toArray]
    have h2 := hp.run w
    generalize (fields.mapM (fun (f : Field) => (do Pure.pure (f.offset, ← sizeOf f.type) : Sem (Nat × Nat)))) = m at h2 ⊢
    simp [h2]
  simp only [execOp, Instr.build, Sem.run_bind, hT.zero, run_underlying hT', Result.andThen_ok, hm]
  rw [hf']
  simp

theorem Ev.max {o1 o2 : Operand} {T T' : TypeId} {ki : IntKind} {p q : Int} (h1 : Ov g L o1 (.lit (.int ki p))) (h2 : Ov g L o2 (.lit (.int ki q))) : Ev x g L M (.call ⟨.builtin .max, #[o1, o2], #[T, T']⟩) ty (.lit (.int ki (if q > p then q else p))) := Ev.pure fun a w hs hg => by
  simp [execOp, resolve, invoke, builtin, h1.lit hg hs, h2.lit hg hs, Builtin.max_, Builtin.max2]

/-- a struct of two strings -/
def Str2 (P : Program) (T : TypeId) : Prop := ∃ f1 f2 : Field, P.underlying T = some (.struct (P.fieldsOf T)) ∧ (P.fieldsOf T).toList = [f1, f2] ∧ P.stoodInHeld T = false ∧ P.eqGuardType P.depth T = false ∧
  f1.name ≠ "_" ∧ f2.name ≠ "_" ∧ f1.offset = 0 ∧ f2.offset = 1 ∧ P.underlying f1.type = some .string ∧ P.underlying f2.type = some .string
theorem Str2.of {P : Program} {T : TypeId} {f1 f2 : Field} (hU : P.underlying T = some (.struct #[f1, f2])) (hp : P.stoodInHeld T = false) (hm : P.eqGuardType P.depth T = false) (n1 : f1.name ≠ "_") (n2 : f2.name ≠ "_") (k1 : f1.offset = 0) (k2 : f2.offset = 1)
    (u1 : P.underlying f1.type = some .string) (u2 : P.underlying f2.type = some .string) : Str2 P T := by
  have h : P.fieldsOf T = #[f1, f2] := by rw [Program.fieldsOf, hU]
  exact ⟨f1, f2, by rw [h, hU], by rw [h], hp, hm, n1, n2, k1, k2, u1, u2⟩
end Go.Vl
end

section
set_option linter.unusedVariables false
set_option linter.unusedSimpArgs false
namespace Go.Vl
abbrev Dc := List UInt8 × List UInt8
abbrev dav (d : Dc) : AV := .agg [.str d.1, .str d.2]
theorem getD_mapG {α : Type} (f : α → AV) (z : α) (l : List α) (i : Nat) (h : i < l.length) : (l.map f)[i]? = some (f (l.getD i z)) := by
  rw [List.getD_eq_getElem?_getD, List.getElem?_map, List.getElem?_eq_getElem h]; rfl
theorem getD_memG {α : Type} (z : α) (l : List α) (i : Nat) (h : i < l.length) : l.getD i z ∈ l := by
  rw [List.getD_eq_getElem?_getD, List.getElem?_eq_getElem h]; exact List.getElem_mem h
theorem take_getDG {α : Type} (z : α) (l : List α) (i : Nat) (h : i < l.length) : l.take (i + 1) = l.take i ++ [l.getD i z] := by
  rw [List.take_add_one, List.getD_eq_getElem?_getD, List.getElem?_eq_getElem h]; rfl
theorem drop_getDG {α : Type} (z : α) (l : List α) (i : Nat) (h : i < l.length) : l.drop i = l.getD i z :: l.drop (i + 1) := by
  rw [List.drop_eq_getElem_cons h, List.getD_eq_getElem?_getD, List.getElem?_eq_getElem h]; rfl
theorem pick_mod (l : List (List UInt8)) (z : Int) (n : Nat) (h : l.length = n) (hn : 0 < n) : ∃ s ∈ l, (l.map AV.str)[(z % (n : Int)).toNat]? = some (.str s) := by
  have h1 := Int.emod_nonneg z (show (n : Int) ≠ 0 by omega)
  have h2 := Int.emod_lt_of_pos z (show (0 : Int) < n by omega)
  exact ⟨_, getD_memG [] l _ (by omega), getD_mapG AV.str [] l _ (by omega)⟩
theorem any_take_false {α : Type} (p : α → Bool) (l : List α) (h : ∀ d ∈ l, p d = false) : l.any p = false := by
  rw [List.any_eq_false]; intro d hd; rw [h d hd]; simp
def only (ns : List (List UInt8)) : List Dc → List Dc
  | [] => []
  | d :: t => if (ns.any fun s => d.1 == s) && !(t.any fun e => e.1 == d.1) then d :: only ns t else only ns t
def lastv (n : List UInt8) (l : List Dc) : List UInt8 := match (l.filter fun d => d.1 == n).getLast? with
  | some d => d.2
  | none => []
abbrev nmc : List UInt8 := [99, 111, 108, 111, 114]
abbrev nma : List UInt8 := [97, 45, 98]
abbrev nms : List (List UInt8) := [nmc, nma]
end Go.Vl
end

section
set_option linter.unusedVariables false
set_option linter.unusedSimpArgs false
set_option linter.unusedSectionVars false
namespace Go.Vl
open Go Go.Sem
section ev
variable {x : Cx} {g : Bool} {L : List (Tmp × Bool × AV)} {M : List ME} {ty : TypeId} {T T' : TypeId} {o1 o2 : Operand}

theorem Ev.nilc {a : Addr} (h1 : Ov g L o1 (.lit (.pointer (some a)))) : Ev x g L M (.nilCheck o1) ty (.lit (.pointer (some a))) := Ev.pure fun ac w hs hg => by
  simp [execOp, h1.lit hg hs]
/-- the address of a row's first element -/
def dataOf : Value → Value
  | .slice a _ _ => .pointer a
  | v => v
def deadOf : Value → Value
  | .slice (some ⟨g, _, _⟩) _ _ => .slice (some ⟨g, 0, none⟩) 0 0
  | v => v
end ev

theorem set_same {α : Type} {l : List α} {i : Nat} {a : α} (h : l[i]? = some a) : l.set i a = l := by
  apply List.ext_getElem?
  intro j
  rw [List.getElem?_set]
  split
  · rename_i e; subst e
    split
    · exact h.symm
    · rename_i hl; rw [List.getElem?_eq_none (by omega)] at h; cases h
  · rfl
/-- what an own row's slice is -/
theorem W.arr_inv {x : Cx} {L : List (Tmp × Bool × AV)} {M : List ME} {R : Act → World → Prop} (i : Nat) {v : Value} {U k : Nat} {es : List AV} (hM : M[i]? = some (.arr v U k es)) (h : ∀ a n c, v = .slice a n c → W x L M R) : W x L M R := fun a w hs => by
  obtain ⟨ad, cap, e, _⟩ := hs.mem.holds _ (List.mem_of_getElem? hM)
  exact h _ _ _ e a w hs
section str
variable {x : Cx} {L : List (Tmp × Bool × AV)} {M : List ME} {ty : TypeId} {T1 T2 : TypeId} {o1 o2 : Operand} {ops : Array Oper} {Q : Exit → Act → World → Prop} {rest : List Oper} {pos : String} {aft : Array Edge}
end str
end Go.Vl
end

section
set_option linter.unusedVariables false
set_option linter.unusedSimpArgs false
namespace Go.Vl
open Go Go.Sem
inductive Nd where
  | mk (name : List UInt8) (attrs : List Dc) (text : List UInt8) (parts : List Nd)
namespace Nd
def name : Nd → List UInt8 | mk n _ _ _ => n
def attrs : Nd → List Dc | mk _ a _ _ => a
def text : Nd → List UInt8 | mk _ _ t _ => t
def parts : Nd → List Nd | mk _ _ _ p => p
mutual
def av : Nd → AV
  | mk n a t p => .agg [.str n, .sl 2 (a.map dav), .str t, .sl 4 (avs p)]
def avs : List Nd → List AV
  | [] => []
  | d :: l => av d :: avs l
end
mutual
def sz : Nd → Nat
  | mk _ a _ p => 1 + a.length + szs p
def szs : List Nd → Nat
  | [] => 0
  | d :: l => sz d + szs l
end
abbrev avx (d : Nd) : AV := .agg [.str d.name, .sl 2 (d.attrs.map dav), .str d.text, .sl 4 (d.parts.map av)]
theorem sz_eq (d : Nd) : d.sz = 1 + d.attrs.length + szs d.parts := by cases d; rfl
mutual
def cnt : Nd → Nat
  | mk _ _ _ p => 1 + cnts p
def cnts : List Nd → Nat
  | [] => 0
  | d :: l => cnt d + cnts l
end
mutual
theorem cnt_le : ∀ d : Nd, d.cnt ≤ d.sz
  | mk _ a _ p => by have := cnts_le p; simp only [cnt, sz]; omega
theorem cnts_le : ∀ l : List Nd, cnts l ≤ szs l
  | [] => Nat.le_refl _
  | d :: l => by have := cnt_le d; have := cnts_le l; simp only [cnts, szs]; omega
end
mutual
def pths : Nd → List (List Int)
  | mk _ _ _ p => pthsFrom 0 p
def pthsFrom : Nat → List Nd → List (List Int)
  | _, [] => []
  | k, d :: l => [(k : Int)] :: ((pths d).map ((k : Int) :: ·) ++ pthsFrom (k + 1) l)
end
theorem pths_eq (d : Nd) : d.pths = pthsFrom 0 d.parts := by cases d; rfl
mutual
theorem pths_len : ∀ d : Nd, d.pths.length + 1 = d.cnt
  | mk _ _ _ p => by have := pthsFrom_len p 0; simp only [pths, cnt]; omega
theorem pthsFrom_len : ∀ (l : List Nd) (k : Nat), (pthsFrom k l).length = cnts l
  | [], _ => rfl
  | d :: l, k => by have h1 := pths_len d; have h2 := pthsFrom_len l (k + 1); simp only [pthsFrom, cnts, List.length_cons, List.length_append, List.length_map]; omega
end
mutual
theorem pths_deep : ∀ (d : Nd) (p : List Int), p ∈ d.pths → p.length < d.sz
  | mk _ a _ q, p, h => by have := pthsFrom_deep q 0 p h; simp only [sz]; omega
theorem pthsFrom_deep : ∀ (l : List Nd) (k : Nat) (p : List Int), p ∈ pthsFrom k l → p.length ≤ szs l
  | [], _, _, h => by simp [pthsFrom] at h
  | d :: l, k, p, h => by
    simp only [pthsFrom, List.mem_cons, List.mem_append, List.mem_map] at h
    have h1 := sz_eq d
    rcases h with rfl | ⟨q, hq, rfl⟩ | h
    · simp only [szs, List.length_singleton]; omega
    · have := pths_deep d q hq; simp only [szs, List.length_cons]; omega
    · have := pthsFrom_deep l (k + 1) p h; simp only [szs]; omega
end
def dflt : Nd := mk [] [] [] []
end Nd
abbrev pav (p : List Int) : AV := .sl 1 (p.map AV.int)
end Go.Vl
end

section
set_option linter.unusedVariables false
set_option linter.unusedSimpArgs false
namespace Go.Vl
/-- nil stands for the row of no element -/
def NilL : List AV → List AV → Prop
  | [], [] => True
  | a :: as_, b :: bs => (a = b ∨ (a = .lit (.slice none 0 0) ∧ ∃ k, b = .sl k [])) ∧ NilL as_ bs
  | _, _ => False
theorem NilL.rep {w : World} {N : List Nat} : ∀ {as_ bs : List AV} {row : List Value}, NilL as_ bs → RepL w N as_ row → RepL w N bs row
  | [], [], _, _, hr => hr
  | a :: as_, b :: bs, row, h, hr => by
    simp only [RepL] at hr ⊢
    obtain ⟨v, vs, e, ⟨h1, h2, h3⟩, h4⟩ := hr
    refine ⟨v, vs, e, ?_, NilL.rep h.2 h4⟩
    rcases h.1 with rfl | ⟨rfl, k, rfl⟩
    · exact ⟨h1, h2, h3⟩
    · have hv0 : [v] = (Value.slice none 0 0).cells.toList := by simpa only [RepC] using h3
      have hv : [v] = [Value.slice none 0 0] := hv0
      obtain rfl := (List.cons.inj hv).1
      exact ⟨rfl, rfl, by simp only [RepC]; exact ⟨none, 0, rfl, Nat.le_refl _, by simp [maxLen], .inl trivial⟩⟩
  | [], _ :: _, _, h, _ => h.elim
  | _ :: _, [], _, h, _ => h.elim
namespace Nd
/-- path p leads to d -/
def atP : List Nd → List Int → Nd → Prop
  | _, [], _ => False
  | l, k :: p, d => ∃ i : Nat, k = (i : Int) ∧ i < l.length ∧ ((p = [] ∧ l.getD i dflt = d) ∨ (p ≠ [] ∧ atP (l.getD i dflt).parts p d))
theorem mem_paths : ∀ (l : List Nd) (k : Nat) (p : List Int), p ∈ pthsFrom k l → ∃ (i : Nat) (r : List Int), p = ((k + i : Nat) : Int) :: r ∧ i < l.length ∧ (r = [] ∨ r ∈ pthsFrom 0 (l.getD i dflt).parts)
  | [], k, p, h => by simp [pthsFrom] at h
  | d :: l, k, p, h => by
    simp only [pthsFrom, List.mem_cons, List.mem_append, List.mem_map] at h
    rcases h with rfl | ⟨q, hq, rfl⟩ | h
    · exact ⟨0, [], by simp, by simp, .inl rfl⟩
    · exact ⟨0, q, by simp, by simp, .inr (by rw [pths_eq] at hq; exact hq)⟩
    · obtain ⟨i, r, h1, h2, h3⟩ := mem_paths l (k + 1) p h
      exact ⟨i + 1, r, by rw [h1]; congr 2; omega, by simp; omega, by simpa using h3⟩
mutual
def wf : Nd → Prop
  | mk n _ _ p => (n = [] → p = []) ∧ wfs p
def wfs : List Nd → Prop
  | [] => True
  | d :: l => wf d ∧ wfs l
end
/-- one path stands ahead of another -/
def bfr : List Int → List Int → Bool
  | _, [] => false
  | [], _ :: _ => true
  | x :: a, y :: b => if x = y then bfr a b else decide (x < y)
theorem bfr_lt (x y : Int) (a b : List Int) (h : x < y) : bfr (x :: a) (y :: b) = true := by
  have : x ≠ y := by omega
  simp [bfr, this, h]
mutual
theorem pths_ord : ∀ d : Nd, (pths d).Pairwise (fun a b => bfr a b = true)
  | mk _ _ _ p => pthsFrom_ord p 0
theorem pthsFrom_ord : ∀ (l : List Nd) (k : Nat), (pthsFrom k l).Pairwise (fun a b => bfr a b = true)
  | [], _ => List.Pairwise.nil
  | d :: l, k => by
    rw [pthsFrom, List.pairwise_cons, List.pairwise_append, List.pairwise_map]
    refine ⟨?_, ?_, pthsFrom_ord l (k + 1), ?_⟩
    · intro p hp
      rcases List.mem_append.1 hp with hp | hp
      · obtain ⟨q, hq, rfl⟩ := List.mem_map.1 hp
        rw [pths_eq] at hq
        obtain ⟨i, r, rfl, _⟩ := mem_paths _ 0 q hq
        simp [bfr]
      · obtain ⟨i, r, rfl, _⟩ := mem_paths _ (k + 1) p hp
        exact bfr_lt _ _ _ _ (by omega)
    · refine (pths_ord d).imp ?_
      intro a b h
      simpa [bfr] using h
    · intro p hp q hq
      obtain ⟨p', _, rfl⟩ := List.mem_map.1 hp
      obtain ⟨i, r, rfl, _⟩ := mem_paths _ (k + 1) q hq
      exact bfr_lt _ _ _ _ (by omega)
end
end Nd
end Go.Vl
end

section
set_option linter.unusedVariables false
set_option linter.unusedSimpArgs false
set_option linter.unusedSectionVars false
namespace Go.Vl
open Go Go.Sem
section callg
variable {x : Cx} {L : List (Tmp × Bool × AV)} {M : List ME} {ops : Array Oper} {Q : Exit → Act → World → Prop} {rest : List Oper}
theorem W.callg {f : FuncId} {d : Tmp} {fo : Operand} {caps : List Value} {os : List Operand} {ats : Array TypeId} {ty : TypeId} {pos : String} {aft : Array Edge} {avs avs' : List AV} {r : AV} {Min Mr : List ME} {j : Nat} {want : Bool} {t : Tmp} {gb b G : Bool}
    (hj : (ops[j]?).bind (·.dst) = some t) (hl : look L t = some (gb, .lit (.bool b))) (hG : G = (gb && (b == want)))
    (hc : G = true → FnC x.P f avs' Min (fun r' M' => r' = r ∧ M' = Min)) (hfo : G = true → Ov true L fo (.lit (.func (.func f) #[] caps.toArray))) (ha : G = true → ArgsOv L os avs) (he : avs' = avs ++ caps.map .lit) (hM : List.Perm M (Min ++ Mr)) (hd : Nat.blt d x.n = true)
    (next : W x ((d, G, r) :: L) M (wpList x.P ops Q rest)) :
    W x L M (wpList x.P ops Q (⟨some d, .call ⟨.value fo, os.toArray, ats⟩, ty, pos, aft, some (j, want)⟩ :: rest)) := by
  intro a w hs
  have hw := guard_of (d := some d) (op := .call ⟨.value fo, os.toArray, ats⟩) (ty := ty) (pos := pos) (aft := aft) (want := want) hj hl hs
  rw [← hG] at hw
  cases hGv : G with
  | true =>
    have h := W.callv (ops := ops) (Q := Q) (rest := rest) (ats := ats) (ty := ty) (pos := pos) (aft := aft) (hc hGv) (hfo hGv) (ha hGv) he hM hd (fun r' M' hp => by
      obtain ⟨rfl, rfl⟩ := hp
      rw [hGv] at next
      exact W.perm hM.symm next) a w hs
    unfold wpList at h ⊢
    rw [if_pos (by rw [hw, hGv])]
    rw [if_pos (by simp [Region.wanted])] at h
    exact h
  | false =>
    refine wpList_cons_skip (by rw [hw, hGv]) ?_
    rw [hGv] at next
    exact next _ _ (hs.put hd false r undef (by simp) (fun _ => rfl))
theorem W.callgT {f : FuncId} {d : Tmp} {fo : Operand} {caps : List Value} {os : List Operand} {ats : Array TypeId} {ty : TypeId} {pos : String} {aft : Array Edge} {avs avs' : List AV} {r : AV} {Min Mr : List ME} {j : Nat} {t : Tmp} {b : Bool}
    (hj : (ops[j]?).bind (·.dst) = some t) (hl : look L t = some (true, .lit (.bool b)))
    (hc : (b) = true → FnC x.P f avs' Min (fun r' M' => r' = r ∧ M' = Min)) (hfo : (b) = true → Ov true L fo (.lit (.func (.func f) #[] caps.toArray))) (ha : (b) = true → ArgsOv L os avs) (he : avs' = avs ++ caps.map .lit) (hM : List.Perm M (Min ++ Mr)) (hd : Nat.blt d x.n = true)
    (next : W x ((d, b, r) :: L) M (wpList x.P ops Q rest)) :
    W x L M (wpList x.P ops Q (⟨some d, .call ⟨.value fo, os.toArray, ats⟩, ty, pos, aft, some (j, true)⟩ :: rest)) :=
  W.callg hj hl (by simp) hc hfo ha he hM hd next
theorem W.callgF {f : FuncId} {d : Tmp} {fo : Operand} {caps : List Value} {os : List Operand} {ats : Array TypeId} {ty : TypeId} {pos : String} {aft : Array Edge} {avs avs' : List AV} {r : AV} {Min Mr : List ME} {j : Nat} {t : Tmp} {b : Bool}
    (hj : (ops[j]?).bind (·.dst) = some t) (hl : look L t = some (true, .lit (.bool b)))
    (hc : (!b) = true → FnC x.P f avs' Min (fun r' M' => r' = r ∧ M' = Min)) (hfo : (!b) = true → Ov true L fo (.lit (.func (.func f) #[] caps.toArray))) (ha : (!b) = true → ArgsOv L os avs) (he : avs' = avs ++ caps.map .lit) (hM : List.Perm M (Min ++ Mr)) (hd : Nat.blt d x.n = true)
    (next : W x ((d, !b, r) :: L) M (wpList x.P ops Q rest)) :
    W x L M (wpList x.P ops Q (⟨some d, .call ⟨.value fo, os.toArray, ats⟩, ty, pos, aft, some (j, false)⟩ :: rest)) :=
  W.callg hj hl (by simp) hc hfo ha he hM hd next
end callg
/-- AN ARRAY OF THE CALL's OWN IS WRITTEN NO MORE; what else is known of the slots stays. -/
theorem W.freezeA {x : Cx} {L : List (Tmp × Bool × AV)} {M : List ME} {R : Act → World → Prop} {v : Value} {T k : Nat} {es : List AV} {L' : List (Tmp × Bool × AV)} {M1 M2 D : List ME} (hM : List.Perm M (ME.arr v T k es :: (M1 ++ D))) (hL : FSub v k es L L') (hM2 : FrzMs v k es M1 M2) (h : W x (L' ++ L) M2 R) : W x L M R := by
  intro a w hs
  have h1 : St x L' M2 a w := W.freeze (x := x) (R := fun a w => St x L' M2 a w) hM hL hM2 (fun a w hs => hs) a w hs
  have hp2 : List.Perm M (M1 ++ (ME.arr v T k es :: D)) := hM.trans (List.perm_middle.symm)
  have h2 : St x L M1 a w := by
    obtain ⟨hm, hk, hsub⟩ := hs.mem.sub hp2
    exact ⟨hs.defers, hs.size, fun t g av hl => ⟨fun hg => ((hs.slots t g av hl).1 hg).keep hk, (hs.slots t g av hl).2⟩, hm, hs.fr.sub hsub, hs.old⟩
  refine h a w ⟨h1.defers, h1.size, ?_, h1.mem, h1.fr, h1.old⟩
  intro t g av hl
  rw [look_append] at hl
  cases hx : look L' t with
  | some p => rw [hx, Option.some_or] at hl; obtain rfl := Option.some.inj hl; exact h1.slots t g av hx
  | none =>
    rw [hx, Option.none_or] at hl
    have := h2.slots t g av hl
    rw [hM2.bl]
    exact this
/-- a row by a function of the place -/
abbrev rowB (n : Nat) (f : Nat → Bool) : List AV := (List.range n).map fun k => AV.bool (f k)
theorem okc_strs (l : List (List UInt8)) : ∀ e ∈ l.map AV.str, e.okc = true := by
  intro e he
  obtain ⟨d, _, rfl⟩ := List.mem_map.1 he
  rfl
/-- the first place where it holds, or -1 -/
def idxI {α : Type} (p : α → Bool) : List α → Int
  | [] => -1
  | a :: l => if p a then 0 else if idxI p l < 0 then -1 else idxI p l + 1
/-- is a text a name? -/
def nameCh (r : Int) : Bool := ((decide (97 ≤ r) && decide (r ≤ 122)) || (decide (48 ≤ r) && decide (r ≤ 57))) || r == 45
def nameOk (s : List UInt8) : Bool := !(((s == [] || decide ((12 : Int) < (s.length : Int))) || decide (((s.getD 0 0).toNat : Int) < 97)) || decide ((122 : Int) < ((s.getD 0 0).toNat : Int))) && !((runes s).any fun r => !(nameCh (r : Int)))
end Go.Vl
end

section
set_option linter.unusedVariables false
set_option linter.unusedSimpArgs false
set_option linter.unusedSectionVars false
namespace Go.Vl
/-- the entries of such a map -/
def mEnts : Nat → List Value → List MapEntry
  | _, [] => []
  | i, k :: ks => ⟨k, .int .i64 (i : Int), i⟩ :: mEnts (i + 1) ks
def mObj (ks : List Value) : Obj := .map (mEnts 0 ks).toArray ks.length
/-- where a key stands among others -/
def place {α : Type} [DecidableEq α] (k : α) : List α → Option Nat
  | [] => none
  | q :: ks => if k = q then some 0 else (place k ks).map (· + 1)
/-- a kind of keys that the model finds at once -/
structure KeyKind (P : Program) (K : TypeId) {α : Type} [DecidableEq α] (f : α → Value) : Prop where
  check : ∀ (e : Bool) (k : α) (w : World), (Instr.checkKey e 10000 K (f k)).run P w = .ok () w
  find : ∀ (k : α) (ks : List α) (w : World), (Instr.findKey K (f k) (mEnts 0 (ks.map f))).run P w = .ok ((place k ks).map fun i => (i, .int .i64 (i : Int))) w
theorem findNow_place {α : Type} [DecidableEq α] {f : α → Value} {d : TypeDesc} (hs : ∀ a b : α, Instr.sameNow d (f a) (f b) = some (decide (a = b))) (k : α) :
    ∀ (ks : List α) (i : Nat), Instr.findNow d (f k) (mEnts i (ks.map f)) i = some ((place k ks).map fun j => (i + j, .int .i64 ((i + j : Nat) : Int)))
  | [], i => rfl
  | q :: ks, i => by
    rw [List.map_cons, mEnts, Instr.findNow, hs, place]
    by_cases h : k = q
    · rw [if_pos h, decide_eq_true h]; rfl
    · rw [if_neg h, decide_eq_false h]
      show Instr.findNow d (f k) (mEnts (i + 1) (ks.map f)) (i + 1) = _
      rw [findNow_place hs k ks (i + 1), Option.map_map]
      congr 2
      funext j
      show (i + 1 + j, Value.int .i64 ((i + 1 + j : Nat) : Int)) = (i + (j + 1), Value.int .i64 ((i + (j + 1) : Nat) : Int))
      rw [show i + 1 + j = i + (j + 1) from by omega]
theorem KeyKind.str {P : Program} {K : TypeId} (hK : P.underlying K = some .string) : KeyKind P K (fun s : List UInt8 => Value.string ⟨s.toArray⟩) := by
  refine ⟨fun e k w => ?_, fun k ks w => ?_⟩
  · exact Go.MapKept.run_checkKey hK (by trivial) e 9999
  · have h := findNow_place (d := .string) (f := fun s : List UInt8 => Value.string ⟨s.toArray⟩) (fun a b => by
      show some ((⟨a.toArray⟩ : ByteArray) == ⟨b.toArray⟩) = _
      congr 1
      show (a.toArray == b.toArray) = _
      by_cases h : a = b
      · subst h; simp
      · rw [decide_eq_false h]
        exact beq_eq_false_iff_ne.2 fun h' => h (by simpa using congrArg Array.toList h')) k ks 0
    simp only [Instr.findKey, Sem.run_bind, run_underlying hK, Result.andThen_ok, h, Sem.run_pure]
    simp
theorem KeyKind.int {P : Program} {K : TypeId} (hK : P.underlying K = some (.int .i64)) : KeyKind P K (fun n : Int => Value.int .i64 n) := by
  refine ⟨fun e k w => ?_, fun k ks w => ?_⟩
  · exact Go.MapKept.run_checkKey (k := .int .i64 k) hK rfl e 9999
  · have h := findNow_place (d := .int .i64) (f := fun n : Int => Value.int .i64 n) (fun a b => by
      by_cases h : a = b
      · subst h; simp [Instr.sameNow]
      · simp [Instr.sameNow, h]) k ks 0
    simp only [Instr.findKey, Sem.run_bind, run_underlying hK, Result.andThen_ok, h, Sem.run_pure]
    simp
/-- what a slot holds, said in another way -/
theorem W.conv {x : Cx} {L : List (Tmp × Bool × AV)} {M : List ME} {R : Act → World → Prop} {t : Tmp} {av av' : AV} (h : look L t = some (true, av)) (e : ∀ w N v, Rep w N av v → Rep w N av' v) (next : W x ((t, true, av') :: L) M R) : W x L M R := by
  intro a w hs
  refine next a w ⟨hs.defers, hs.size, ?_, hs.mem, hs.fr, hs.old⟩
  intro u g' av2 hl
  rw [look_cons] at hl
  by_cases e' : t = u
  · subst e'
    rw [if_pos rfl] at hl
    cases hl
    have := hs.slots t true av h
    exact ⟨fun hg => e _ _ _ (this.1 hg), fun hg => by cases hg⟩
  · rw [if_neg e'] at hl; exact hs.slots u g' av2 hl
/-- a struct of two numbers as_ a key -/
def pv (p : Int × Int) : Value := .agg #[.int .i64 p.1, .int .i64 p.2]
theorem Rep.pv {w : World} {N : List Nat} {a b : Int} {v : Value} (h : Rep w N (.agg [.int a, .int b]) v) : Rep w N (.lit (pv (a, b))) v := by
  obtain ⟨h1, h2⟩ := h
  cases v <;> simp [AV.sh, shV] at h1
  simp only [RepC, RepL] at h2
  rename_i cells
  obtain ⟨v1, vs1, e1, ⟨_, _, r1⟩, v2, vs2, e2, ⟨_, _, r2⟩, e3⟩ := h2
  subst e3
  subst e2
  obtain rfl := List.cons.inj r1 |>.1
  obtain rfl := List.cons.inj r2 |>.1
  have : Value.agg cells = Vl.pv (a, b) := by
    unfold Vl.pv
    congr 1
    exact Array.toList_inj.1 (by simpa [Value.cells] using e1)
  rw [this]
  exact Rep.lit _
section map
variable {x : Cx} {g : Bool} {L : List (Tmp × Bool × AV)} {M : List ME} {ops : Array Oper} {Q : Exit → Act → World → Prop} {rest : List Oper} {ty : TypeId} {pos : String} {aft : Array Edge}
end map
end Go.Vl
end

section
set_option linter.unusedVariables false
set_option linter.unusedSimpArgs false
set_option linter.unusedSectionVars false
namespace Go.Vl
section arrv
variable {x : Cx} {g : Bool} {L : List (Tmp × Bool × AV)} {M : List ME} {ty T : TypeId} {o1 o2 : Operand}
/-- the i-th cell of an array in a box -/
theorem Ev.boxat {E b bytes len : Nat} {z : Value} {i : Int} {ki : IntKind} (h1 : Ov g L o1 (.lit (.pointer (some ⟨b, 0, none⟩)))) (h2 : Ov g L o2 (.lit (.int ki i))) (hT : x.P.underlying T = some (.array len E)) (hE : Ty x.P E 1 bytes z)
    (hi : g = true → 0 ≤ i ∧ i < len) : Ev x g L M (.indexAddr T o1 o2) ty (.lit (.pointer (some ⟨b, i.toNat, none⟩))) := Ev.pure fun a w hs hg => by
  obtain ⟨hi0, hi1⟩ := hi hg
  simp [execOp, h1.lit hg hs, h2.lit hg hs, Instr.indexAt, Instr.sureAddr, asIntOf, run_underlying hT, hi0, hi1, hE.size, Addr.add_lit]
end arrv
end Go.Vl
end

section
set_option linter.unusedVariables false
set_option linter.unusedSimpArgs false
set_option linter.unusedSectionVars false
namespace Go.Vl
open Go Go.Sem
section view
variable {x : Cx} {L : List (Tmp × Bool × AV)} {M : List ME} {ops : Array Oper} {Q : Exit → Act → World → Prop} {rest : List Oper} {ty : TypeId} {pos : String} {aft : Array Edge}
/-- a source of sn elements, of which the first are xs -/
def SrcN (P : Program) (w : World) (N : List Nat) (k : Nat) (v : Value) (sn : Nat) (xs : List AV) : Prop :=
  (Builtin.lenOf v).run P w = .ok sn w ∧ xs.length ≤ sn ∧ ∃ news : Array Value, news.size = xs.length * k ∧ RepE w N k xs news.toList ∧ (∀ u ∈ news.toList, shV u = 0) ∧
    ∀ w' : World, w'.heap = w.heap → (Builtin.firstCells k xs.length v).run P w' = .ok news w'
theorem Src.toN {P : Program} {w : World} {N : List Nat} {k sn cap cap' : Nat} {ad : Option Addr} {xs : List AV} (h : Src P w N k (.slice ad xs.length cap) xs) (hs : xs.length ≤ sn) : SrcN P w N k (.slice ad sn cap') sn xs := by
  obtain ⟨_, news, h2, h3, h4, h5⟩ := h
  refine ⟨by simp [Builtin.lenOf], hs, news, h2, h3, h4, fun w' hw => ?_⟩
  have := h5 w' hw
  cases ad <;> simpa only [Builtin.firstCells] using this
theorem SrcN.to {P : Program} {w : World} {N : List Nat} {k : Nat} {v : Value} {xs : List AV} (h : SrcN P w N k v xs.length xs) : Src P w N k v xs := ⟨h.1, h.2.2⟩
/-- an operand that copy may take its elements from -/
def VwOv (x : Cx) (L : List (Tmp × Bool × AV)) (M : List ME) (o : Operand) (k sn : Nat) (xs : List AV) : Prop := ∀ a w, St x L M a w → SrcN x.P w (bl M ++ x.F) k (a.eval o) sn xs
/-- elements of an own row -/
theorem VwOv.own (i : Nat) {o : Operand} {g off n cap p sn c U k : Nat} {ad : Option Addr} {es xs : List AV} (h : Ov true L o (.lit (.slice ad sn c))) (ha : xs = [] ∨ ad = some ⟨g, off + p * k, none⟩) (hM : M[i]? = some (ME.arr (.slice (some ⟨g, off, none⟩) n cap) U k es)) (hx : xs = (es.drop p).take xs.length) (hp : p ≤ es.length) (hq : xs.length ≤ sn) (ho : ∀ e ∈ xs, e.okc = true) : VwOv x L M o k sn xs := by
  intro a w hs
  rw [h.lit rfl hs]
  refine Src.toN (cap := c) ?_ hq
  refine src_cells rfl ho ?_
  obtain ⟨ad, cp, e, h1, h2, h3⟩ := hs.mem.holds _ (List.mem_of_getElem? hM)
  cases e
  rcases h3 with ⟨h3, _⟩ | ⟨g', off', cur, lo, hi, h4, h5, _, _, h6⟩
  · cases h3
  · cases h4
    rcases ha with ha | ha
    · exact .inl ha
    refine .inr ⟨g, _, cur, U, (lo, hi), ha, h5, ?_⟩
    rw [hx, ← List.drop_drop]
    exact (h6.drop p hp).take _
/-- the elements of a box, seen as_ a row of one -/
theorem VwOv.box (i : Nat) {o : Operand} {b c U k : Nat} {cs : List AV} {e : AV} (h : Ov true L o (.lit (.slice (some ⟨b, 0, none⟩) 1 c))) (hM : M[i]? = some (ME.box b U cs)) (hk : cs.length = k) (he : e.cells = cs) (ho : e.okc = true) : VwOv x L M o k 1 [e] := by
  intro a w hs
  rw [h.lit rfl hs]
  refine Src.toN (cap := c) ?_ (by simp)
  refine src_cells rfl (by simpa using ho) (.inr ?_)
  obtain ⟨cur, h1, h2⟩ := hs.mem.holds _ (List.mem_of_getElem? hM)
  refine ⟨b, 0, cur, U, _, rfl, h1, ?_⟩
  have hl := h2.length
  rw [List.drop_zero]
  refine ⟨by omega, RepC.ofL ho ?_, trivial⟩
  rw [List.take_of_length_le (by omega), he]
  exact h2
theorem VwOv.src {o : Operand} {k : Nat} {xs : List AV} (h : SrcOv x L M o k xs) : VwOv x L M o k xs.length xs := fun a w hs => by
  have h1 := h.src hs
  exact ⟨h1.1, Nat.le_refl _, h1.2⟩

theorem run_copy {P : Program} {w : World} {T T' E k bytes : Nat} {z : Value} {g p dn dc lo hi sn : Nat} {cur : Array Value} {U : TypeId} {xv : Value} {N : List Nat} {xs : List AV} (hT : P.underlying T = some (.slice E)) (hE : Ty P E k bytes z)
    (hc : w.heap[g]? = some (.cells cur U (lo, hi))) (hsz : p + xs.length * k ≤ cur.size) (hfr : hi ≤ lo ∨ p + xs.length * k ≤ lo) (hx : SrcN P w N k xv sn xs) (hq : xs.length = Nat.min sn dn) :
    ∃ news : Array Value, news.size = xs.length * k ∧ RepE w N k xs news.toList ∧ (Builtin.copy_ #[T, T'] ty #[.slice (some ⟨g, p, none⟩) dn dc, xv]).run P w =
      .ok (.int .i64 (xs.length : Int)) { w with heap := w.heap.setIfInBounds g (.cells (wr cur p news.toList) U (lo, hi)) } := by
  obtain ⟨hlen, _, news, hn1, hn2, hn3, hn4⟩ := hx
  have hf := hn4 w rfl
  have hst := run_storeCells (P := P) (g := g) (off := p) (T := U) (lo := lo) (hi := hi) news.toList 0 cur w hc (by simp; omega) (by simp; omega) hn3
  refine ⟨news, hn1, hn2, ?_⟩
  rw [Nat.add_zero] at hst
  rw [hq] at hf
  simp only [Builtin.copy_, List.getElem?_toArray, List.getElem?_cons_zero, List.getElem?_cons_succ, Sem.run_bind, run_underlying hT, Result.andThen_ok, hE.size, hlen, hf, hst, Sem.run_pure, goInt, hq]

/-- what a row holds after a write of elements -/
theorem RepE.over {w : World} {N : List Nat} {k j off : Nat} {es xs : List AV} {cur nl : List Value} (h : RepE w N k es (cur.drop off)) (hx : RepE w N k xs nl) (hn : nl.length = xs.length * k) (hj : j ≤ es.length) (hoff : off ≤ cur.length) :
    RepE w N k (es.take j ++ xs ++ es.drop (j + xs.length)) ((cur.take (off + j * k) ++ nl ++ cur.drop (off + j * k + nl.length)).drop off) := by
  have hlen := h.len
  have hjk : j * k ≤ es.length * k := Nat.mul_le_mul_right _ hj
  rw [List.length_drop] at hlen
  have e1 : (cur.take (off + j * k) ++ nl ++ cur.drop (off + j * k + nl.length)).drop off = (cur.drop off).take (j * k) ++ (nl ++ (cur.drop off).drop (j * k + nl.length)) := by
    rw [List.append_assoc, List.drop_append_of_le_length (by rw [List.length_take]; omega), List.drop_take, Nat.add_sub_cancel_left, List.drop_drop, Nat.add_assoc]
  rw [e1]
  have hS : (cur.drop off).length = cur.length - off := List.length_drop ..
  generalize cur.drop off = S at h hS
  have htl : (S.take (j * k)).length = j * k := by rw [List.length_take]; omega
  have hjl : (es.take j).length = j := by rw [List.length_take]; omega
  rw [List.append_assoc]
  refine RepE.append (RepE.congr (h.take j) ?_) ?_
  · rw [hjl, List.take_append_of_le_length (by omega), List.take_take, Nat.min_self]
  · rw [hjl, List.drop_append_of_le_length (by omega), List.drop_of_length_le (l := S.take (j * k)) (by omega), List.nil_append]
    refine RepE.append (RepE.congr hx (by rw [List.take_append_of_le_length (by omega)])) ?_
    rw [List.drop_append_of_le_length (by omega), List.drop_of_length_le (l := nl) (by omega), List.nil_append, hn, ← Nat.add_mul]
    by_cases hle : j + xs.length ≤ es.length
    · exact h.drop _ hle
    · rw [List.drop_of_length_le (by omega)]; simp [RepE]

theorem W.copy (i : Nat) {d : Tmp} {T T' E k bytes : Nat} {z : Value} {o1 o2 : Operand} {g off n cap j dn dc sn U : Nat} {es xs : List AV} (h1 : Ov true L o1 (.lit (.slice (some ⟨g, off + j * k, none⟩) dn dc))) (hM : M[i]? = some (ME.arr (.slice (some ⟨g, off, none⟩) n cap) U k es)) (h2 : VwOv x L M o2 k sn xs)
    (hT : x.P.underlying T = some (.slice E)) (hE : Ty x.P E k bytes z) (hq : xs.length = Nat.min sn dn) (hj : j ≤ es.length) (hc : j + xs.length ≤ cap) {n' : Nat} {es' : List AV} (he' : es' = es.take j ++ xs ++ es.drop (j + xs.length)) (hn' : n' = es'.length) (hd : Nat.blt d x.n = true)
    (next : W x ((d, true, .lit (.int .i64 (xs.length : Int))) :: L) (M.set i (ME.arr (.slice (some ⟨g, off, none⟩) n' cap) U k es')) (wpList x.P ops Q rest)) :
    W x L M (wpList x.P ops Q (⟨some d, .call ⟨.builtin .copy, #[o1, o2], #[T, T']⟩, ty, pos, aft, none⟩ :: rest)) := by
  subst he'
  refine W.opv (ι := Unit) (fun _ => M.set i (ME.arr (.slice (some ⟨g, off, none⟩) n' cap) U k (es.take j ++ xs ++ es.drop (j + xs.length)))) (fun _ => .lit (.int .i64 (xs.length : Int))) hd ?_ (fun _ => next)
  intro a w hs
  have hsrc := h2 a w hs
  have e1 := h1.lit rfl hs
  obtain ⟨ad, cp, e, hlc, hcm, hcase⟩ := hs.mem.holds _ (List.mem_of_getElem? hM)
  cases e
  rcases hcase with ⟨h3, _⟩ | ⟨g', off', cur, lo, hi, h4, hcur, hsz, hfr, hrE⟩
  · cases h3
  cases h4
  have hmul : (j + xs.length) * k ≤ cap * k := Nat.mul_le_mul_right _ hc
  rw [Nat.add_mul] at hmul
  obtain ⟨news, hn1, hn2, hrun⟩ := run_copy (ty := ty) (T' := T') (dc := dc) hT hE hcur (p := off + j * k) (by omega) (by omega) hsrc hq
  have hlt : (es.take j ++ xs ++ es.drop (j + xs.length)).length ≤ cap := by simp only [List.length_append, List.length_take, List.length_drop]; omega
  refine ⟨.int .i64 (xs.length : Int), { w with heap := w.heap.setIfInBounds g (.cells (wr cur (off + j * k) news.toList) U (lo, hi)) }, (), ?_, ?_, Rep.lit _⟩
  · simp only [execOp, resolve, invoke, builtin, Sem.run_bind, Sem.run_pure, Result.andThen_ok, List.map_toArray, List.map_cons, List.map_nil, e1, hrun]
  · refine hs.write hM rfl rfl ?_
    intro w' hother hnew hk'
    have hnl : news.toList.length = xs.length * k := by simpa using hn1
    refine ⟨some ⟨g, off, none⟩, cap, by rw [hn'], hlt, hcm, .inr ⟨g, off, _, lo, hi, rfl, hnew, ?_, hfr, ?_⟩⟩
    · rw [wr_size _ _ _ (by omega)]; exact hsz
    · simp only [wr, List.toList_toArray]
      exact RepE.over (RepE.keep hk' _ _ _ hrE) (RepE.keep hk' _ _ _ hn2) hnl hj (by simp; omega)

/-- a part of an own row: the bounds may reach up to the capacity -/
theorem run_boundsC {g : Bool} {len cap : Nat} {lo hi : Option Operand} {l h : Int} {a : Act} {w : World} (hst : St x L M a w) (hg : g = true) (hlo : BndOv g L 0 lo l) (hhi : BndOv g L len hi h) (h0 : 0 ≤ l) (h1 : l ≤ h) (h2 : h ≤ cap) :
    (Instr.sliceBounds true len cap (lo.map a.eval) (hi.map a.eval) none).run x.P w = .ok (l.toNat, h.toNat, cap) w := by
  have hb : ∀ (n : Int) (y : Nat) c, 0 ≤ n → n ≤ y → (Instr.sliceBound (.int .i64 n) y c).run x.P w = .ok n.toNat w := fun n y c hn hy => by
    simp [Instr.sliceBound, asIntOf, hn, hy]
  unfold Instr.sliceBounds
  cases lo with
  | none =>
    simp only [BndOv] at hlo
    subst hlo
    cases hi with
    | none =>
      simp only [BndOv] at hhi
      subst hhi
      simp
    | some o =>
      have e := hhi.lit hg hst
      simp only [Option.map_none, Option.map_some, e, Sem.run_bind, Sem.run_pure, Result.andThen_ok]
      rw [hb _ _ _ (by omega) (by omega)]
      simp
  | some o' =>
    have e' := hlo.lit hg hst
    cases hi with
    | none =>
      simp only [BndOv] at hhi
      subst hhi
      simp only [Option.map_none, Option.map_some, e', Sem.run_bind, Sem.run_pure, Result.andThen_ok]
      rw [hb _ _ _ (by omega) (by omega)]
      simp
    | some o =>
      have e := hhi.lit hg hst
      simp only [Option.map_some, e, e', Sem.run_bind, Sem.run_pure, Result.andThen_ok]
      rw [hb _ _ _ (by omega) (by omega)]
      simp only [Result.andThen_ok]
      rw [hb _ _ _ (by omega) (by omega)]
      simp
/-- a slice expression at a slice that is known -/
theorem Ev.slit {g : Bool} {T E k bytes : Nat} {z : Value} {o1 : Operand} {lo hi : Option Operand} {i j : Int} {ad : Option Addr} {n cap : Nat} {v : Value} (h1 : Ov g L o1 (.lit (.slice ad n cap))) (hT : x.P.underlying T = some (.slice E)) (hE : Ty x.P E k bytes z) (hlo : BndOv g L 0 lo i) (hhi : BndOv g L (n : Int) hi j)
    (hb : g = true → 0 ≤ i ∧ i ≤ j ∧ j ≤ cap) (hv : v = .slice (if cap = i.toNat then ad else ad.map (·.add (i.toNat * k))) (j.toNat - i.toNat) (cap - i.toNat)) : Ev x g L M (.slice T o1 lo hi none) ty (.lit v) := Ev.pure fun a w hs hg => by
  obtain ⟨b1, b2, b3⟩ := hb hg
  have hr := run_boundsC (len := n) (cap := cap) hs hg hlo hhi b1 b2 b3
  subst hv
  simp only [execOp, h1.lit hg hs, Option.map_none, Instr.sliceAt, Instr.slice, Sem.run_bind, run_underlying hT, Result.andThen_ok, hr, hE.size, Sem.run_pure]
theorem Ev.lenl {g : Bool} {T E : Nat} {o1 : Operand} {ad : Option Addr} {n cap : Nat} (h1 : Ov g L o1 (.lit (.slice ad n cap))) (hT : x.P.underlying T = some (.slice E)) : Ev x g L M (.call ⟨.builtin .len, #[o1], #[T]⟩) ty (.lit (.int .i64 (n : Int))) := Ev.pure fun a w hs hg => by
  simp [execOp, resolve, invoke, builtin, h1.lit hg hs, Builtin.len_, Builtin.lenOf, run_underlying hT, goInt]
/-- an operation whose value nobody keeps -/
theorem W.opn {ι : Type} {op : Op} (Mf : ι → List ME)
    (step : ∀ a w, St x L M a w → ∃ w' v z, (execOp a.eval ⟨none, op, ty, "", #[], none⟩).run x.P w = .ok (.value v) w' ∧ St x L (Mf z) a w')
    (next : ∀ z, W x L (Mf z) (wpList x.P ops Q rest)) : W x L M (wpList x.P ops Q (⟨none, op, ty, pos, aft, none⟩ :: rest)) := by
  intro a w hs
  obtain ⟨w', v, z, hr, hs'⟩ := step a w hs
  refine wpList_cons_want (by simp [Region.wanted]) ?_
  unfold Oper.wp
  rw [execOp_bare, hr]
  exact next z _ _ hs'
/-- what lies behind the elements is cleared -/
theorem W.clear (i : Nat) {T E k bytes : Nat} {z : Value} {o1 : Operand} {g off n cap j m c U : Nat} {es : List AV} (h1 : Ov true L o1 (.lit (.slice (some ⟨g, off + j * k, none⟩) m c))) (hM : M[i]? = some (ME.arr (.slice (some ⟨g, off, none⟩) n cap) U k es))
    (hT : x.P.underlying T = some (.slice E)) (hE : Ty x.P E k bytes z) (hzk : z.cells.size = k) (hz : z.cells.toList.all (fun v => shV v == 0) = true) (hj : es.length ≤ j) (hc : j + m ≤ cap)
    (next : W x L M (wpList x.P ops Q rest)) :
    W x L M (wpList x.P ops Q (⟨none, .call ⟨.builtin .clear, #[o1], #[T]⟩, ty, pos, aft, none⟩ :: rest)) := by
  have hset := set_self hM
  rw [← hset] at next
  refine W.opn (ι := Unit) (fun _ => M.set i (ME.arr (.slice (some ⟨g, off, none⟩) n cap) U k es)) ?_ (fun _ => next)
  intro a w hs
  have e1 := h1.lit rfl hs
  obtain ⟨ad, cp, e, hlc, hcm, hcase⟩ := hs.mem.holds _ (List.mem_of_getElem? hM)
  cases e
  rcases hcase with ⟨h3, _⟩ | ⟨g', off', cur, lo, hi, h4, hcur, hsz, hfr, hrE⟩
  · cases h3
  cases h4
  by_cases hm : m = 0
  · subst hm
    refine ⟨w, .tuple #[], (), ?_, by rw [hset]; exact hs⟩
    simp [execOp, resolve, invoke, builtin, e1, Builtin.clear_, run_underlying hT]
  · have hzs : (Builtin.zeroCells z.cells m).size = m * k := by simp [Builtin.zeroCells, hzk]
    have hmul : (j + m) * k ≤ cap * k := Nat.mul_le_mul_right _ hc
    rw [Nat.add_mul] at hmul
    have hzl : (Builtin.zeroCells z.cells m).toList.length = m * k := by rw [Array.length_toList]; exact hzs
    have hz0 : ∀ u ∈ (Builtin.zeroCells z.cells m).toList, shV u = 0 := by
      intro u hu
      simp only [Builtin.zeroCells, Array.toList_map, List.mem_map] at hu
      obtain ⟨q, hq, rfl⟩ := hu
      have hq' : q < m * z.cells.size := by simpa using hq
      have hpos : 0 < z.cells.size := by rcases Nat.eq_zero_or_pos z.cells.size with h | h; rw [h] at hq'; omega; exact h
      have hlt : q % z.cells.size < z.cells.size := Nat.mod_lt _ hpos
      rw [List.all_eq_true] at hz
      have := hz (z.cells[q % z.cells.size]!) (by rw [Array.mem_toList_iff, getElem!_pos z.cells _ hlt]; exact Array.getElem_mem hlt)
      simpa using this
    have hst := run_storeCells (P := x.P) (g := g) (off := off + j * k) (T := U) (lo := lo) (hi := hi) (Builtin.zeroCells z.cells m).toList 0 cur w hcur (by omega) (by omega) hz0
    rw [Nat.add_zero] at hst
    refine ⟨{ w with heap := w.heap.setIfInBounds g (.cells (wr cur (off + j * k) (Builtin.zeroCells z.cells m).toList) U (lo, hi)) }, .tuple #[], (), ?_, ?_⟩
    · simp only [execOp, resolve, invoke, builtin, Sem.run_bind, Sem.run_pure, Result.andThen_ok, List.map_toArray, List.map_cons, List.map_nil, e1, Builtin.clear_, List.getElem?_toArray, List.getElem?_cons_zero, run_underlying hT]
      cases m with
      | zero => exact absurd rfl hm
      | succ m => simp only [Sem.run_bind, hE.zero, Result.andThen_ok, hst, Sem.run_pure]
    · refine hs.write hM rfl rfl ?_
      intro w' hother hnew hk'
      have hlen := hrE.len
      have hjm : es.length * k ≤ j * k := Nat.mul_le_mul_right _ hj
      refine ⟨some ⟨g, off, none⟩, cap, rfl, hlc, hcm, .inr ⟨g, off, _, lo, hi, rfl, hnew, ?_, hfr, ?_⟩⟩
      · rw [wr_size _ _ _ (by omega)]; exact hsz
      · refine RepE.congr (RepE.keep hk' _ _ _ hrE) ?_
        have hcl : cur.toList.length = cur.size := Array.length_toList
        simp only [wr, List.toList_toArray]
        rw [List.append_assoc, List.drop_append_of_le_length (by simp; omega), List.drop_take, Nat.add_sub_cancel_left, List.take_append_of_le_length (by simp; omega), List.take_take, Nat.min_eq_left hjm]
/-- a zero value as_ an element -/
theorem RepC.zero {w : World} {N : List Nat} {z : Value} {e : AV} (hz : z.cells.toList.all (fun v => shV v == 0) = true) (he : e = match z.cells.toList with | [v] => if shV z == 1 then .agg [.lit v] else .lit v | l => .agg (l.map .lit)) : RepC w N e z.cells.toList := by
  have hL : ∀ l : List Value, l.all (fun v => shV v == 0) = true → RepL w N (l.map .lit) l := by
    intro l
    induction l with
    | nil => intro _; simp [RepL]
    | cons v l ih =>
      intro hz
      simp only [List.all_cons, Bool.and_eq_true, beq_iff_eq] at hz
      simp only [List.map_cons, RepL]
      exact ⟨v, l, rfl, ⟨hz.1, hz.1, by simp only [RepC, cells_of_sh hz.1]⟩, ih hz.2⟩
  subst he
  have := hL _ hz
  revert this hz
  generalize z.cells.toList = l
  intro hz this
  match l with
  | [] => simpa [RepC] using this
  | [v] =>
    simp only [List.all_cons, List.all_nil, Bool.and_true, beq_iff_eq] at hz
    dsimp only
    split
    · simpa only [RepC, List.map_cons, List.map_nil] using this
    · simp only [RepC, cells_of_sh hz]
  | u :: v :: l => simpa only [RepC] using this
end view
end Go.Vl
end

section
set_option linter.unusedVariables false
set_option linter.unusedSimpArgs false
namespace Go.Vl
structure Rl where
  name : List UInt8
  act : Int
  to : List UInt8
abbrev rav (r : Rl) : AV := .agg [.str r.name, .int r.act, .str r.to]
namespace Nd
theorem text_mk (n : List UInt8) (a : List Dc) (t : List UInt8) (q : List Nd) : (mk n a t q).text = t := rfl
/-- is the last one a text? (p: where there is none) -/
def lastT (p : Bool) (l : List Nd) : Bool := match l.getLast? with
  | none => p
  | some d => d.name == []
mutual
/-- texts are not empty, hold nothing, and do not stand side by side (p: does one stand ahead?); elements have no text -/
def apt : Nd → Bool
  | mk _ _ _ q => apts false q
def apts : Bool → List Nd → Bool
  | _, [] => true
  | p, d :: l => (if d.name = [] then (!(d.text == []) && (d.parts.length == 0 && d.attrs.length == 0)) && !p else (d.text == []) && apt d) && apts (d.name == []) l
end
def apt1 (p : Bool) (d : Nd) : Bool := if d.name = [] then (!(d.text == []) && (d.parts.length == 0 && d.attrs.length == 0)) && !p else (d.text == []) && apts false d.parts
mutual
/-- all texts, one behind the other -/
def wd : Nd → List UInt8
  | mk _ _ _ q => wds q
def wds : List Nd → List UInt8
  | [] => []
  | d :: l => (d.text ++ wd d) ++ wds l
end
mutual
/-- the bytes of all texts, and of all names and values -/
def tsz : Nd → Nat
  | mk _ _ t q => t.length + tszs q
def tszs : List Nd → Nat
  | [] => 0
  | d :: l => tsz d + tszs l
end
mutual
theorem wd_len : ∀ d : Nd, d.text.length + (wd d).length = tsz d
  | mk _ _ t q => by have := wds_len q; simp only [wd, tsz, text_mk]; omega
theorem wds_len : ∀ l : List Nd, (wds l).length = tszs l
  | [] => rfl
  | d :: l => by have := wd_len d; have := wds_len l; simp only [wds, tszs, List.length_append]; omega
end
mutual
/-- have all elements one of these names? -/
def onl (ns : List (List UInt8)) : Nd → Bool
  | mk _ _ _ q => onls ns q
def onls (ns : List (List UInt8)) : List Nd → Bool
  | [] => true
  | d :: l => ((d.name == [] || ns.any fun s => d.name == s) && onl ns d) && onls ns l
end
/-- a node behind others; texts side by side are one -/
def jn1 (out : List Nd) (n : Nd) : List Nd :=
  if n.name = [] ∧ lastT false out = true then out.dropLast ++ [mk [] (out.getD (out.length - 1) dflt).attrs ((out.getD (out.length - 1) dflt).text ++ n.text) (out.getD (out.length - 1) dflt).parts] else out ++ [n]
def jn : List Nd → List Nd → List Nd
  | out, [] => out
  | out, n :: more => jn (jn1 out n) more
end Nd
namespace Rl
open Nd
abbrev dfl : Rl := ⟨[], 2, []⟩
/-- what is done with an element of a name -/
def of (rs : List Rl) (nm : List UInt8) : Rl := if 0 ≤ idxI (fun q => q.name == nm) rs then rs.getD (idxI (fun q => q.name == nm) rs).toNat dfl else dfl
def step (rs : List Rl) (out : List Nd) (d : Nd) (sub : List Nd) : List Nd :=
  if d.name = [] then (if d.text = [] then out else jn1 out (Nd.mk [] [] d.text []))
  else if (of rs d.name).act = 1 then out ++ [Nd.mk (of rs d.name).to d.attrs [] sub]
  else if (of rs d.name).act = 2 then jn out sub else out
mutual
def subs (rs : List Rl) : Nd → List Nd
  | .mk _ _ _ q => run rs [] q
def run (rs : List Rl) : List Nd → List Nd → List Nd
  | out, [] => out
  | out, d :: l => run rs (step rs out d (subs rs d)) l
end
mutual
/-- elements have no text, texts hold nothing -/
def plain : Nd → Prop
  | .mk n a t q => (n = [] → q = [] ∧ a = []) ∧ (n ≠ [] → t = []) ∧ plains q
def plains : List Nd → Prop
  | [] => True
  | d :: l => plain d ∧ plains l
end
/-- elements that are kept as_ they are -/
def kept (rs : List Rl) (nm : List UInt8) : Prop := (of rs nm).act = 1 ∧ (of rs nm).to = nm
mutual
def kp (rs : List Rl) : Nd → Prop
  | .mk n _ _ q => (n ≠ [] → kept rs n) ∧ kps rs q
def kps (rs : List Rl) : List Nd → Prop
  | [] => True
  | d :: l => kp rs d ∧ kps rs l
end
/-- texts that stand in no element -/
def outer (l : List Nd) : List UInt8 := l.flatMap text
end Rl
end Go.Vl
end

section
set_option linter.unusedVariables false
set_option linter.unusedSimpArgs false
namespace Go.Vl
namespace Nd
abbrev tx6 : List (List UInt8) := [[120], [97, 60, 98], [38, 97, 109, 112, 59], [121, 32, 122], [32], [60, 112, 62]]
abbrev vd2 : List (List UInt8) := [[98, 114], [105, 109, 103]]
abbrev el6 : List (List UInt8) := [[100, 105, 118], [98], [101, 109], [112], [97], [117, 108]]
abbrev vl5 : List (List UInt8) := [[], [120], [97, 34, 98, 38], [60], [104, 116, 116, 112, 58, 47, 47, 121]]
abbrev href : List UInt8 := [104, 114, 101, 102]
mutual
/-- what is drawn; k: not deeper than so; p: does a text stand ahead? -/
def dr : Nat → Nd → Prop
  | k, mk n a t q => (n = [] ∧ a = [] ∧ t ∈ tx6 ∧ q = []) ∨ (n ∈ vd2 ∧ a = [] ∧ t = [] ∧ q = []) ∨ (n ∈ el6 ∧ (a = [] ∨ ∃ v ∈ vl5, a = [(href, v)]) ∧ t = [] ∧ 2 ≤ k ∧ drs (k - 1) false q ∧ q.length ≤ 4)
def drs : Nat → Bool → List Nd → Prop
  | _, _, [] => True
  | k, p, d :: l => (d.name = [] → p = false) ∧ dr k d ∧ drs k (d.name == []) l
end
end Nd
namespace Rl
/-- rules that may be -/
structure ok (r : Rl) : Prop where
  n : nameOk r.name = true
  nl : r.name.length ≤ 1000
  a1 : 1 ≤ r.act
  a3 : r.act ≤ 3
  t : r.act = 1 → nameOk r.to = true
  tl : r.to.length ≤ 1000
  t0 : r.act ≠ 1 → r.to = []
structure oks (l : List Rl) : Prop where
  len : l.length ≤ 12
  all : ∀ r ∈ l, r.ok
  one : ∀ i, i < l.length → ((l.take i).any fun q => q.name == (l.getD i dfl).name) = false
abbrev nm6 : List (List UInt8) := [[100, 105, 118], [98], [101, 109], [112], [97], [117, 108]]
abbrev nm8 : List (List UInt8) := [[100, 105, 118], [98], [101, 109], [112], [97], [117, 108], [98, 114], [105, 109, 103]]
/-- rules of the first names -/
structure drawn (l : List Rl) : Prop where
  names : l.map (·.name) = nm6.take l.length
  all : ∀ r ∈ l, r.ok
abbrev tn (r : Rl) : Rl := ⟨r.name, r.act, if r.act = 1 then r.name else r.to⟩
/-- all elements left out -/
abbrev lv (l : List (List UInt8)) : List Rl := l.map fun s => ⟨s, 3, []⟩
/-- names that are kept -/
def kn (l : List Rl) : List (List UInt8) := (l.filter fun r => r.act == 1).map (·.to)
end Rl
end Go.Vl
end

section
set_option linter.unusedVariables false
set_option linter.unusedSimpArgs false
namespace Go.Vl
/-- a byte, escaped -/
def esc1 (q : Bool) (c : UInt8) : List UInt8 := if c = 38 then [38, 97, 109, 112, 59] else if c = 60 then [38, 108, 116, 59] else if c = 62 then [38, 103, 116, 59] else if c = 34 ∧ q = true then [38, 113, 117, 111, 116, 59] else [c]
def esc (q : Bool) (s : List UInt8) : List UInt8 := s.flatMap (esc1 q)
/-- a token -/
structure Tk where
  kind : Int
  name : List UInt8
  attrs : List Dc
  self : Bool
  text : List UInt8
abbrev tav (t : Tk) : AV := .agg [.int t.kind, .str t.name, .sl 2 (t.attrs.map dav), .bool t.self, .str t.text]
def attrS (a : Dc) : List UInt8 := (([32] ++ a.1) ++ [61, 34] ++ esc true a.2) ++ [34]
def tagS (name : List UInt8) (attrs : List Dc) (self : Bool) : List UInt8 := (([60] ++ name) ++ attrs.flatMap attrS ++ (if self then [47] else [])) ++ [62]
/-- attributes that may be -/
structure okAt (l : List Dc) : Prop where
  len : l.length ≤ 4
  all : ∀ a ∈ l, nameOk a.1 = true ∧ a.1.length ≤ 1000
  one : ∀ i, i < l.length → ((l.take i).any fun b => (l.getD i ([], [])).1 == b.1) = false
namespace Tk
abbrev dfl : Tk := ⟨0, [], [], false, []⟩
def txt (t : Tk) : List UInt8 := if t.kind = 1 then tagS t.name t.attrs t.self else if t.kind = 2 then ([60, 47] ++ t.name) ++ [62] else esc false t.text
def txts (l : List Tk) : List UInt8 := l.flatMap txt
abbrev nm5 : List (List UInt8) := [[112], [98], [105], [108, 105], [104, 45, 49]]
abbrev tx7 : List (List UInt8) := [[120], [97, 60, 98], [38, 97, 109, 112, 59], [34, 113, 34], [60, 112, 62], [32, 62, 32], [38, 35, 54, 48, 59]]
abbrev vl6 : List (List UInt8) := [[], [120], [97, 34, 98], [60, 38, 62], [97, 32, 98], [38, 108, 116, 59]]
abbrev at2 : List (List UInt8) := [[99, 108, 97, 115, 115], [104, 114, 101, 102]]
abbrev raws : List (List UInt8) := [[115, 99, 114, 105, 112, 116], [115, 116, 121, 108, 101], [116, 101, 120, 116, 97, 114, 101, 97], [116, 105, 116, 108, 101]]
/-- a token that is drawn -/
def drawn (t : Tk) : Prop := (t.kind = 1 ∧ t.name ∈ nm5 ∧ (t.attrs.map (·.1) = at2.take t.attrs.length ∧ ∀ a ∈ t.attrs, a.2 ∈ vl6) ∧ t.text = []) ∨ (t.kind = 2 ∧ t.name ∈ nm5 ∧ t.attrs = [] ∧ t.self = false ∧ t.text = []) ∨ (t.kind = 3 ∧ t.name = [] ∧ t.attrs = [] ∧ t.self = false ∧ t.text ∈ tx7)
def drawns : Bool → List Tk → Prop
  | _, [] => True
  | p, t :: l => (t.kind = 3 → p = false) ∧ drawn t ∧ drawns (t.kind == 3) l
def lastK (p : Bool) (l : List Tk) : Bool := match l.getLast? with
  | none => p
  | some t => t.kind == 3
end Tk
end Go.Vl
end

section
set_option linter.unusedVariables false
set_option linter.unusedSimpArgs false
namespace Go.Vl
/-- a letter of an escaped text: as_ it is, or by its name -/
abbrev Pc := UInt8 × Bool
namespace Pc
def nm (c : UInt8) : List UInt8 := if c = 38 then [97, 109, 112] else if c = 60 then [108, 116] else if c = 62 then [103, 116] else [113, 117, 111, 116]
def txt (p : Pc) : List UInt8 := if p.2 = true then 38 :: (nm p.1 ++ [59]) else [p.1]
def ok (p : Pc) : Prop := if p.2 = true then (p.1 = 38 ∨ p.1 = 60 ∨ p.1 = 62 ∨ p.1 = 34) else p.1 ≠ 38
def flat (e : List Pc) : List UInt8 := e.flatMap txt
def of (q : Bool) (c : UInt8) : Pc := (c, decide (c = 38 ∨ c = 60 ∨ c = 62 ∨ (c = 34 ∧ q = true)))
abbrev dfl : Pc := (0, false)
end Pc
open Go Go.Sem
end Go.Vl
end

section
set_option linter.unusedVariables false
set_option linter.unusedSimpArgs false
namespace Go.Vl
section rep
variable {x : Cx} {g : Bool} {L : List (Tmp × Bool × AV)} {M : List ME} {ops : Array Oper} {Q : Exit → Act → World → Prop} {rest : List Oper} {ty : TypeId} {pos : String} {aft : Array Edge}
theorem Ev.mkif {T : TypeId} {o1 : Operand} {v : Value} {td : TypeDesc} (h1 : Ov g L o1 (.lit v)) (hT : x.P.underlying T = some td) (hi : ∀ ms, td ≠ .interface ms) : Ev x g L M (.makeInterface T o1) ty (.lit (.iface T v)) := Ev.pure fun a w hs hg => by
  simp only [execOp, h1.lit hg hs, Instr.makeInterface, Sem.run_bind, run_underlying hT, Result.andThen_ok]
  cases td <;> first | exact absurd rfl (hi _) | simp
/-- a slice that is known held against nil -/
theorem Ev.eqnl {T T' E : TypeId} {o1 : Operand} {ad : Option Addr} {n c : Nat} (h1 : Ov g L o1 (.lit (.slice ad n c))) (hT : x.P.underlying T = some (.slice E)) : Ev x g L M (.binOp .eql T o1 (.const (.slice none 0 0)) T') ty (.lit (.bool ad.isNone)) := Ev.pure fun a w hs hg => by
  have h := h1.lit hg hs
  have hv : a.eval (.const (.slice none 0 0)) = .slice none 0 0 := rfl
  simp only [execOp, h, hv, eqGuard_at_slice, Sem.run_bind, Sem.run_pure, Result.andThen_ok]
  simp [binOp, Op.equal, Op.maxDepth, run_equalIn_slice_nil w 9999 T E ad n c hT]
theorem Ev.nenl {T T' E : TypeId} {o1 : Operand} {ad : Option Addr} {n c : Nat} (h1 : Ov g L o1 (.lit (.slice ad n c))) (hT : x.P.underlying T = some (.slice E)) : Ev x g L M (.binOp .neq T o1 (.const (.slice none 0 0)) T') ty (.lit (.bool (!ad.isNone))) := Ev.pure fun a w hs hg => by
  have h := h1.lit hg hs
  have hv : a.eval (.const (.slice none 0 0)) = .slice none 0 0 := rfl
  simp only [execOp, h, hv, eqGuard_at_slice, Sem.run_bind, Sem.run_pure, Result.andThen_ok]
  simp [binOp, Op.equal, Op.maxDepth, run_equalIn_slice_nil w 9999 T E ad n c hT]
/-- a row with room alone -/
theorem W.mk0 {d : Tmp} {T E k bytes : Nat} {z : Value} {o1 o2 : Operand} {n : Nat} (h1 : Ov true L o1 (.lit (.int .i64 0))) (h2 : Ov true L o2 (.lit (.int .i64 (n : Int)))) (hT : x.P.underlying T = some (.slice E)) (hE : Ty x.P E k bytes z) (hzk : z.cells.size = k) (hb1 : Nat.ble 1 bytes = true) (hb : n * bytes ≤ 140737488355328) (hd : Nat.blt d x.n = true)
    (next : ∀ v', W x ((d, true, .lit v') :: L) (ME.arr v' E k [] :: M) (wpList x.P ops Q rest)) :
    W x L M (wpList x.P ops Q (⟨some d, .makeSlice T o1 o2, ty, pos, aft, none⟩ :: rest)) := by
  refine W.opv (ι := Value) (fun v' => ME.arr v' E k [] :: M) (fun v' => .lit v') hd ?_ next
  intro a w hs
  have hb1' := Nat.le_of_ble_eq_true hb1
  have hn : n ≤ n * bytes := Nat.le_mul_of_pos_right _ hb1'
  have hr : ∃ cells : Array Value, (Instr.makeSlice T (.int .i64 0) (.int .i64 n)).run x.P w = .ok (.slice (some ⟨w.heap.size, 0, none⟩) 0 n) (w.alloc (.cells cells E)) ∧ cells.size = n * k := by
    have hw : IntKind.i64.wrap (n : Int) = n := IntWalk.i64_in _ (by omega)
    have hw0 : IntKind.i64.wrap 0 = 0 := by decide
    obtain ⟨i, hi1, hi2, hi3, hi4⟩ := hE
    have ht : ¬ ((n : Int) < 0) := by omega
    have hmul : ((bytes : Int) * n) = ((n * bytes : Nat) : Int) := by rw [Int.mul_comm]; simp
    have ht2 : ¬ (281474976710656 < (bytes : Int) * n) := by rw [hmul]; omega
    have hsz : (zeroValue E).run x.P w = .ok z w := by simp [zeroValue, typeInfo, hi1, hi4]
    by_cases h0 : n * k = 0
    · exact ⟨#[], by simp [Array.range_zero', Instr.makeSlice, run_underlying hT, asInt, asIntOf, typeInfo, hi1, hi3, hw, hw0, ht, ht2, sizeOf, hi2, h0, newRow], by simp [h0]⟩
    · exact ⟨(Array.range (n * k)).map (z.cells[· % z.cells.size]!), by simp [Instr.makeSlice, run_underlying hT, asInt, asIntOf, typeInfo, hi1, hi3, hw, hw0, ht, ht2, sizeOf, hi2, h0, newRow, hsz], by simp⟩
  obtain ⟨cells, hr, hsz⟩ := hr
  refine ⟨.slice (some ⟨w.heap.size, 0, none⟩) 0 n, w.alloc (.cells cells E), .slice (some ⟨w.heap.size, 0, none⟩) 0 n, by simp only [execOp, h1.lit rfl hs, h2.lit rfl hs, Sem.run_bind, hr, Result.andThen_ok, Sem.run_pure], ?_, Rep.lit _⟩
  refine hs.alloc _ _ rfl ?_
  intro N hN
  exact ⟨some ⟨w.heap.size, 0, none⟩, n, rfl, Nat.zero_le _, by simp only [maxLen]; omega, .inr ⟨w.heap.size, 0, cells, 0, 0, rfl, alloc_new _ _, by omega, .inl (Nat.le_refl _), by simp only [RepE]⟩⟩
/-- the bytes of the empty text: not nil -/
theorem W.s2b0 {d : Tmp} {T T' E : TypeId} {o1 : Operand} {u : TypeDesc} (h1 : Ov true L o1 (.str [])) (hT : x.P.underlying T = some u) (hT' : x.P.underlying T' = some (.slice E)) (hE : x.P.underlying E = some (.int .u8)) (hd : Nat.blt d x.n = true)
    (next : ∀ b c, c ≤ maxLen → W x ((d, true, .lit (.slice (some ⟨b, 0, none⟩) 0 c)) :: L) M (wpList x.P ops Q rest)) :
    W x L M (wpList x.P ops Q (⟨some d, .convert T T' o1, ty, pos, aft, none⟩ :: rest)) := by
  refine W.opv (ι := { p : Nat × Nat // p.2 ≤ maxLen }) (fun _ => M) (fun p => .lit (.slice (some ⟨p.1.1, 0, none⟩) 0 p.1.2)) hd ?_ (fun p => next p.1.1 p.1.2 p.2)
  intro a w hs
  have e1 : a.eval o1 = .string ⟨#[]⟩ := h1.lit rfl hs
  have hrun := Lib.run_convert_string_bytes (P := x.P) w T T' E ⟨#[]⟩ hT hT' hE
  rw [show (ByteArray.mk #[]).size = 0 from rfl, bytesWorld_alloc] at hrun
  obtain ⟨hg1, hg2⟩ := cap_cut w 0 0 E (by simp only [maxLen]; omega)
  refine ⟨.slice (some ⟨w.heap.size, 0, none⟩) 0 (grownCap w 0 0 E), w.drew.alloc (.cells (Lib.bytesCells w E ⟨#[]⟩) E ((Lib.bytesCells w E ⟨#[]⟩).size, (Lib.bytesCells w E ⟨#[]⟩).size + 1)), (⟨(w.heap.size, grownCap w 0 0 E), hg2⟩ : { p : Nat × Nat // p.2 ≤ maxLen }), ?_, ?_, Rep.lit _⟩
  · simp only [execOp, e1, Sem.run_bind, hrun, Result.andThen_ok, Sem.run_pure]
  · have hd1 : St x L M a w.drew := hs.same rfl rfl rfl rfl
    have h2 : St x L (ME.arr (.slice (some ⟨w.heap.size, 0, none⟩) 0 (grownCap w 0 0 E)) E 1 [] :: M) a (w.drew.alloc (.cells (Lib.bytesCells w E ⟨#[]⟩) E ((Lib.bytesCells w E ⟨#[]⟩).size, (Lib.bytesCells w E ⟨#[]⟩).size + 1))) := by
      refine hd1.alloc _ _ rfl ?_
      intro N hN
      have hcs : (Lib.bytesCells w E ⟨#[]⟩).size = grownCap w 0 0 E := by
        simp only [Lib.bytesCells, Array.size_append, Array.size_map, Array.size_replicate]
        show 0 + (grownCap w 0 0 E - 0) = _
        omega
      exact ⟨some ⟨w.heap.size, 0, none⟩, grownCap w 0 0 E, rfl, Nat.zero_le _, hg2, .inr ⟨w.heap.size, 0, _, _, _, rfl, alloc_new w.drew _, by omega, .inr (by omega), by simp only [RepE]⟩⟩
    obtain ⟨hm, hk, hsub⟩ := h2.mem.sub (M' := M) (D := [_]) (List.perm_append_comm (l₁ := [_]))
    exact ⟨h2.defers, h2.size, fun t g av hl => ⟨fun hg => ((h2.slots t g av hl).1 hg).keep hk, (h2.slots t g av hl).2⟩, hm, h2.fr.sub hsub, h2.old⟩
/-- a method behind an interface -/
theorem W.ivk {f : FuncId} {T : TypeId} {v : Value} {nm : String} {d : Tmp} {ro : Operand} {os : List Operand} {ats : Array TypeId} {avs : List AV} {Min Mr : List ME} {post : AV → List ME → Prop}
    (hc : FnC x.P f (.lit v :: avs) Min post) (hm : ∀ (args : Array Value) (w : World), (callMethod (.iface T v) nm args).run x.P w = .ok (.enter f (#[v] ++ args)) w) (hro : Ov true L ro (.lit (.iface T v))) (ha : ArgsOv L os avs) (hM : List.Perm M (Min ++ Mr)) (hd : Nat.blt d x.n = true)
    (next : ∀ r M', post r M' → W x ((d, true, r) :: L) (M' ++ Mr) (wpList x.P ops Q rest)) :
    W x L M (wpList x.P ops Q (⟨some d, .call ⟨.invoke ro nm, os.toArray, ats⟩, ty, pos, aft, none⟩ :: rest)) := by
  intro a w hs
  refine wpList_cons_want (by simp [Region.wanted]) ?_
  have hv := hro.lit rfl hs
  have hr : (execOp a.eval ⟨some d, .call ⟨.invoke ro nm, os.toArray, ats⟩, ty, pos, aft, none⟩).run x.P w = .ok (.enter f (v :: os.map a.eval).toArray) w := by
    have e : (#[Value.iface T v] ++ (os.toArray.map a.eval)) = (Value.iface T v :: os.map a.eval).toArray := by simp
    have h1 : ((Value.iface T v :: os.map a.eval).toArray).extract 1 (Value.iface T v :: os.map a.eval).toArray.size = (os.map a.eval).toArray := by
      simp
      exact List.take_of_length_le (by simp)
    have h2 := hm (os.map a.eval).toArray w
    rw [show (#[v] ++ (os.map a.eval).toArray) = (v :: os.map a.eval).toArray from by simp] at h2
    simp only [execOp, resolve, hv, Sem.run_bind, Sem.run_pure, Result.andThen_ok, e]
    show (invoke (.fn (.method nm) #[]) (Value.iface T v :: os.map a.eval).toArray).run x.P w = _
    have h3 : (invoke (.fn (.method nm) #[]) (Value.iface T v :: os.map a.eval).toArray) = callMethod (Value.iface T v) nm ((Value.iface T v :: os.map a.eval).toArray.extract 1 (Value.iface T v :: os.map a.eval).toArray.size) := rfl
    rw [h3, h1]
    exact h2
  unfold Oper.wp
  rw [hr]
  obtain ⟨hF, hm0, hk0⟩ := hs.ahead hM
  have hargs : RepT w (bl M ++ x.F) (.lit v :: avs) (v :: os.map a.eval) := by
    simp only [RepT]
    exact ⟨_, _, rfl, Rep.lit v, ArgsOv.rep hs ha⟩
  refine (hc.2 w (bl Mr ++ x.F) _ hF hm0 (RepT.keep hk0 _ _ hargs)).mono ?_
  rintro e w' ⟨v', r, M', rfl, hp, hm', hrep, hf⟩
  have hs' := hs.back hM hm' hf
  refine next r M' hp _ _ (hs'.put hd true r v' (fun _ => hrep.keep ?_) (by simp))
  exact fun b c T fr hb hc => ⟨fun h => hb (mem4.1 h), hc⟩
/-- nothing is copied -/
theorem Ev.copy0 {T T' E k bytes : Nat} {z : Value} {o1 o2 : Operand} {base ad : Option Addr} {dl dc c : Nat} (h1 : Ov g L o1 (.lit (.slice base dl dc))) (h2 : Ov g L o2 (.lit (.slice ad 0 c))) (hT : x.P.underlying T = some (.slice E)) (hE : Ty x.P E k bytes z) :
    Ev x g L M (.call ⟨.builtin .copy, #[o1, o2], #[T, T']⟩) ty (.lit (.int .i64 0)) := Ev.pure fun a w hs hg => by
  have e1 := h1.lit hg hs
  have e2 := h2.lit hg hs
  obtain ⟨ii, hi1, hi2, hi3, hi4⟩ := hE
  have hl : ∀ ad : Option Addr, (Builtin.firstCells k 0 (.slice ad 0 c)).run x.P w = .ok #[] w := by
    intro ad
    cases ad with
    | none => simp [Builtin.firstCells]
    | some a => simp [Builtin.firstCells, loadCells, loadCellsFrom]
  cases base with
  | none => simp [execOp, resolve, invoke, builtin, e1, e2, Builtin.copy_, Builtin.lenOf, run_underlying hT, sizeOf, typeInfo, hi1, hi2, hl, goInt]
  | some b => simp [execOp, resolve, invoke, builtin, e1, e2, Builtin.copy_, Builtin.lenOf, run_underlying hT, sizeOf, typeInfo, hi1, hi2, hl, goInt, storeCells]
/-- the model stands in for internal/bytealg.CountString -/
theorem Ev.cnt {o1 o2 : Operand} {f : FuncId} {fn : Func} {ats : Array TypeId} {l : List UInt8} {c : UInt8} (hf : x.P.funcs[f]? = some fn) (hname : (fn.name == "runtime.NumGoroutine") = false)
    (hb : fn.body.isNone = true) (hn : Extern.findNext fn = none) (he : Extern.find fn = some Extern.BytealgCount.count) (h1 : Ov g L o1 (.str l)) (h2 : Ov g L o2 (.lit (.int .u8 (c.toNat : Int)))) :
    Ev x g L M (.call ⟨.value (.func f), #[o1, o2], ats⟩) ty (.lit (.int .i64 (l.count c : Int))) :=
  Ev.pure fun a w hst hg => by
    have e1 : a.eval o1 = .string ⟨l.toArray⟩ := h1.lit hg hst
    have e2 : a.eval o2 = .int .u8 (c.toNat : Int) := h2.lit hg hst
    have hv : a.eval (.func f) = .func (.func f) #[] #[] := rfl
    have hc : ((c.toNat : Int)).toNat.toUInt8 = c := by simp
    have hr : (callFunc f #[.string ⟨l.toArray⟩, .int .u8 (c.toNat : Int)]).run x.P w = .ok (.value (.int .i64 (l.count c : Int))) w := by
      rw [run_callFunc_extern hf hname hb hn he, Lib.run_countString, Result.andThen_ok, hc]
      rfl
    simp only [execOp, resolve, hv, Deferred.ofValue, Sem.run_bind, Sem.run_pure, Result.andThen_ok, invoke, List.map_toArray, List.map_cons, List.map_nil, e1, e2]
    simpa using hr
theorem Ev.mkfn1 {fn : Fn} {o1 : Operand} {v : Value} (h : Ov g L o1 (.lit v)) : Ev x g L M (.makeFunc fn #[o1] #[]) ty (.lit (.func fn #[v] #[])) := Ev.pure fun a w hs hg => by
  have := h.lit hg hs
  simp [execOp, Instr.makeFunc, this]
/-- how an own row's value looks -/
theorem W.arr_len {R : Act → World → Prop} (i : Nat) {v : Value} {U k : Nat} {es : List AV} (hM : M[i]? = some (.arr v U k es)) (h : ∀ ad c, v = .slice ad es.length c → es.length ≤ c → W x L M R) : W x L M R := by
  intro a w hs
  obtain ⟨ad, cap, e, h1, _⟩ := hs.mem.holds _ (List.mem_of_getElem? hM)
  exact h ad cap e h1 a w hs
end rep
theorem Ev.subTake {x : Cx} {g : Bool} {L : List (Tmp × Bool × AV)} {M : List ME} {T ty : TypeId} {o1 o2 : Operand} {l : List UInt8} {n : Nat} (h1 : Ov g L o1 (.str l)) (hT : x.P.underlying T = some .string) (h2 : Ov g L o2 (.int (n : Int))) (hb : g = true → n ≤ l.length) : Ev x g L M (.slice T o1 none (some o2) none) ty (.str (l.take n)) := by
  have h := Ev.subs (x := x) (g := g) (L := L) (M := M) (ty := ty) (lo := none) (hi := some o2) (i := 0) (j := (n : Int)) h1 hT rfl h2 (fun hg => ⟨by decide, by omega, by have := hb hg; omega⟩)
  exact h
theorem Ev.subDrop {x : Cx} {g : Bool} {L : List (Tmp × Bool × AV)} {M : List ME} {T ty : TypeId} {o1 o2 : Operand} {l : List UInt8} {n : Nat} (h1 : Ov g L o1 (.str l)) (hT : x.P.underlying T = some .string) (h2 : Ov g L o2 (.int (n : Int))) (hb : g = true → n ≤ l.length) : Ev x g L M (.slice T o1 (some o2) none none) ty (.str (l.drop n)) := by
  have h := Ev.subs (x := x) (g := g) (L := L) (M := M) (ty := ty) (lo := some o2) (hi := none) (i := (n : Int)) (j := (l.length : Int)) h1 hT h2 rfl (fun hg => ⟨by omega, by have := hb hg; omega, by omega⟩)
  rw [show (l.length : Int).toNat = l.length from rfl, List.take_length] at h
  exact h
end Go.Vl
end

section
set_option linter.unusedVariables false
set_option linter.unusedSimpArgs false
namespace Go.Vl
namespace Sty
def spc : List UInt8 := [32, 9, 10, 12, 13]
/-- without remarks -/
def bareF : Nat → List UInt8 → List UInt8
  | 0, _ => []
  | n + 1, s => if (Lib.cut s [47, 42]).2.2 = true then
      (Lib.cut s [47, 42]).1 ++ (if (Lib.cut (Lib.cut s [47, 42]).2.1 [42, 47]).2.2 = true then bareF n (Lib.cut (Lib.cut s [47, 42]).2.1 [42, 47]).2.1 else [])
    else (Lib.cut s [47, 42]).1
def bare (s : List UInt8) : List UInt8 := bareF (s.length + 1) s
/-- as_ pieces' loop goes: where the piece begins, how deep, within which quote, the pieces so far -/
structure Ps where
  fr : Nat
  dp : Nat
  qt : UInt8
  out : List (List UInt8)
def Ps.step (s : List UInt8) (i : Nat) (p : Ps) : Ps :=
  if p.qt ≠ 0 then (if s.getD i 0 = p.qt then { p with qt := 0 } else p)
  else if s.getD i 0 = 34 ∨ s.getD i 0 = 39 then { p with qt := s.getD i 0 }
  else if s.getD i 0 = 40 then { p with dp := p.dp + 1 }
  else if s.getD i 0 = 41 then { p with dp := p.dp - 1 }
  else if s.getD i 0 = 59 ∧ p.dp = 0 then { p with out := p.out ++ [(s.take i).drop p.fr], fr := i + 1 }
  else p
def pst (s : List UInt8) : Nat → Ps
  | 0 => ⟨0, 0, 0, []⟩
  | i + 1 => (pst s i).step s i
structure Ps.Ok (s : List UInt8) (i : Nat) (p : Ps) : Prop where
  fr : p.fr ≤ i
  dp : p.dp ≤ i
  len : p.out.length ≤ i
  out : ∀ x ∈ p.out, x.length ≤ s.length
def pieces (s : List UInt8) : List (List UInt8) := (pst s s.length).out ++ [s.drop (pst s s.length).fr]
def small (s : List UInt8) : List UInt8 := s.map fun c => if 65 ≤ c.toNat ∧ c.toNat ≤ 90 then c + 32 else c
def small1 (c : UInt8) : UInt8 := if 65 ≤ c.toNat ∧ c.toNat ≤ 90 then c + 32 else c
/-- the first i bytes made small -/
def smallT (s : List UInt8) (i : Nat) : List UInt8 := (s.take i).map small1 ++ s.drop i
theorem smallT_len (s : List UInt8) (i : Nat) : (smallT s i).length = s.length := by
  unfold smallT; rw [List.length_append, List.length_map, List.length_take, List.length_drop]; omega
theorem smallT_all (s : List UInt8) : smallT s s.length = small s := by
  unfold smallT small; rw [List.take_length, List.drop_length, List.append_nil]; rfl
theorem smallT_get (s : List UInt8) (i : Nat) (h : i < s.length) : ((smallT s i).map AV.u8)[i]? = some (AV.u8 (s.getD i 0)) := by
  have hl : ((s.take i).map small1).length = i := by rw [List.length_map, List.length_take]; omega
  rw [List.getElem?_map]; unfold smallT
  rw [List.getElem?_append_right (by omega), hl, Nat.sub_self, List.getElem?_drop, Nat.add_zero, List.getD_eq_getElem?_getD, List.getElem?_eq_getElem h]; rfl
theorem smallT_set (s : List UInt8) (i : Nat) (h : i < s.length) : ((smallT s i).map AV.u8).set i (AV.u8 (small1 (s.getD i 0))) = (smallT s (i + 1)).map AV.u8 := by
  have hl : ((s.take i).map small1).length = i := by rw [List.length_map, List.length_take]; omega
  rw [← List.map_set]; congr 1; unfold smallT
  rw [List.set_append_right _ _ (by omega), hl, Nat.sub_self, List.drop_eq_getElem_cons h, List.set_cons_zero, List.take_succ_eq_append_getElem h, List.map_append, List.append_assoc]
  congr 2
  rw [List.getD_eq_getElem?_getD, List.getElem?_eq_getElem h]; rfl
/-- a declaration of a piece, if it is one -/
def dec1 (p : List UInt8) : List UInt8 × List UInt8 := (small (Lib.trimS (Lib.cut p [58]).1 spc), Lib.trimS (Lib.cut p [58]).2.1 spc)
def is1 (p : List UInt8) : Bool := (Lib.cut p [58]).2.2 && (nameOk (dec1 p).1 && !((dec1 p).2 == []))
def decs (l : List (List UInt8)) : List (List UInt8 × List UInt8) := l.flatMap fun p => if is1 p = true then [dec1 p] else []
def parse (s : List UInt8) : List (List UInt8 × List UInt8) := decs (pieces (bare s))
theorem dropWhile_le (p : UInt8 → Bool) (l : List UInt8) : (l.dropWhile p).length ≤ l.length := (List.dropWhile_sublist p).length_le
theorem trim_len (l cs : List UInt8) : (Lib.trimS l cs).length ≤ l.length := by
  unfold Lib.trimS Lib.trimLeftS Lib.trimRightS
  refine Nat.le_trans (dropWhile_le _ _) ?_
  rw [List.length_reverse]
  exact Nat.le_trans (dropWhile_le _ _) (by simp)
def dtx (d : List UInt8 × List UInt8) : List UInt8 := (d.1 ++ [58, 32]) ++ d.2
structure Good (n : Nat) (d : List UInt8 × List UInt8) : Prop where
  name : nameOk d.1 = true
  val : d.2 ≠ []
  len : d.2.length ≤ n
  head : ∀ c r, d.2 = c :: r → c ≠ 32
  last : ∀ r c, d.2 = r ++ [c] → c ≠ 32
end Sty
end Go.Vl
end

section
set_option linter.unusedVariables false
set_option linter.unusedSimpArgs false
namespace Go.Vl
namespace Url
/-- a table of 256 slices, and one slice more -/
def rowF (f : Nat → AV) (y : AV) : List AV := (List.range 256).map f ++ [y]
theorem rowF_len (f : Nat → AV) (y : AV) : (rowF f y).length = 257 := by simp [rowF]
theorem rowF_get (f : Nat → AV) (y : AV) (i : Nat) (h : i < 256) : (rowF f y)[i]? = some (f i) := by
  unfold rowF
  rw [List.getElem?_append_left (by simpa using h)]
  simp [h]
theorem rowF_last (f : Nat → AV) (y : AV) : (rowF f y)[256]? = some y := by
  unfold rowF
  rw [List.getElem?_append_right (by simp)]
  simp
theorem rowF_set (f : Nat → AV) (y z : AV) (i : Nat) (h : i < 256) : splice (rowF f y) i [z] = rowF (fun k => if k = i then z else f k) y := by
  apply List.ext_getElem?
  intro j
  unfold splice
  rcases Nat.lt_trichotomy j i with hj | hj | hj
  · rw [List.append_assoc, List.getElem?_append_left (by simp [rowF_len]; omega), List.getElem?_take_of_lt hj, rowF_get _ _ _ (by omega), rowF_get _ _ _ (by omega), if_neg (by omega)]
  · subst hj
    rw [List.append_assoc, List.getElem?_append_right (by simp [rowF_len]; omega), rowF_get _ _ _ h, if_pos rfl]
    have hl : (List.take j (rowF f y)).length = j := by rw [List.length_take, rowF_len]; omega
    rw [hl, Nat.sub_self]; rfl
  · rw [List.getElem?_append_right (by simp [rowF_len]; omega)]
    have e : (List.take i (rowF f y) ++ [z]).length = i + 1 := by simp [rowF_len]; omega
    rw [e, List.getElem?_drop]
    show (rowF f y)[i + 1 + (j - (i + 1))]? = _
    rw [show i + 1 + (j - (i + 1)) = j from by omega]
    rcases Nat.lt_trichotomy j 256 with h2 | h2 | h2
    · rw [rowF_get _ _ _ h2, rowF_get _ _ _ h2, if_neg (by omega)]
    · subst h2; rw [rowF_last, rowF_last]
    · rw [List.getElem?_eq_none (by rw [rowF_len]; omega), List.getElem?_eq_none (by rw [rowF_len]; omega)]
theorem rowF_setl (f : Nat → AV) (y z : AV) : splice (rowF f y) 256 [z] = rowF f z := by
  unfold splice rowF
  rw [List.take_append_of_le_length (by simp), List.take_of_length_le (by simp), List.drop_of_length_le (by simp)]
  simp
theorem frz_snoc {v : Value} {k : Nat} {es : List AV} : ∀ l : List AV, FrzL v k es (l ++ [.lit v]) (l ++ [.sl k es])
  | [] => ⟨.hit, trivial⟩
  | a :: l => ⟨.refl a, frz_snoc l⟩
theorem frz_rowF {v : Value} {k : Nat} {es : List AV} (f : Nat → AV) : FrzL v k es (rowF f (.lit v)) (rowF f (.sl k es)) := frz_snoc _
def nilA : AV := .lit (.slice none 0 0)
def slA (z : Nat × Nat) : AV := .lit (.slice (some ⟨z.1, 0, none⟩) 0 z.2)
def kill : List UInt8 := [13, 10, 9]
def tlr : List (List UInt8) := [[13], [10], [9]]
def six : List (List UInt8) := [[9], [], [10], [], [13], []]
/-- the table when so many letters are laid -/
def Fz (k : Nat) (z : Nat → Nat × Nat) (i : Nat) : AV := if (i = 13 ∧ 0 < k) ∨ (i = 10 ∧ 1 < k) ∨ (i = 9 ∧ 2 < k) then slA (z i) else nilA
theorem Fz_step (k : Nat) (hk : k < 3) (z : Nat → Nat × Nat) (b c : Nat) : (fun i => if i = ((kill.getD k 0).toNat) then slA (b, c) else Fz k z i) = Fz (k + 1) (fun i => if i = ((kill.getD k 0).toNat) then (b, c) else z i) := by
  funext i
  rcases (show k = 0 ∨ k = 1 ∨ k = 2 from by omega) with rfl | rfl | rfl <;> simp only [kill, List.getD_cons_zero, List.getD_cons_succ, Fz] <;> (by_cases h : i = 13 <;> by_cases h1 : i = 10 <;> by_cases h2 : i = 9 <;> simp_all)
/-- line feeds and tabs -/
def gone (c : UInt8) : Bool := c == 9 || c == 10 || c == 13
def rm (s : List UInt8) : List UInt8 := s.filter fun c => !(gone c)
theorem Fz_gone (z : Nat → Nat × Nat) (c : UInt8) : Fz 3 z c.toNat = if gone c then slA (z c.toNat) else nilA := by
  unfold Fz gone
  have h9 : (c.toNat = 9) ↔ (c == 9) = true := by rw [beq_iff_eq]; exact ⟨fun h => UInt8.toNat_inj.1 h, fun h => by rw [h]; rfl⟩
  have h10 : (c.toNat = 10) ↔ (c == 10) = true := by rw [beq_iff_eq]; exact ⟨fun h => UInt8.toNat_inj.1 h, fun h => by rw [h]; rfl⟩
  have h13 : (c.toNat = 13) ↔ (c == 13) = true := by rw [beq_iff_eq]; exact ⟨fun h => UInt8.toNat_inj.1 h, fun h => by rw [h]; rfl⟩
  simp only [h9, h10, h13]
  cases (c == 9) <;> cases (c == 10) <;> cases (c == 13) <;> simp
theorem rm_append (s t : List UInt8) : rm (s ++ t) = rm s ++ rm t := by simp [rm]
theorem rm_len (s : List UInt8) : (rm s).length + (s.count 13 + s.count 10 + s.count 9) = s.length := by
  induction s with
  | nil => rfl
  | cons c s ih =>
    unfold rm at ih ⊢
    rw [List.filter_cons, List.count_cons, List.count_cons, List.count_cons, List.length_cons]
    by_cases h1 : c = 9
    · subst h1
      rw [if_neg (by decide), if_neg (by decide), if_neg (by decide), if_pos (by decide)]; omega
    · by_cases h2 : c = 10
      · subst h2
        rw [if_neg (by decide), if_neg (by decide), if_pos (by decide), if_neg (by decide)]; omega
      · by_cases h3 : c = 13
        · subst h3
          rw [if_neg (by decide), if_pos (by decide), if_neg (by decide), if_neg (by decide)]; omega
        · have : gone c = false := by simp [gone, h1, h2, h3]
          rw [this, if_pos (show (!false) = true from rfl), if_neg (by simpa using h3), if_neg (by simpa using h2), if_neg (by simpa using h1), List.length_cons]; omega
theorem rm_same {s : List UInt8} (h : (rm s).length = s.length) : rm s = s := by
  unfold rm at *
  exact List.filter_eq_self.2 (fun a ha => by
    have := List.length_filter_eq_length_iff.1 h a ha
    exact this)
theorem rm_take (s : List UInt8) (i : Nat) (h : i < s.length) : rm (s.take (i + 1)) = rm (s.take i) ++ (if gone (s.getD i 0) then [] else [s.getD i 0]) := by
  rw [take_getDG 0 s i h, rm_append]
  congr 1
  unfold rm
  rw [List.filter_cons, List.filter_nil]
  cases gone (s.getD i 0) <;> rfl
theorem rm_take_le (s : List UInt8) (i : Nat) : (rm (s.take i)).length ≤ (rm s).length := by
  have h := rm_append (s.take i) (s.drop i)
  rw [List.take_append_drop] at h
  rw [h, List.length_append]; omega
/-! ### what is stripped -/
def ctl : List UInt8 := [0, 1, 2, 3, 4, 5, 6, 7, 8, 9, 10, 11, 12, 13, 14, 15, 16, 17, 18, 19, 20, 21, 22, 23, 24, 25, 26, 27, 28, 29, 30, 31, 32]
def odd (c : UInt8) : Bool := ctl.contains c
def trim (s : List UInt8) : List UInt8 := Lib.trimS s ctl
def strip (s : List UInt8) : List UInt8 := rm (trim s)
theorem gone_odd (c : UInt8) (h : gone c = true) : odd c = true := by
  unfold gone at h
  simp only [Bool.or_eq_true, beq_iff_eq] at h
  rcases h with (rfl | rfl) | rfl <;> decide
/-- nothing to trim at either end -/
def fine (s : List UInt8) : Prop := (∀ c t, s = c :: t → odd c = false) ∧ (∀ t c, s = t ++ [c] → odd c = false)
theorem trimR_snoc (t : List UInt8) (c : UInt8) : Lib.trimRightS (t ++ [c]) ctl = if odd c then Lib.trimRightS t ctl else t ++ [c] := by
  unfold Lib.trimRightS
  rw [List.reverse_append, List.reverse_singleton, List.singleton_append, List.dropWhile_cons]
  show (if odd c = true then _ else _ : List UInt8).reverse = _
  split
  · rfl
  · rw [List.reverse_cons, List.reverse_reverse]
theorem trimL_cons (c : UInt8) (t : List UInt8) : Lib.trimLeftS (c :: t) ctl = if odd c then Lib.trimLeftS t ctl else c :: t := by
  unfold Lib.trimLeftS
  rw [List.dropWhile_cons]
  rfl
theorem trim_fine {s : List UInt8} (h : fine s) : trim s = s := by
  have h1 : Lib.trimRightS s ctl = s := by
    rcases List.eq_nil_or_concat s with rfl | ⟨t, c, e⟩
    · rfl
    · rw [List.concat_eq_append] at e
      subst e
      rw [trimR_snoc, h.2 t c rfl]; rfl
  unfold trim Lib.trimS
  rw [h1]
  cases s with
  | nil => rfl
  | cons c t => rw [trimL_cons, h.1 c t rfl]; rfl
theorem trimR_last : ∀ (n : Nat) (s : List UInt8), s.length = n → ∀ t c, Lib.trimRightS s ctl = t ++ [c] → odd c = false := by
  intro n
  induction n with
  | zero => intro s hs t c h; rw [List.eq_nil_of_length_eq_zero hs] at h; simp [Lib.trimRightS] at h
  | succ n ih =>
    intro s hs t c h
    rcases List.eq_nil_or_concat s with rfl | ⟨t', c', e⟩
    · cases hs
    · rw [List.concat_eq_append] at e
      subst e
      rw [trimR_snoc] at h
      split at h
      · exact ih t' (by simpa using hs) t c h
      · rename_i ho
        obtain ⟨_, e⟩ := List.append_inj' h rfl
        rw [← List.singleton_inj.1 e]
        simpa using ho
theorem trimL_first : ∀ (s : List UInt8) (c : UInt8) (t : List UInt8), Lib.trimLeftS s ctl = c :: t → odd c = false
  | [], c, t, h => by simp [Lib.trimLeftS] at h
  | d :: s, c, t, h => by
    rw [trimL_cons] at h
    split at h
    · exact trimL_first s c t h
    · rename_i ho
      rw [← (List.cons.inj h).1]
      simpa using ho
theorem trimL_suffix : ∀ (s : List UInt8), ∃ p, s = p ++ Lib.trimLeftS s ctl
  | [] => ⟨[], rfl⟩
  | c :: s => by
    obtain ⟨p, hp⟩ := trimL_suffix s
    rw [trimL_cons]
    split
    · exact ⟨c :: p, by rw [List.cons_append, ← hp]⟩
    · exact ⟨[], rfl⟩
theorem fine_trim (s : List UInt8) : fine (trim s) := by
  refine ⟨fun c t h => trimL_first _ c t h, fun t c h => ?_⟩
  obtain ⟨p, hp⟩ := trimL_suffix (Lib.trimRightS s ctl)
  have h' : Lib.trimLeftS (Lib.trimRightS s ctl) ctl = t ++ [c] := h
  rw [h', ← List.append_assoc] at hp
  exact trimR_last _ s rfl _ c hp
theorem trimR_len : ∀ (n : Nat) (s : List UInt8), s.length = n → (Lib.trimRightS s ctl).length ≤ n := by
  intro n s hs
  unfold Lib.trimRightS
  have h1 := (List.dropWhile_sublist (ctl.contains ·) (l := s.reverse)).length_le
  rw [List.length_reverse] at h1 ⊢
  omega
theorem trim_len (s : List UInt8) : (trim s).length ≤ s.length := by
  obtain ⟨p, hp⟩ := trimL_suffix (Lib.trimRightS s ctl)
  have h1 := congrArg List.length hp
  rw [List.length_append] at h1
  have h2 := trimR_len _ s rfl
  show (Lib.trimLeftS _ ctl).length ≤ _
  omega
theorem strip_len (s : List UInt8) : (strip s).length ≤ s.length := by
  have h1 := trim_len s
  have h2 := rm_len (trim s)
  unfold strip; omega
theorem rm_rm (s : List UInt8) : rm (rm s) = rm s := by
  unfold rm
  rw [List.filter_filter]
  simp
theorem fine_rm {s : List UInt8} (h : fine s) : fine (rm s) := by
  have hng : ∀ c, odd c = false → gone c = false := fun c hc => by
    cases hg : gone c
    · rfl
    · rw [gone_odd c hg] at hc; cases hc
  refine ⟨fun c t e => ?_, fun t c e => ?_⟩
  · cases s with
    | nil => cases e
    | cons d s =>
      have hd := h.1 d s rfl
      unfold rm at e
      rw [List.filter_cons, hng d hd] at e
      rw [← (List.cons.inj (show d :: _ = c :: t from e)).1]; exact hd
  · rcases List.eq_nil_or_concat s with rfl | ⟨t', d, es⟩
    · simp [rm] at e
    · rw [List.concat_eq_append] at es
      subst es
      have hd := h.2 t' d rfl
      rw [rm_append] at e
      have : rm [d] = [d] := by unfold rm; rw [List.filter_cons, hng d hd]; rfl
      rw [this] at e
      obtain ⟨_, e⟩ := List.append_inj' e rfl
      rw [← List.singleton_inj.1 e]; exact hd
/-- what is stripped is stripped -/
theorem strip_strip (s : List UInt8) : strip (strip s) = strip s := by
  show rm (trim (rm (trim s))) = rm (trim s)
  rw [trim_fine (fine_rm (fine_trim s))]
  exact rm_rm _
/-- what stays ahead -/
theorem trimR_head {a : List UInt8} {c : UInt8} (hc : odd c = false) (s : List UInt8) : Lib.trimRightS ((a ++ [c]) ++ s) ctl = (a ++ [c]) ++ Lib.trimRightS s ctl := by
  have key : ∀ (n : Nat) (s : List UInt8), s.length = n → Lib.trimRightS ((a ++ [c]) ++ s) ctl = (a ++ [c]) ++ Lib.trimRightS s ctl := by
    intro n
    induction n with
    | zero => intro s hs; rw [List.eq_nil_of_length_eq_zero hs, List.append_nil, trimR_snoc, hc]; simp [Lib.trimRightS]
    | succ n ih =>
      intro s hs
      rcases List.eq_nil_or_concat s with rfl | ⟨t, d, e⟩
      · cases hs
      · rw [List.concat_eq_append] at e
        subst e
        rw [← List.append_assoc, trimR_snoc, trimR_snoc]
        split
        · exact ih t (by simpa using hs)
        · rw [List.append_assoc, List.append_assoc]
  exact key _ s rfl
theorem trimL_pad : ∀ {p : List UInt8}, (∀ c ∈ p, odd c = true) → ∀ (d : UInt8) (s : List UInt8), odd d = false → Lib.trimLeftS (p ++ d :: s) ctl = d :: s
  | [], _, d, s, hd => by rw [List.nil_append, trimL_cons, hd]; rfl
  | c :: p, h, d, s, hd => by
    rw [List.cons_append, trimL_cons, h c List.mem_cons_self]
    exact trimL_pad (fun x hx => h x (List.mem_cons_of_mem _ hx)) d s hd
/-- behind a pad: first letter d, .., a letter e, whatever -/
theorem strip_shape {p : List UInt8} (hp : ∀ c ∈ p, odd c = true) {d : UInt8} (hd : odd d = false) {m : List UInt8} {e : UInt8} (he : odd e = false) (hde : ∃ b, d :: m = b ++ [e]) (s : List UInt8) :
    ∃ r, strip (p ++ ((d :: m) ++ s)) = rm (d :: m) ++ r := by
  obtain ⟨b, hb⟩ := hde
  refine ⟨rm (Lib.trimRightS s ctl), ?_⟩
  unfold strip trim Lib.trimS
  rw [hb, ← List.append_assoc, ← List.append_assoc, trimR_head he s, List.append_assoc p b [e], ← hb, List.append_assoc, List.cons_append, trimL_pad hp d _ hd, ← List.cons_append, rm_append]
/-! ### schemes -/
def letter (c : UInt8) : Bool := (decide (97 ≤ c.toNat) && decide (c.toNat ≤ 122)) || (decide (65 ≤ c.toNat) && decide (c.toNat ≤ 90))
def more (c : UInt8) : Bool := (decide (48 ≤ c.toNat) && decide (c.toNat ≤ 57)) || c == 43 || c == 45 || c == 46
def schF (pre : List UInt8) : List UInt8 → List UInt8 × Bool
  | [] => ([], false)
  | c :: r => if letter c || (decide (0 < pre.length) && more c) then schF (pre ++ [c]) r else if c == 58 && decide (0 < pre.length) then (Sty.small pre, true) else ([], false)
def scheme (s : List UInt8) : List UInt8 × Bool := schF [] (strip s)
def of (s : List UInt8) (l : List (List UInt8)) : Bool := !(scheme s).2 || l.any fun x => (scheme s).1 == x
theorem schF_letters : ∀ (a pre r : List UInt8), (∀ c ∈ a, letter c = true) → 0 < (pre ++ a).length → schF pre (a ++ 58 :: r) = (Sty.small (pre ++ a), true)
  | [], pre, r, _, h => by
    rw [List.append_nil] at h ⊢
    rw [List.nil_append, schF, if_neg (by simp [letter, more]), if_pos (by simp; simpa using h)]
  | c :: a, pre, r, hl, h => by
    rw [List.cons_append, schF, if_pos (by rw [hl c List.mem_cons_self]; rfl), schF_letters a (pre ++ [c]) r (fun d hd => hl d (List.mem_cons_of_mem _ hd)) (by simp; omega), List.append_assoc]; rfl
theorem schF_at (u : List UInt8) (i : Nat) (h : i < u.length) : schF (u.take i) (u.drop i) = if letter (u.getD i 0) || (decide (0 < i) && more (u.getD i 0)) then schF (u.take (i + 1)) (u.drop (i + 1)) else if u.getD i 0 == 58 && decide (0 < i) then (Sty.small (u.take i), true) else ([], false) := by
  rw [drop_getDG 0 u i h, schF, List.length_take, Nat.min_eq_left (by omega), ← take_getDG 0 u i h]
def heads : List (List UInt8) := [[47], [46, 47], [63], [35], [97, 47], [98, 49, 63], [49], [97, 32, 98, 35]]
theorem head_no {a : List UInt8} (h : a ∈ heads) (r : List UInt8) : schF [] (a ++ r) = ([], false) := by
  simp only [heads, List.mem_cons, List.not_mem_nil, or_false] at h
  rcases h with rfl | rfl | rfl | rfl | rfl | rfl | rfl | rfl <;> rfl
theorem strip_head {a : List UInt8} (h : a ∈ heads) (s : List UInt8) : ∃ r, strip (a ++ s) = a ++ r := by
  simp only [heads, List.mem_cons, List.not_mem_nil, or_false] at h
  rcases h with rfl | rfl | rfl | rfl | rfl | rfl | rfl | rfl
  · exact strip_shape (p := []) (fun c hc => by cases hc) (d := 47) (by decide) (m := []) (e := 47) (by decide) ⟨[], rfl⟩ s
  · exact strip_shape (p := []) (fun c hc => by cases hc) (d := 46) (by decide) (m := [47]) (e := 47) (by decide) ⟨[46], rfl⟩ s
  · exact strip_shape (p := []) (fun c hc => by cases hc) (d := 63) (by decide) (m := []) (e := 63) (by decide) ⟨[], rfl⟩ s
  · exact strip_shape (p := []) (fun c hc => by cases hc) (d := 35) (by decide) (m := []) (e := 35) (by decide) ⟨[], rfl⟩ s
  · exact strip_shape (p := []) (fun c hc => by cases hc) (d := 97) (by decide) (m := [47]) (e := 47) (by decide) ⟨[97], rfl⟩ s
  · exact strip_shape (p := []) (fun c hc => by cases hc) (d := 98) (by decide) (m := [49, 63]) (e := 63) (by decide) ⟨[98, 49], rfl⟩ s
  · exact strip_shape (p := []) (fun c hc => by cases hc) (d := 49) (by decide) (m := []) (e := 49) (by decide) ⟨[], rfl⟩ s
  · exact strip_shape (p := []) (fun c hc => by cases hc) (d := 97) (by decide) (m := [32, 98, 35]) (e := 35) (by decide) ⟨[97, 32, 98], rfl⟩ s
theorem scheme_head {a : List UInt8} (h : a ∈ heads) (s : List UInt8) : scheme (a ++ s) = ([], false) := by
  obtain ⟨r, e⟩ := strip_head h s
  unfold scheme
  rw [e, head_no h]
theorem scheme_strip (s : List UInt8) : scheme (strip s) = scheme s := by
  unfold scheme; rw [strip_strip]
theorem dec_cast (a b : Nat) : decide ((a : Int) ≤ (b : Int)) = decide (a ≤ b) := by rw [decide_eq_decide]; omega
theorem beq_cast (c d : UInt8) : ((c.toNat : Int) == (d.toNat : Int)) = (c == d) := by
  rw [Bool.eq_iff_iff, beq_iff_eq, beq_iff_eq]
  exact ⟨fun h => UInt8.toNat_inj.1 (by omega), fun h => by rw [h]⟩
theorem letter_prog (c : UInt8) : ((decide ((97 : Int) ≤ (c.toNat : Int)) && decide ((c.toNat : Int) ≤ 122)) || (decide ((65 : Int) ≤ (c.toNat : Int)) && decide ((c.toNat : Int) ≤ 90))) = letter c := by
  unfold letter
  rw [← dec_cast, ← dec_cast, ← dec_cast, ← dec_cast]; rfl
theorem more_prog (i : Nat) (c : UInt8) : (decide ((0 : Int) < (i : Int)) && ((((decide ((48 : Int) ≤ (c.toNat : Int)) && decide ((c.toNat : Int) ≤ 57)) || ((c.toNat : Int) == 43)) || ((c.toNat : Int) == 45)) || ((c.toNat : Int) == 46))) = (decide (0 < i) && more c) := by
  unfold more
  rw [← dec_cast, ← dec_cast, ← beq_cast c 43, ← beq_cast c 45, ← beq_cast c 46, show decide ((0 : Int) < (i : Int)) = decide (0 < i) from by rw [decide_eq_decide]; omega]
  rfl
theorem colon_prog (i : Nat) (c : UInt8) : (((c.toNat : Int) == 58) && decide ((0 : Int) < (i : Int))) = (c == 58 && decide (0 < i)) := by
  rw [← beq_cast c 58, show decide ((0 : Int) < (i : Int)) = decide (0 < i) from by rw [decide_eq_decide]; omega]
  rfl
/-! ### hidden schemes -/
theorem tab_at_97 (k : Nat) : (List.drop (k % 26) [97, 98, 99, 100, 101, 102, 103, 104, 105, 106, 107, 108, 109, 110, 111, 112, 113, 114, 115, 116, 117, 118, 119, 120, 121, 122]).take 1 = [UInt8.ofNat (97 + k % 26)] := by
  have h : (List.range 26).all (fun j => (List.drop j [97, 98, 99, 100, 101, 102, 103, 104, 105, 106, 107, 108, 109, 110, 111, 112, 113, 114, 115, 116, 117, 118, 119, 120, 121, 122]).take 1 == [UInt8.ofNat (97 + j)]) = true := by decide +kernel
  exact beq_iff_eq.1 (List.all_eq_true.1 h (k % 26) (List.mem_range.2 (Nat.mod_lt _ (by decide))))
theorem tab_at_65 (k : Nat) : (List.drop (k % 26) [65, 66, 67, 68, 69, 70, 71, 72, 73, 74, 75, 76, 77, 78, 79, 80, 81, 82, 83, 84, 85, 86, 87, 88, 89, 90]).take 1 = [UInt8.ofNat (65 + k % 26)] := by
  have h : (List.range 26).all (fun j => (List.drop j [65, 66, 67, 68, 69, 70, 71, 72, 73, 74, 75, 76, 77, 78, 79, 80, 81, 82, 83, 84, 85, 86, 87, 88, 89, 90]).take 1 == [UInt8.ofNat (65 + j)]) = true := by decide +kernel
  exact beq_iff_eq.1 (List.all_eq_true.1 h (k % 26) (List.mem_range.2 (Nat.mod_lt _ (by decide))))
theorem rem26 (k : Nat) : (k : Int).tmod 26 = ((k % 26 : Nat) : Int) := by
  rw [Int.tmod_eq_emod_of_nonneg (by omega)]
  omega
def lowC (k : Nat) : UInt8 := UInt8.ofNat (97 + k % 26)
def bigC (k : Nat) : UInt8 := if k < 26 then UInt8.ofNat (97 + k % 26) else UInt8.ofNat (65 + k % 26)
def pads : List (List UInt8) := [[], [32], [9, 10], [0, 31, 32]]
def gaps : List (List UInt8) := [[], [9], [10], [13, 10]]
/-- letters as_ they are seen, and as_ they are hidden -/
structure Hid (sch hid : List UInt8) : Prop where
  out : ∃ p body ls, hid = p ++ body ∧ (∀ c ∈ p, odd c = true) ∧ rm body = ls ∧ (∀ c ∈ ls, letter c = true) ∧ Sty.small ls = sch ∧ (ls = [] → body = []) ∧ (∀ d m, body = d :: m → odd d = false)
theorem tab26 : (List.range 26).all (fun k => !(gone (UInt8.ofNat (97 + k))) && letter (UInt8.ofNat (97 + k)) && !(odd (UInt8.ofNat (97 + k))) && !(gone (UInt8.ofNat (65 + k))) && letter (UInt8.ofNat (65 + k)) && !(odd (UInt8.ofNat (65 + k))) && (Sty.small [UInt8.ofNat (97 + k)] == [UInt8.ofNat (97 + k)]) && (Sty.small [UInt8.ofNat (65 + k)] == [UInt8.ofNat (97 + k)])) = true := by decide +kernel
theorem big_facts (k : Nat) : gone (bigC k) = false ∧ letter (bigC k) = true ∧ odd (bigC k) = false ∧ Sty.small [bigC k] = [lowC k] ∧ letter (lowC k) = true ∧ Sty.small [lowC k] = [lowC k] := by
  have h := List.all_eq_true.1 tab26 (k % 26) (List.mem_range.2 (Nat.mod_lt _ (by decide)))
  simp only [Bool.and_eq_true, Bool.not_eq_true', beq_iff_eq] at h
  obtain ⟨⟨⟨⟨⟨⟨⟨h1, h2⟩, h3⟩, h4⟩, h5⟩, h6⟩, h7⟩, h8⟩ := h
  unfold bigC lowC
  split
  · exact ⟨h1, h2, h3, h7, h2, h7⟩
  · exact ⟨h4, h5, h6, h8, h2, h7⟩
theorem Hid.start {p : List UInt8} (h : p ∈ pads) : Hid [] p := by
  refine ⟨p, [], [], (by simp), ?_, rfl, (fun c hc => by cases hc), rfl, (fun _ => rfl), (fun d m h => by cases h)⟩
  simp only [pads, List.mem_cons, List.not_mem_nil, or_false] at h
  rcases h with rfl | rfl | rfl | rfl <;> decide
theorem Hid.add {sch hid : List UInt8} (h : Hid sch hid) (k : Nat) {g : List UInt8} (hg : g ∈ gaps) : Hid (sch ++ [lowC k]) (hid ++ [bigC k] ++ g) := by
  obtain ⟨p, body, ls, h1, h2, h3, h4, h5, h6, h7⟩ := h
  obtain ⟨b1, b2, b3, b4, b5, b6⟩ := big_facts k
  have hgr : rm g = [] := by
    simp only [gaps, List.mem_cons, List.not_mem_nil, or_false] at hg
    rcases hg with rfl | rfl | rfl | rfl <;> rfl
  refine ⟨p, body ++ [bigC k] ++ g, ls ++ [bigC k], by rw [h1]; simp, h2, ?_, ?_, ?_, fun e => by simp at e, ?_⟩
  · rw [rm_append, rm_append, h3, hgr, List.append_nil]
    congr 1
    unfold rm; rw [List.filter_cons, b1]; rfl
  · intro c hc
    rcases List.mem_append.1 hc with hc | hc
    · exact h4 c hc
    · rw [List.mem_singleton.1 hc]; exact b2
  · have : Sty.small (ls ++ [bigC k]) = Sty.small ls ++ Sty.small [bigC k] := by simp [Sty.small]
    rw [this, h5, b4]
  · intro d m e
    cases body with
    | nil => rw [List.nil_append] at e; rw [← (List.cons.inj e).1]; exact b3
    | cons x body => rw [← (List.cons.inj e).1]; exact h7 x body rfl
theorem odd58 : odd 58 = false := by decide
/-- the scheme is seen -/
theorem Hid.scheme {sch hid : List UInt8} (h : Hid sch hid) (hne : sch ≠ []) (rest : List UInt8) : Url.scheme (hid ++ [58] ++ rest) = (sch, true) := by
  obtain ⟨p, body, ls, h1, h2, h3, h4, h5, h6, h7⟩ := h
  have hls : ls ≠ [] := by rintro rfl; exact hne h5.symm
  cases body with
  | nil => exact absurd (show ls = [] from h3.symm) hls
  | cons d m =>
    obtain ⟨r, hr⟩ := strip_shape h2 (h7 d m rfl) (m := m ++ [58]) odd58 ⟨d :: m, by simp⟩ rest
    unfold Url.scheme
    have e : hid ++ [58] ++ rest = p ++ ((d :: (m ++ [58])) ++ rest) := by rw [h1]; simp
    rw [e, hr]
    have e2 : rm (d :: (m ++ [58])) = ls ++ [58] := by
      rw [show d :: (m ++ [58]) = (d :: m) ++ [58] from rfl, rm_append, h3]; rfl
    rw [e2, List.append_assoc, List.singleton_append, schF_letters ls [] r h4 (by simpa using List.length_pos_iff.2 hls), List.nil_append, h5]
theorem small_lows : ∀ (ks : List Nat), Sty.small (ks.map lowC) = ks.map lowC := by
  intro ks
  induction ks with
  | nil => rfl
  | cons k ks ih =>
    obtain ⟨_, _, _, _, _, b6⟩ := big_facts k
    have : Sty.small (lowC k :: ks.map lowC) = Sty.small [lowC k] ++ Sty.small (ks.map lowC) := by simp [Sty.small]
    rw [List.map_cons, this, b6, ih]; rfl
theorem scheme_lows {ks : List Nat} (h : ks ≠ []) : Url.scheme (ks.map lowC ++ [58]) = (ks.map lowC, true) := by
  cases ks with
  | nil => exact absurd rfl h
  | cons k ks =>
    have hod : odd (lowC k) = false := by
      obtain ⟨_, _, h3, _, _, _⟩ := big_facts (k % 26)
      have e : bigC (k % 26) = lowC k := by unfold bigC lowC; rw [if_pos (Nat.mod_lt _ (by decide)), Nat.mod_mod]
      rw [← e]; exact h3
    obtain ⟨r, hr⟩ := strip_shape (p := []) (fun c hc => by cases hc) hod (m := ks.map lowC ++ [58]) odd58 ⟨lowC k :: ks.map lowC, by simp⟩ []
    have hrm : ∀ ks : List Nat, rm (ks.map lowC) = ks.map lowC := by
      intro ks
      unfold rm
      refine List.filter_eq_self.2 fun c hc => ?_
      obtain ⟨j, _, rfl⟩ := List.mem_map.1 hc
      obtain ⟨h1, _, _, _, _, _⟩ := big_facts (j % 26)
      have e : bigC (j % 26) = lowC j := by unfold bigC lowC; rw [if_pos (Nat.mod_lt _ (by decide)), Nat.mod_mod]
      rw [e] at h1; rw [h1]; rfl
    unfold Url.scheme
    rw [List.append_nil, List.nil_append] at hr
    rw [List.map_cons, List.cons_append, hr, show lowC k :: (ks.map lowC ++ [58]) = ((k :: ks).map lowC) ++ [58] from rfl, rm_append, hrm, show rm [58] = [58] from rfl, List.append_assoc, List.singleton_append,
      schF_letters ((k :: ks).map lowC) [] r (fun c hc => by obtain ⟨j, _, rfl⟩ := List.mem_map.1 hc; exact (big_facts j).2.2.2.2.1) (by simp), List.nil_append, small_lows]
    rfl
def bufV (s : List UInt8) (i : Nat) : List AV := (rm (s.take i)).map AV.u8 ++ List.replicate ((rm s).length - (rm (s.take i)).length) (AV.lit (.int .u8 0))
theorem bufV_len (s : List UInt8) (i : Nat) : (bufV s i).length = (rm s).length := by
  have := rm_take_le s i
  unfold bufV
  rw [List.length_append, List.length_map, List.length_replicate]; omega
theorem bufV_at (s : List UInt8) (i : Nat) (h : (rm (s.take i)).length < (rm s).length) : (bufV s i)[(rm (s.take i)).length]? = some (AV.lit (.int .u8 0)) := by
  unfold bufV
  rw [List.getElem?_append_right (by simp), List.length_map, Nat.sub_self, List.getElem?_replicate, if_pos (by omega)]
theorem bufV_set (s : List UInt8) (i : Nat) (c : UInt8) (hi : rm (s.take (i + 1)) = rm (s.take i) ++ [c]) : (bufV s i).set (rm (s.take i)).length (AV.u8 c) = bufV s (i + 1) := by
  have h1 := rm_take_le s (i + 1)
  have hl : (rm (s.take (i + 1))).length = (rm (s.take i)).length + 1 := by rw [hi, List.length_append, List.length_singleton]
  unfold bufV
  rw [hl, hi]
  rw [show (rm s).length - (rm (s.take i)).length = ((rm s).length - ((rm (s.take i)).length + 1)) + 1 from by omega, List.replicate_succ]
  rw [show (rm (s.take i)).length = ((rm (s.take i)).map AV.u8).length from (List.length_map ..).symm, List.set_append_right _ _ (Nat.le_refl _), Nat.sub_self, List.length_map]
  simp
theorem bufV_same (s : List UInt8) (i : Nat) (hi : rm (s.take (i + 1)) = rm (s.take i)) : bufV s (i + 1) = bufV s i := by
  unfold bufV; rw [hi]
theorem bufV_zero (s : List UInt8) : bufV s 0 = List.replicate (rm s).length (AV.lit (.int .u8 0)) := by
  unfold bufV; simp [rm]
theorem bufV_end (s : List UInt8) : bufV s s.length = (rm s).map AV.u8 := by
  unfold bufV; rw [List.take_length]; simp
theorem rm_step (s : List UInt8) (i : Nat) (h : i < s.length) : (gone (s.getD i 0) = true ∧ rm (s.take (i + 1)) = rm (s.take i)) ∨ (gone (s.getD i 0) = false ∧ rm (s.take (i + 1)) = rm (s.take i) ++ [s.getD i 0]) := by
  have := rm_take s i h
  cases hg : gone (s.getD i 0)
  · rw [hg] at this; exact .inr ⟨rfl, this⟩
  · rw [hg] at this; exact .inl ⟨rfl, by simpa using this⟩
theorem rm_take_len (s : List UInt8) (i : Nat) : (rm (s.take i)).length ≤ i := by
  have := rm_len (s.take i); rw [List.length_take] at this; omega
end Url
end Go.Vl
end

section
set_option linter.unusedVariables false
set_option linter.unusedSimpArgs false
set_option maxRecDepth 100000
namespace Go.Proofs.YtohncieijjhnjaaDoor
open Go.Vl

namespace Base

theorem tmod_neg (a n : Int) (hn : 0 < n) (h : a.tmod n < 0) : a.tmod n + n = a % n := by
  have h1 := Int.tmod_eq_emod (a := a) (b := n)
  have h2 := Int.emod_nonneg a (by omega : n ≠ 0)
  have h3 := Int.emod_lt_of_pos a hn
  have h4 : (n.natAbs : Int) = n := by omega
  rw [h1] at h ⊢
  split at h <;> split <;> omega
theorem tmod_nonneg (a n : Int) (hn : 0 < n) (h : ¬ a.tmod n < 0) : a.tmod n = a % n := by
  have h1 := Int.tmod_eq_emod (a := a) (b := n)
  have h2 := Int.emod_nonneg a (by omega : n ≠ 0)
  have h3 := Int.emod_lt_of_pos a hn
  have h4 : (n.natAbs : Int) = n := by omega
  rw [h1] at h ⊢
  split at h <;> split <;> omega
theorem tmod_gt (a n : Int) (hn : 0 < n) : -n < a.tmod n ∧ a.tmod n < n := by
  have h1 := Int.tmod_eq_emod (a := a) (b := n)
  have h2 := Int.emod_nonneg a (by omega : n ≠ 0)
  have h3 := Int.emod_lt_of_pos a hn
  have h4 : (n.natAbs : Int) = n := by omega
  rw [h1]
  split <;> omega

theorem c_Picked (a n : Int) (hn : 0 < n) (hb : n ≤ 4611686018427387904) : FnP Tryd.prog 10 [.int a, .int n] (.int (a % n)) :=  by
  refine FnC.mk Tryd.func10 (by kernel_rfl) rfl Tryd.ntmps10 rfl (fun w0 F => ?_)
  have htm := tmod_gt a n hn
  refine W.seq ?_
  refine W.region ?_
  refine W.q (Ev.assign .k) rfl ?_
  refine W.nil ?_
  refine W.then ?_
  refine W.seq ?_
  refine W.region ?_
  refine W.q (Ev.move (.t rfl)) rfl ?_
  refine W.q (Ev.move (.t rfl)) rfl ?_
  first | refine W.q (Ev.rem (.t rfl) (.t rfl) (fun _ => by decide)) rfl ?_ | refine W.q (Ev.rem (.t rfl) (.t rfl) (fun _ => by omega)) rfl ?_
  refine W.q (Ev.assign (.t rfl)) rfl ?_
  refine W.nil ?_
  refine W.then ?_
  refine W.seq ?_
  refine W.seq ?_
  refine W.region ?_
  refine W.q (Ev.move (.t rfl)) rfl ?_
  refine W.q (Ev.lti (.t rfl) .k) rfl ?_
  refine W.nil ?_
  refine W.then ?_
  refine W.cond (.t rfl) (fun hc_t9 => ?_) (fun hc_t9 => ?_)
  · have h9 := of_decide_eq_true hc_t9
    refine W.seq ?_
    refine W.region ?_
    refine W.q (Ev.move (.t rfl)) rfl ?_
    refine W.q (Ev.move (.t rfl)) rfl ?_
    first | refine W.q (Ev.add (.t rfl) (.t rfl) (fun _ => by omega)) rfl ?_ | refine W.q (Ev.addw (.t rfl) (.t rfl)) rfl ?_
    refine W.q (Ev.assign (.t rfl)) rfl ?_
    refine W.nil ?_
    refine W.then ?_
    refine W.ret ?_
    refine W.then_ret ?_
    refine W.retn (M' := []) (rs := [.tmp 4]) (avs := [_]) Tryd.results10 ⟨rfl, trivial⟩ rfl (.refl _) ?_
    exact ⟨congrArg AV.int (by first | exact (tmod_neg a n hn h9).symm ▸ rfl | exact tmod_nonneg a n hn h9), rfl⟩
  · have h9 := of_decide_eq_false hc_t9
    refine W.skip ?_
    refine W.then ?_
    refine W.seq ?_
    refine W.region ?_
    refine W.q (Ev.move (.t rfl)) rfl ?_
    refine W.q (Ev.assign (.t rfl)) rfl ?_
    refine W.nil ?_
    refine W.then ?_
    refine W.ret ?_
    refine W.retn (M' := []) (rs := [.tmp 4]) (avs := [_]) Tryd.results10 ⟨rfl, trivial⟩ rfl (.refl _) ?_
    exact ⟨congrArg AV.int (by first | exact (tmod_neg a n hn h9).symm ▸ rfl | exact tmod_nonneg a n hn h9), rfl⟩

end Base

end Go.Proofs.YtohncieijjhnjaaDoor
end
