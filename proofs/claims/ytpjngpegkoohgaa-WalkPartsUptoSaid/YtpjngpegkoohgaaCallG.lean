/-
  Calls that are guarded by what is not known; rows under a name.
-/
import Derived.Test.YtpjngpegkoohgaaDrawM
import Derived.Test.YtpjngpegkoohgaaWalk
set_option linter.unusedVariables false
set_option linter.unusedSimpArgs false
set_option linter.unusedSectionVars false
namespace Go.Vl
open Go Go.Sem
section callg
variable {x : Cx} {L : List (Tmp × Bool × AV)} {M : List ME} {ops : Array Oper} {Q : Exit → Act → World → Prop} {rest : List Oper}
theorem W.callg {f : FuncId} {d : Tmp} {fo : Operand} {caps : List Value} {os : List Operand} {ats : Array TypeId} {ty : TypeId} {pos : String} {aft : Array Edge} {avs avs' : List AV} {r : AV} {Min Mr : List ME} {j : Nat} {want : Bool} {t : Tmp} {gb b G : Bool}
    (hj : (ops[j]?).bind (·.dst) = some t) (hl : look L t = some (gb, .lit (.bool b))) (hG : G = (gb && (b == want)))
    (hc : G = true → FnC x.P f avs' Min (fun r' M' => r' = r ∧ M' = Min)) (hfo : G = true → Ov true L fo (.lit (.func (.func f) #[] caps.toArray))) (ha : G = true → ArgsOv L os avs) (he : avs' = avs ++ caps.map .lit) (hM : List.Perm M (Min ++ Mr)) (hd : Nat.blt d x.n = true)
    (next : W x ((d, G, r) :: L) M (wpList x.P ops Q rest)) :
    W x L M (wpList x.P ops Q (⟨some d, .call ⟨.value fo, os.toArray, ats⟩, ty, pos, aft, some (j, want)⟩ :: rest)) := by
  intro a w hs
  have hw := guard_of (d := some d) (op := .call ⟨.value fo, os.toArray, ats⟩) (ty := ty) (pos := pos) (aft := aft) (want := want) hj hl hs
  rw [← hG] at hw
  cases hGv : G with
  | true =>
    have h := W.callv (ops := ops) (Q := Q) (rest := rest) (ats := ats) (ty := ty) (pos := pos) (aft := aft) (hc hGv) (hfo hGv) (ha hGv) he hM hd (fun r' M' hp => by
      obtain ⟨rfl, rfl⟩ := hp
      rw [hGv] at next
      exact W.perm hM.symm next) a w hs
    unfold wpList at h ⊢
    rw [if_pos (by rw [hw, hGv])]
    rw [if_pos (by simp [Region.wanted])] at h
    exact h
  | false =>
    refine wpList_cons_skip (by rw [hw, hGv]) ?_
    rw [hGv] at next
    exact next _ _ (hs.put hd false r undef (by simp) (fun _ => rfl))
theorem W.callgT {f : FuncId} {d : Tmp} {fo : Operand} {caps : List Value} {os : List Operand} {ats : Array TypeId} {ty : TypeId} {pos : String} {aft : Array Edge} {avs avs' : List AV} {r : AV} {Min Mr : List ME} {j : Nat} {t : Tmp} {b : Bool}
    (hj : (ops[j]?).bind (·.dst) = some t) (hl : look L t = some (true, .lit (.bool b)))
    (hc : (b) = true → FnC x.P f avs' Min (fun r' M' => r' = r ∧ M' = Min)) (hfo : (b) = true → Ov true L fo (.lit (.func (.func f) #[] caps.toArray))) (ha : (b) = true → ArgsOv L os avs) (he : avs' = avs ++ caps.map .lit) (hM : List.Perm M (Min ++ Mr)) (hd : Nat.blt d x.n = true)
    (next : W x ((d, b, r) :: L) M (wpList x.P ops Q rest)) :
    W x L M (wpList x.P ops Q (⟨some d, .call ⟨.value fo, os.toArray, ats⟩, ty, pos, aft, some (j, true)⟩ :: rest)) :=
  W.callg hj hl (by simp) hc hfo ha he hM hd next
theorem W.callgF {f : FuncId} {d : Tmp} {fo : Operand} {caps : List Value} {os : List Operand} {ats : Array TypeId} {ty : TypeId} {pos : String} {aft : Array Edge} {avs avs' : List AV} {r : AV} {Min Mr : List ME} {j : Nat} {t : Tmp} {b : Bool}
    (hj : (ops[j]?).bind (·.dst) = some t) (hl : look L t = some (true, .lit (.bool b)))
    (hc : (!b) = true → FnC x.P f avs' Min (fun r' M' => r' = r ∧ M' = Min)) (hfo : (!b) = true → Ov true L fo (.lit (.func (.func f) #[] caps.toArray))) (ha : (!b) = true → ArgsOv L os avs) (he : avs' = avs ++ caps.map .lit) (hM : List.Perm M (Min ++ Mr)) (hd : Nat.blt d x.n = true)
    (next : W x ((d, !b, r) :: L) M (wpList x.P ops Q rest)) :
    W x L M (wpList x.P ops Q (⟨some d, .call ⟨.value fo, os.toArray, ats⟩, ty, pos, aft, some (j, false)⟩ :: rest)) :=
  W.callg hj hl (by simp) hc hfo ha he hM hd next
theorem W.callgT' {f : FuncId} {d : Tmp} {fo : Operand} {caps : List Value} {os : List Operand} {ats : Array TypeId} {ty : TypeId} {pos : String} {aft : Array Edge} {avs avs' : List AV} {r : AV} {Min Mr : List ME} {j : Nat} {t : Tmp} {gb b : Bool}
    (hj : (ops[j]?).bind (·.dst) = some t) (hl : look L t = some (gb, .lit (.bool b)))
    (hc : (gb && b) = true → FnC x.P f avs' Min (fun r' M' => r' = r ∧ M' = Min)) (hfo : (gb && b) = true → Ov true L fo (.lit (.func (.func f) #[] caps.toArray))) (ha : (gb && b) = true → ArgsOv L os avs) (he : avs' = avs ++ caps.map .lit) (hM : List.Perm M (Min ++ Mr)) (hd : Nat.blt d x.n = true)
    (next : W x ((d, gb && b, r) :: L) M (wpList x.P ops Q rest)) :
    W x L M (wpList x.P ops Q (⟨some d, .call ⟨.value fo, os.toArray, ats⟩, ty, pos, aft, some (j, true)⟩ :: rest)) :=
  W.callg hj hl (by simp) hc hfo ha he hM hd next
theorem W.callgF' {f : FuncId} {d : Tmp} {fo : Operand} {caps : List Value} {os : List Operand} {ats : Array TypeId} {ty : TypeId} {pos : String} {aft : Array Edge} {avs avs' : List AV} {r : AV} {Min Mr : List ME} {j : Nat} {t : Tmp} {gb b : Bool}
    (hj : (ops[j]?).bind (·.dst) = some t) (hl : look L t = some (gb, .lit (.bool b)))
    (hc : (gb && !b) = true → FnC x.P f avs' Min (fun r' M' => r' = r ∧ M' = Min)) (hfo : (gb && !b) = true → Ov true L fo (.lit (.func (.func f) #[] caps.toArray))) (ha : (gb && !b) = true → ArgsOv L os avs) (he : avs' = avs ++ caps.map .lit) (hM : List.Perm M (Min ++ Mr)) (hd : Nat.blt d x.n = true)
    (next : W x ((d, gb && !b, r) :: L) M (wpList x.P ops Q rest)) :
    W x L M (wpList x.P ops Q (⟨some d, .call ⟨.value fo, os.toArray, ats⟩, ty, pos, aft, some (j, false)⟩ :: rest)) :=
  W.callg hj hl (by simp) hc hfo ha he hM hd next
end callg
/-- AN ARRAY OF THE CALL's OWN IS WRITTEN NO MORE; what else is known of the slots stays. -/
theorem W.freezeA {x : Cx} {L : List (Tmp × Bool × AV)} {M : List ME} {R : Act → World → Prop} {v : Value} {T k : Nat} {es : List AV} {L' : List (Tmp × Bool × AV)} {M1 M2 D : List ME} (hM : List.Perm M (ME.arr v T k es :: (M1 ++ D))) (hL : FSub v k es L L') (hM2 : FrzMs v k es M1 M2) (h : W x (L' ++ L) M2 R) : W x L M R := by
  intro a w hs
  have h1 : St x L' M2 a w := W.freeze (x := x) (R := fun a w => St x L' M2 a w) hM hL hM2 (fun a w hs => hs) a w hs
  have hp2 : List.Perm M (M1 ++ (ME.arr v T k es :: D)) := hM.trans (List.perm_middle.symm)
  have h2 : St x L M1 a w := by
    obtain ⟨hm, hk, hsub⟩ := hs.mem.sub hp2
    exact ⟨hs.defers, hs.size, fun t g av hl => ⟨fun hg => ((hs.slots t g av hl).1 hg).keep hk, (hs.slots t g av hl).2⟩, hm, hs.fr.sub hsub, hs.old⟩
  refine h a w ⟨h1.defers, h1.size, ?_, h1.mem, h1.fr, h1.old⟩
  intro t g av hl
  rw [look_append] at hl
  cases hx : look L' t with
  | some p => rw [hx, Option.some_or] at hl; obtain rfl := Option.some.inj hl; exact h1.slots t g av hx
  | none =>
    rw [hx, Option.none_or] at hl
    have := h2.slots t g av hl
    rw [hM2.bl]
    exact this
/-- a slice of an own row that is used for nothing but its bounds: s[i:] -/
theorem W.subnone {x : Cx} {L : List (Tmp × Bool × AV)} {M : List ME} {ops : Array Oper} {Q : Exit → Act → World → Prop} {rest : List Oper} {ty : TypeId} {pos : String} {aft : Array Edge} (i : Nat) {d : Tmp} {T E k bytes : Nat} {z : Value} {o1 o2 : Operand} {v : Value} {U : TypeId} {es : List AV} {c : Int} (h1 : Ov true L o1 (.lit v)) (hM : M[i]? = some (ME.arr v U k es)) (h2 : Ov true L o2 (.lit (.int .i64 c)))
    (hT : x.P.underlying T = some (.slice E)) (hE : Ty x.P E k bytes z) (hc : c = (es.length : Int)) (hd : Nat.blt d x.n = true) (next : ∀ v', W x ((d, true, .lit v') :: L) M (wpList x.P ops Q rest)) :
    W x L M (wpList x.P ops Q (⟨some d, .slice T o1 (some o2) none none, ty, pos, aft, none⟩ :: rest)) := by
  refine W.opv (ι := Value) (fun _ => M) (fun v' => .lit v') hd ?_ next
  intro a w hs
  obtain ⟨ad, cap, e, hlc, hcm, hcase⟩ := hs.mem.holds _ (List.mem_of_getElem? hM)
  have e1 := h1.lit rfl hs
  rw [e] at e1
  subst hc
  have hlo : BndOv true L 0 (some o2) (es.length : Int) := h2
  have hhi : BndOv true L (es.length : Int) none (es.length : Int) := rfl
  have hr := run_bounds (isS := true) (len := es.length) (cap := cap) hs rfl hlo hhi (by omega) (Int.le_refl _) (Int.le_refl _) hlc
  refine ⟨.slice (if cap = es.length then ad else ad.map (·.add (es.length * k))) 0 (cap - es.length), w, .slice (if cap = es.length then ad else ad.map (·.add (es.length * k))) 0 (cap - es.length), ?_, hs, Rep.lit _⟩
  have hr2 : (Instr.sliceBounds true es.length cap (some (a.eval o2)) none none).run x.P w = .ok (((es.length : Int)).toNat, ((es.length : Int)).toNat, cap) w := hr
  simp only [execOp, e1, Option.map_none, Option.map_some, Instr.sliceAt, Instr.slice, Sem.run_bind, run_underlying hT, Result.andThen_ok, hr2, hE.size, Sem.run_pure]
  simp
/-- a row by a function of the place -/
abbrev rowB (n : Nat) (f : Nat → Bool) : List AV := (List.range n).map fun k => AV.bool (f k)
theorem rowB_len (n : Nat) (f : Nat → Bool) : (rowB n f).length = n := by simp
theorem rowB_at (n : Nat) (f : Nat → Bool) (k : Nat) (h : k < n) : (rowB n f)[k]? = some (AV.bool (f k)) := by
  rw [List.getElem?_map, List.getElem?_range h]; rfl
theorem rowB_set (n : Nat) (f : Nat → Bool) (k : Nat) (b : Bool) : (rowB n f).set k (AV.bool b) = rowB n (fun j => if j = k then b else f j) := by
  apply List.ext_getElem?
  intro j
  rw [List.getElem?_set]
  by_cases hj : j < n
  · rw [rowB_at n _ j hj]
    by_cases e : k = j
    · subst e; simp [hj]
    · have e' : ¬ j = k := fun h => e h.symm
      simp [e, e', hj]
  · have h1 : ∀ g : Nat → Bool, (rowB n g)[j]? = none := fun g => List.getElem?_eq_none (by simp; omega)
    rw [h1]
    split
    · rename_i e; subst e; simp [hj]
    · exact (h1 _).symm
theorem rowB_congr (n : Nat) (f g : Nat → Bool) (h : ∀ k, k < n → f k = g k) : rowB n f = rowB n g := by
  refine List.map_congr_left ?_
  intro k hk
  rw [h k (List.mem_range.1 hk)]
theorem rowB_rep (n : Nat) : List.replicate n (AV.bool false) = rowB n (fun _ => false) := by
  simp [rowB, List.map_const']
theorem okc_rowB (n : Nat) (f : Nat → Bool) : ∀ e ∈ rowB n f, e.okc = true := by
  intro e he
  obtain ⟨d, _, rfl⟩ := List.mem_map.1 he
  rfl
theorem okc_ints (l : List Int) : ∀ e ∈ l.map AV.int, e.okc = true := by
  intro e he
  obtain ⟨d, _, rfl⟩ := List.mem_map.1 he
  rfl
theorem okc_strs (l : List (List UInt8)) : ∀ e ∈ l.map AV.str, e.okc = true := by
  intro e he
  obtain ⟨d, _, rfl⟩ := List.mem_map.1 he
  rfl
/-- the first place where it holds, or -1 -/
def idxI {α : Type} (p : α → Bool) : List α → Int
  | [] => -1
  | a :: l => if p a then 0 else if idxI p l < 0 then -1 else idxI p l + 1
theorem idxI_any {α : Type} (p : α → Bool) : ∀ l : List α, decide (0 ≤ idxI p l) = l.any p
  | [] => rfl
  | a :: l => by
    have ih := idxI_any p l
    rw [List.any_cons, ← ih, idxI]
    cases h : p a with
    | true => simp
    | false =>
      rw [if_neg (by simp), Bool.false_or]
      split <;> simp <;> omega
theorem idxI_ge {α : Type} (p : α → Bool) : ∀ l : List α, -1 ≤ idxI p l
  | [] => by simp [idxI]
  | a :: l => by have := idxI_ge p l; rw [idxI]; split <;> (try split) <;> omega
theorem idxI_lt {α : Type} (p : α → Bool) : ∀ l : List α, idxI p l < l.length
  | [] => by simp [idxI]
  | a :: l => by have := idxI_lt p l; have := idxI_ge p l; rw [idxI, List.length_cons]; split <;> (try split) <;> omega
theorem idxI_miss {α : Type} (p : α → Bool) : ∀ l : List α, (∀ d ∈ l, p d = false) → idxI p l = -1
  | [], _ => rfl
  | a :: l, h => by rw [idxI, h a (by simp), idxI_miss p l (fun d hd => h d (by simp [hd]))]; simp
theorem idxI_hit {α : Type} (p : α → Bool) (z : α) : ∀ (l : List α) (i : Nat), i < l.length → (∀ d ∈ l.take i, p d = false) → p (l.getD i z) = true → idxI p l = i
  | [], i, h, _, _ => by simp at h
  | a :: l, 0, _, _, h => by
    have h' : p a = true := by simpa using h
    simp [idxI, h']
  | a :: l, i + 1, h1, h2, h3 => by
    have ih := idxI_hit p z l i (by simpa using h1) (fun d hd => h2 d (by simp [hd])) (by simpa using h3)
    rw [idxI, h2 a (by simp), ih]
    simp
    omega
theorem idxI_at {α : Type} (p : α → Bool) (z : α) : ∀ (l : List α), 0 ≤ idxI p l → p (l.getD (idxI p l).toNat z) = true
  | [], h => by simp [idxI] at h
  | a :: l, h => by
    rw [idxI] at h ⊢
    split
    · rename_i h1; simpa using h1
    · rename_i h1
      rw [if_neg h1] at h
      split at h
      · omega
      · rename_i h2
        rw [if_neg h2]
        have ih := idxI_at p z l (by omega)
        have e : (idxI p l + 1).toNat = (idxI p l).toNat + 1 := by omega
        rw [e]
        simpa using ih
/-- is a text a name? -/
def nameCh (r : Int) : Bool := ((decide (97 ≤ r) && decide (r ≤ 122)) || (decide (48 ≤ r) && decide (r ≤ 57))) || r == 45
def nameOk (s : List UInt8) : Bool := !(((s == [] || decide ((12 : Int) < (s.length : Int))) || decide (((s.getD 0 0).toNat : Int) < 97)) || decide ((122 : Int) < ((s.getD 0 0).toNat : Int))) && !((runes s).any fun r => !(nameCh (r : Int)))
end Go.Vl
