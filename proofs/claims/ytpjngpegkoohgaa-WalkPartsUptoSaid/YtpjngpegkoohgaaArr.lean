/-
  Arrays of the call's own: append, make, elements that are read and written; iterators over strings.
-/
import Derived.Test.YtpjngpegkoohgaaMem
set_option linter.unusedVariables false
set_option linter.unusedSimpArgs false
set_option linter.unusedSectionVars false
namespace Go.Vl

section arr
variable {x : Cx} {L : List (Tmp × Bool × AV)} {M : List ME} {ops : Array Oper} {Q : Exit → Act → World → Prop} {rest : List Oper} {ty : TypeId} {pos : String} {aft : Array Edge}

theorem RepE.congr {w : World} {N : List Nat} {k : Nat} : ∀ {es : List AV} {r s : List Value}, RepE w N k es r → r.take (es.length * k) = s.take (es.length * k) → RepE w N k es s
  | [], r, s, h, _ => by simp [RepE]
  | e :: es, r, s, h, hrs => by
    simp only [RepE] at h ⊢
    have hm : (e :: es).length * k = es.length * k + k := by simp [Nat.add_mul]
    rw [hm] at hrs
    have h1 : r.take k = s.take k := by
      have := congrArg (List.take k) hrs
      rw [List.take_take, List.take_take, Nat.min_eq_left (by omega)] at this
      exact this
    have hl : k ≤ s.length := by
      have := congrArg List.length h1
      simp at this; omega
    refine ⟨hl, by rw [← h1]; exact h.2.1, RepE.congr h.2.2 ?_⟩
    have := congrArg (List.drop k) hrs
    rw [List.drop_take, List.drop_take, Nat.add_sub_cancel] at this
    exact this
theorem RepE.append {w : World} {N : List Nat} {k : Nat} : ∀ {es xs : List AV} {r : List Value}, RepE w N k es r → RepE w N k xs (r.drop (es.length * k)) → RepE w N k (es ++ xs) r
  | [], xs, r, _, h => by simpa using h
  | e :: es, xs, r, h, h' => by
    simp only [RepE, List.cons_append] at h ⊢
    refine ⟨h.1, h.2.1, RepE.append h.2.2 ?_⟩
    have hm : (e :: es).length * k = k + es.length * k := by simp [Nat.add_mul]; omega
    rw [hm] at h'
    rw [List.drop_drop]
    exact h'

theorem perm_set {M : List ME} {i : Nat} {m m' : ME} (hM : M[i]? = some m) : List.Perm (m' :: M) (M.set i m' ++ [m]) := by
  induction M generalizing i with
  | nil => simp at hM
  | cons n M ih =>
    cases i with
    | zero =>
      simp at hM; subst hM
      simp only [List.set_cons_zero, List.cons_append]
      refine List.Perm.cons _ ?_
      exact (List.perm_append_comm (l₁ := [n]) (l₂ := M))
    | succ i =>
      simp only [List.set_cons_succ, List.cons_append]
      refine (List.Perm.swap n m' M).trans (List.Perm.cons _ (ih (by simpa using hM)))

theorem set_self {M : List ME} {i : Nat} {m : ME} (hM : M[i]? = some m) : M.set i m = M := by
  apply List.ext_getElem?
  intro j
  rw [List.getElem?_set]
  by_cases e : i = j
  · subst e
    have hlt : i < M.length := by
      rcases Nat.lt_or_ge i M.length with h | h
      · exact h
      · rw [List.getElem?_eq_none h] at hM; cases hM
    rw [if_pos rfl, if_pos hlt, hM]
  · rw [if_neg e]

/-- a source of append or copy -/
def Src (P : Program) (w : World) (N : List Nat) (k : Nat) (v : Value) (xs : List AV) : Prop :=
  (Builtin.lenOf v).run P w = .ok xs.length w ∧ ∃ news : Array Value, news.size = xs.length * k ∧ RepE w N k xs news.toList ∧ (∀ u ∈ news.toList, shV u = 0) ∧
    ∀ w' : World, w'.heap = w.heap → (Builtin.firstCells k xs.length v).run P w' = .ok news w'

/-- the same without a word on the cells' shape -/
def Src0 (P : Program) (w : World) (N : List Nat) (k : Nat) (v : Value) (xs : List AV) : Prop :=
  (Builtin.lenOf v).run P w = .ok xs.length w ∧ ∃ news : Array Value, news.size = xs.length * k ∧ RepE w N k xs news.toList ∧
    ∀ w' : World, w'.heap = w.heap → (Builtin.firstCells k xs.length v).run P w' = .ok news w'
theorem Src.to0 {P : Program} {w : World} {N : List Nat} {k : Nat} {v : Value} {xs : List AV} (h : Src P w N k v xs) : Src0 P w N k v xs :=
  ⟨h.1, let ⟨n, a, b, _, c⟩ := h.2; ⟨n, a, b, c⟩⟩
theorem src0_cells {P : Program} {w : World} {N : List Nat} {k n cap : Nat} {ad : Option Addr} {xs : List AV} (hn : n = xs.length)
    (h : xs = [] ∨ ∃ b off cur T fr, ad = some ⟨b, off, none⟩ ∧ w.heap[b]? = some (.cells cur T fr) ∧ RepE w N k xs (cur.toList.drop off)) : Src0 P w N k (.slice ad n cap) xs := by
  refine ⟨by simp [Builtin.lenOf, hn], ?_⟩
  rcases h with rfl | ⟨b, off, cur, T, fr, rfl, hc, hE⟩
  · refine ⟨#[], by simp, by simp [RepE], fun w' _ => ?_⟩
    cases ad with
    | none => simp [Builtin.firstCells]
    | some a => simp [Builtin.firstCells, loadCells, loadCellsFrom]
  · have hlen := hE.len
    have hsz : off + xs.length * k ≤ cur.size ∨ xs.length * k = 0 := by
      simp at hlen
      omega
    have htk : ((cur.toList.drop off).take (xs.length * k)).length = xs.length * k := by simp at hlen ⊢; omega
    refine ⟨((cur.toList.drop off).take (xs.length * k)).toArray, by simpa using htk, ?_, ?_⟩
    · rw [List.toList_toArray]
      exact RepE.congr hE (by rw [List.take_take, Nat.min_self])
    · intro w' hw'
      rcases hsz with hsz | hsz
      · have := run_loadCells (P := P) (w := w') (off := off) (by rw [hw']; exact hc) (xs.length * k) hsz
        simpa [Builtin.firstCells] using this
      · rw [hsz]; simp [Builtin.firstCells, loadCells, loadCellsFrom, hsz]

theorem RepE.sh {w : World} {N : List Nat} {k : Nat} : ∀ {es : List AV} {r : List Value}, RepE w N k es r → (∀ e ∈ es, e.okc = true) → ∀ u ∈ r.take (es.length * k), shV u = 0
  | [], r, _, _ => by simp
  | e :: es, r, h, ho => by
    simp only [RepE] at h
    have hm : (e :: es).length * k = k + es.length * k := by simp [Nat.add_mul]; omega
    rw [hm, List.take_add]
    intro u hu
    rcases List.mem_append.1 hu with hu | hu
    · exact (RepC.cells (ho e (by simp)) h.2.1).sh u hu
    · exact RepE.sh h.2.2 (fun e' he' => ho e' (by simp [he'])) u hu

theorem src_cells {P : Program} {w : World} {N : List Nat} {k n cap : Nat} {ad : Option Addr} {xs : List AV} (hn : n = xs.length) (ho : ∀ e ∈ xs, e.okc = true)
    (h : xs = [] ∨ ∃ b off cur T fr, ad = some ⟨b, off, none⟩ ∧ w.heap[b]? = some (.cells cur T fr) ∧ RepE w N k xs (cur.toList.drop off)) : Src P w N k (.slice ad n cap) xs := by
  obtain ⟨h1, news, h2, h3, h4⟩ := src0_cells (P := P) (cap := cap) hn h
  refine ⟨h1, news, h2, h3, ?_, h4⟩
  have := h3.sh ho
  rw [List.take_of_length_le (by simp; omega)] at this
  exact this

/-- an operand that append may take its elements from -/
def SrcOv (x : Cx) (L : List (Tmp × Bool × AV)) (M : List ME) (o : Operand) (k : Nat) (xs : List AV) : Prop :=
  (∀ e ∈ xs, e.okc = true) ∧ (Ov true L o (.sl k xs) ∨ (∃ (v : Value) (i : Nat) (U : TypeId), Ov true L o (.lit v) ∧ M[i]? = some (ME.arr v U k xs)) ∨ (∃ l : List UInt8, Ov true L o (.str l) ∧ k = 1 ∧ xs = l.map AV.u8))
theorem SrcOv.sl {o : Operand} {k : Nat} {xs : List AV} (h : Ov true L o (.sl k xs)) (ho : ∀ e ∈ xs, e.okc = true) : SrcOv x L M o k xs := ⟨ho, .inl h⟩
theorem SrcOv.arr (i : Nat) {o : Operand} {v : Value} {U k : Nat} {xs : List AV} (h : Ov true L o (.lit v)) (hM : M[i]? = some (ME.arr v U k xs)) (ho : ∀ e ∈ xs, e.okc = true) : SrcOv x L M o k xs := ⟨ho, .inr (.inl ⟨v, i, U, h, hM⟩)⟩
theorem SrcOv.str {o : Operand} {l : List UInt8} (h : Ov true L o (.str l)) : SrcOv x L M o 1 (l.map AV.u8) := ⟨by intro e he; obtain ⟨b, _, rfl⟩ := List.mem_map.1 he; rfl, .inr (.inr ⟨l, h, rfl, rfl⟩)⟩
theorem RepE.u8s {w : World} {N : List Nat} : ∀ l : List UInt8, RepE w N 1 (l.map AV.u8) (l.map fun b => Value.int .u8 (b.toNat : Int))
  | [] => by simp [RepE]
  | b :: l => by
    simp only [List.map_cons, RepE, List.length_cons, List.drop_succ_cons, List.drop_zero]
    exact ⟨by omega, by simp [RepC, Value.cells], RepE.u8s l⟩
theorem src_str {P : Program} {w : World} {N : List Nat} (l : List UInt8) : Src P w N 1 (.string ⟨l.toArray⟩) (l.map AV.u8) := by
  have hsz : (ByteArray.mk l.toArray).size = l.length := by simp [ByteArray.size]
  refine ⟨by simp [Builtin.lenOf, hsz], (l.map fun b => Value.int .u8 (b.toNat : Int)).toArray, by simp, by simpa using RepE.u8s l, ?_, ?_⟩
  · intro u hu
    simp only [List.toList_toArray, List.mem_map] at hu
    obtain ⟨b, _, rfl⟩ := hu
    rfl
  · intro w' hw'
    have e : (ByteArray.mk l.toArray).extract 0 l.length = ⟨l.toArray⟩ := by
      have := ByteArray.extract_zero_size (b := ByteArray.mk l.toArray)
      rw [hsz] at this; exact this
    simp [Builtin.firstCells, e]

theorem SrcOv.src {o : Operand} {k : Nat} {xs : List AV} {a : Act} {w : World} (h : SrcOv x L M o k xs) (hs : St x L M a w) : Src x.P w (bl M ++ x.F) k (a.eval o) xs := by
  obtain ⟨ho, h | ⟨v, i, U, h, hM⟩ | ⟨l, h, rfl, rfl⟩⟩ := h
  · obtain ⟨ad, cap, e, _, _, h3⟩ := (h.rep rfl hs).sl_inv
    rw [e]
    refine src_cells rfl ho ?_
    rcases h3 with h3 | ⟨b, off, cur, T, fr, h4, _, h5, h6⟩
    · exact .inl h3
    · exact .inr ⟨b, off, cur, T, fr, h4, h5, h6⟩
  · obtain ⟨ad, cap, e, h1, h2, h3⟩ := hs.mem.holds _ (List.mem_of_getElem? hM)
    rw [h.lit rfl hs, e]
    refine src_cells rfl ho ?_
    rcases h3 with ⟨_, hc⟩ | ⟨g, off, cur, lo, hi, h4, h5, _, _, h6⟩
    · left; exact List.eq_nil_of_length_eq_zero (by omega)
    · exact .inr ⟨g, off, cur, U, (lo, hi), h4, h5, h6⟩
  · rw [h.lit rfl hs]; exact src_str l

/-- what append needs of the source's type -/
def NotInt (P : Program) (T : TypeId) : Prop := (∃ e, P.underlying T = some (.slice e)) ∨ P.underlying T = some .string

theorem cap_cut (w : World) (need old : Nat) (e : TypeId) (h : need ≤ maxLen) : need ≤ grownCap w need old e ∧ grownCap w need old e ≤ maxLen := ⟨grownCap_ge w need old e, grownCap_le_maxLen w need old e h⟩

/-- the run of an append that stays where it is -/
theorem run_append_in {P : Program} {w : World} {T T' E k bytes : Nat} {z : Value} {g off n cap lo hi : Nat} {cur : Array Value} {U : TypeId} {xv : Value} {N : List Nat} {xs : List AV} (hT : P.underlying T = some (.slice E)) (hT' : NotInt P T') (hE : Ty P E k bytes z)
    (hc : w.heap[g]? = some (.cells cur U (lo, hi))) (hsz : off + cap * k ≤ cur.size) (hfr : hi ≤ lo ∨ off + cap * k ≤ lo) (hx : Src P w N k xv xs) (hle : n + xs.length ≤ cap) :
    ∃ news : Array Value, news.size = xs.length * k ∧ RepE w N k xs news.toList ∧ (Builtin.append_ #[T, T'] ty #[.slice (some ⟨g, off, none⟩) n cap, xv]).run P w =
      .ok (.slice (some ⟨g, off, none⟩) (n + xs.length) cap) { w with heap := w.heap.setIfInBounds g (.cells (wr cur (off + n * k) news.toList) U (lo, hi)) } := by
  obtain ⟨hlen, news, hn1, hn2, hn3, hn4⟩ := hx
  have hf := hn4 w rfl
  have hmul : (n + xs.length) * k ≤ cap * k := Nat.mul_le_mul_right _ hle
  rw [Nat.add_mul] at hmul
  have hst := run_storeCells (P := P) (g := g) (off := off + n * k) (T := U) (lo := lo) (hi := hi) news.toList 0 cur w hc (by simp; omega) (by simp; omega) hn3
  refine ⟨news, hn1, hn2, ?_⟩
  rw [Nat.add_zero] at hst
  obtain ⟨i, hi1, hi2, hi3, hi4⟩ := hE
  rcases hT' with ⟨e', hd⟩ | hd <;>
    simp [Builtin.append_, run_underlying hT, run_underlying hd, sizeOf, typeInfo, hi1, hi2, hlen, hle, hf, Addr.add_lit, hst]

/-- the run of an append that makes a new row -/
theorem run_append_new {P : Program} {w : World} {T T' E k bytes : Nat} {z : Value} {ad : Option Addr} {n cap : Nat} {xv : Value} {N : List Nat} {es xs : List AV} (hT : P.underlying T = some (.slice E)) (hT' : NotInt P T') (hE : Ty P E k bytes z) (hzk : z.cells.size = k)
    (hs : Src0 P w N k (.slice ad n cap) es) (hx : Src0 P w N k xv xs) (hn : n = es.length) (hgt : cap < n + xs.length) (hb : (n + xs.length) * bytes ≤ 140737488355328) (hb1 : 1 ≤ bytes) :
    ∃ cells : Array Value, cells.size = grownCap w (n + xs.length) cap E * k ∧ RepE w N k (es ++ xs) cells.toList ∧ (Builtin.append_ #[T, T'] ty #[.slice ad n cap, xv]).run P w =
      .ok (.slice (some ⟨w.heap.size, 0, none⟩) (n + xs.length) (grownCap w (n + xs.length) cap E)) (w.drew.alloc (.cells cells E)) := by
  obtain ⟨_, olds, ho1, ho2, ho4⟩ := hs
  obtain ⟨hlen, news, hn1, hn2, hn4⟩ := hx
  have hfit := growslice_fits hgt hb
  have h63 : n + xs.length ≤ maxLen := by
    have : n + xs.length ≤ (n + xs.length) * bytes := Nat.le_mul_of_pos_right _ hb1
    simp only [maxLen]; omega
  obtain ⟨hg1, hg2⟩ := cap_cut w (n + xs.length) cap E h63
  subst hn
  refine ⟨olds ++ news ++ Builtin.zeroCells z.cells (grownCap w (es.length + xs.length) cap E - (es.length + xs.length)), ?_, ?_, ?_⟩
  · have hzc : (Builtin.zeroCells z.cells (grownCap w (es.length + xs.length) cap E - (es.length + xs.length))).size = (grownCap w (es.length + xs.length) cap E - (es.length + xs.length)) * k := by simp [Builtin.zeroCells, hzk]
    rw [Array.size_append, Array.size_append, ho1, hn1, hzc, ← Nat.add_mul, ← Nat.add_mul]
    congr 1; omega
  · have hol : olds.toList.length = es.length * k := by simpa using ho1
    have hnl : news.toList.length = xs.length * k := by simpa using hn1
    refine RepE.append (RepE.congr ho2 ?_) ?_
    · rw [Array.toList_append, Array.toList_append, List.append_assoc, List.take_append_of_le_length (by omega)]
    · rw [Array.toList_append, Array.toList_append, List.append_assoc, List.drop_append_of_le_length (by omega), List.drop_of_length_le (by omega), List.nil_append]
      exact RepE.congr hn2 (by rw [List.take_append_of_le_length (by omega)])
  · have hf1 := ho4 w.drew rfl
    have hf2 := hn4 w.drew rfl
    obtain ⟨i, hi1, hi2, hi3, hi4⟩ := hE
    have hle : ¬ (es.length + xs.length ≤ cap) := by omega
    have hneg : ¬ ((((es.length + xs.length : Nat) : Int) > IntKind.i64.max) ∧ (False ∨ i.bytes = 0)) := by
      rw [IntKind.max_i64]; simp only [maxLen] at h63; omega
    have h48 : ¬ (Builtin.nextslicecap (es.length + xs.length) cap * i.bytes > 2 ^ 48) := by rw [hi3]; omega
    have hz : (zeroValue E).run P w.drew = .ok z w.drew := by simp [zeroValue, typeInfo, hi1, hi4]
    have hch : (choose (.appendCap (es.length + xs.length) cap E)).run P w = .ok (grownCap w (es.length + xs.length) cap E) w.drew := by
      simp [run_choose, Question.forced, grownCap]
    have hneg' : ¬ (9223372036854775807 < ((es.length : Int) + (xs.length : Int))) := by simp only [maxLen] at h63; omega
    have h48' : ¬ (281474976710656 < Builtin.nextslicecap (es.length + xs.length) cap * i.bytes) := by rw [hi3]; omega
    have hch' : (Question.appendCap (es.length + xs.length) cap E).cut (w.tape w.drawn (.appendCap (es.length + xs.length) cap E)) = grownCap w (es.length + xs.length) cap E := rfl
    have hdrew : ({ w with drawn := w.drawn + 1 } : World) = w.drew := rfl
    rcases hT' with ⟨e', hd⟩ | hd <;>
      simp [Builtin.append_, run_underlying hT, run_underlying hd, sizeOf, typeInfo, hi1, hi2, hlen, hle, hneg', h48', Question.forced, hch', hdrew, hf1, hf2, zeroValue, hi4, newRow]

/-- append onto an array of the call's own -/
theorem W.app (i : Nat) {d : Tmp} {T T' E k bytes : Nat} {z : Value} {o1 o2 : Operand} {v : Value} {es xs : List AV} (h1 : Ov true L o1 (.lit v)) (hM : M[i]? = some (ME.arr v E k es)) (h2 : SrcOv x L M o2 k xs) (hT : x.P.underlying T = some (.slice E)) (hT' : NotInt x.P T') (hE : Ty x.P E k bytes z) (hzk : z.cells.size = k)
    (hb1 : Nat.ble 1 bytes = true) (hb : (es.length + xs.length) * bytes ≤ 140737488355328) (hd : Nat.blt d x.n = true)
    (next : ∀ v', W x ((d, true, .lit v') :: L) (M.set i (ME.arr v' E k (es ++ xs))) (wpList x.P ops Q rest)) :
    W x L M (wpList x.P ops Q (⟨some d, .call ⟨.builtin .append, #[o1, o2], #[T, T']⟩, ty, pos, aft, none⟩ :: rest)) := by
  refine W.opv (ι := Value) (fun v' => M.set i (ME.arr v' E k (es ++ xs))) (fun v' => .lit v') hd ?_ next
  intro a w hs
  have hsrc := h2.src hs
  have e1 := h1.lit rfl hs
  have hb1' := Nat.le_of_ble_eq_true hb1
  obtain ⟨ad, cap, rfl, hlc, hcm, hcase⟩ := hs.mem.holds _ (List.mem_of_getElem? hM)
  have h63 : es.length + xs.length ≤ maxLen := by
    have : es.length + xs.length ≤ (es.length + xs.length) * bytes := Nat.le_mul_of_pos_right _ hb1'
    simp only [maxLen]; omega
  by_cases hle : es.length + xs.length ≤ cap
  · rcases hcase with ⟨rfl, rfl⟩ | ⟨g, off, cur, lo, hi, rfl, hc, hsz, hfr, hrE⟩
    · -- nothing is appended to nil
      have hes : es = [] := List.eq_nil_of_length_eq_zero (by omega)
      have hxs : xs = [] := List.eq_nil_of_length_eq_zero (by omega)
      subst hes; subst hxs
      refine ⟨.slice none 0 0, w, .slice none 0 0, ?_, ?_, Rep.lit _⟩
      · obtain ⟨hlen, news, hn1, _, _, hn4⟩ := hsrc
        have hf := hn4 w rfl
        obtain ⟨ii, hi1, hi2, hi3, hi4⟩ := hE
        have hlen' : (Builtin.lenOf (a.eval o2)).run x.P w = .ok 0 w := hlen
        have hf' : (Builtin.firstCells k 0 (a.eval o2)).run x.P w = .ok news w := hf
        have e1' : a.eval o1 = .slice none 0 0 := e1
        rcases hT' with ⟨e', hd'⟩ | hd' <;>
          simp [execOp, resolve, invoke, builtin, e1', Builtin.append_, run_underlying hT, run_underlying hd', sizeOf, typeInfo, hi1, hi2, hlen', hf']
      · have hM' : M[i]? = some (ME.arr (.slice none 0 0) E k []) := hM
        rw [List.append_nil, set_self hM']; exact hs
    · obtain ⟨news, hn1, hn2, hrun⟩ := run_append_in (ty := ty) hT hT' hE hc hsz hfr hsrc hle
      refine ⟨.slice (some ⟨g, off, none⟩) (es.length + xs.length) cap, { w with heap := w.heap.setIfInBounds g (.cells (wr cur (off + es.length * k) news.toList) E (lo, hi)) }, .slice (some ⟨g, off, none⟩) (es.length + xs.length) cap, ?_, ?_, Rep.lit _⟩
      · simp only [execOp, resolve, invoke, builtin, Sem.run_bind, Sem.run_pure, Result.andThen_ok, List.map_toArray, List.map_cons, List.map_nil, e1, hrun]
      · refine hs.write hM rfl rfl ?_
        intro w' hother hnew hk'
        have hmul : (es.length + xs.length) * k ≤ cap * k := Nat.mul_le_mul_right _ hle
        rw [Nat.add_mul] at hmul
        have hnl : news.toList.length = xs.length * k := by simpa using hn1
        refine ⟨some ⟨g, off, none⟩, cap, by rw [List.length_append], by rw [List.length_append]; exact hle, hcm, .inr ⟨g, off, _, lo, hi, rfl, hnew, ?_, hfr, ?_⟩⟩
        · rw [wr_size _ _ _ (by omega)]; exact hsz
        · have hcl : cur.toList.length = cur.size := Array.length_toList
          refine RepE.append (RepE.congr (RepE.keep hk' _ _ _ hrE) ?_) (RepE.congr (RepE.keep hk' _ _ _ hn2) ?_)
          · simp only [wr, List.toList_toArray]
            rw [List.append_assoc, List.drop_append_of_le_length (by simp; omega), List.take_append_of_le_length (by simp; omega), List.drop_take, Nat.add_sub_cancel_left, List.take_take, Nat.min_self]
          · simp only [wr, List.toList_toArray]
            rw [List.drop_drop, List.append_assoc, List.drop_append, List.drop_of_length_le (by simp; omega), List.nil_append]
            have : off + es.length * k - (cur.toList.take (off + es.length * k)).length = 0 := by simp; omega
            rw [this, List.drop_zero, List.take_append_of_le_length (by omega)]
  · have hold : Src0 x.P w (bl M ++ x.F) k (.slice ad es.length cap) es := by
      refine src0_cells rfl ?_
      rcases hcase with ⟨rfl, hc0⟩ | ⟨g, off, cur, lo, hi, rfl, hc, hsz, hfr, hrE⟩
      · left; exact List.eq_nil_of_length_eq_zero (by omega)
      · exact .inr ⟨g, off, cur, E, (lo, hi), rfl, hc, hrE⟩
    obtain ⟨cells, hsz, hrE, hrun⟩ := run_append_new (ty := ty) hT hT' hE hzk hold hsrc.to0 rfl (by omega) hb hb1'
    obtain ⟨hg1, hg2⟩ := cap_cut w (es.length + xs.length) cap E h63
    refine ⟨.slice (some ⟨w.heap.size, 0, none⟩) (es.length + xs.length) (grownCap w (es.length + xs.length) cap E), w.drew.alloc (.cells cells E), .slice (some ⟨w.heap.size, 0, none⟩) (es.length + xs.length) (grownCap w (es.length + xs.length) cap E), ?_, ?_, Rep.lit _⟩
    · simp only [execOp, resolve, invoke, builtin, Sem.run_bind, Sem.run_pure, Result.andThen_ok, List.map_toArray, List.map_cons, List.map_nil, e1, hrun]
    · have hd1 : St x L M a w.drew := hs.same rfl rfl rfl rfl
      have hnew : St x L (ME.arr (.slice (some ⟨w.heap.size, 0, none⟩) (es.length + xs.length) (grownCap w (es.length + xs.length) cap E)) E k (es ++ xs) :: M) a (w.drew.alloc (.cells cells E)) := by
        refine hd1.alloc _ _ rfl ?_
        intro N hN
        refine ⟨some ⟨w.heap.size, 0, none⟩, _, by rw [List.length_append], by rw [List.length_append]; exact hg1, hg2, .inr ⟨w.heap.size, 0, cells, 0, 0, rfl, alloc_new w.drew _, by omega, .inl (Nat.le_refl _), ?_⟩⟩
        refine RepE.keep (w := w) (N := bl M ++ x.F) ?_ _ _ _ (by simpa using hrE)
        intro b c U fr hn hc
        refine ⟨fun h => ?_, by rw [alloc_old w.drew _ (heap_lt (w := w.drew) hc)]; exact hc⟩
        rcases (hN b).1 h with h | h
        · have := heap_lt hc; subst h; exact absurd this (Nat.lt_irrefl _)
        · exact hn h
      obtain ⟨hm, hk, hsb⟩ := hnew.mem.sub (perm_set (m' := ME.arr (.slice (some ⟨w.heap.size, 0, none⟩) (es.length + xs.length) (grownCap w (es.length + xs.length) cap E)) E k (es ++ xs)) hM)
      exact hnew.world hk hm (hnew.fr.sub hsb)

/-- the nil slice is an array of the call's own, at every type -/
theorem W.own_nil {R : Act → World → Prop} (E k : Nat) (h : W x L (ME.arr (.slice none 0 0) E k [] :: M) R) : W x L M R := by
  intro a w hs
  refine h a w ⟨hs.defers, hs.size, hs.slots, ⟨hs.mem.nodup, hs.mem.apart, ?_⟩, hs.fr, hs.old⟩
  intro m hm
  rcases List.mem_cons.1 hm with rfl | hm
  · exact ⟨none, 0, rfl, Nat.le_refl _, by simp [maxLen], .inl ⟨rfl, rfl⟩⟩
  · exact hs.mem.holds m hm

theorem W.appn {d : Tmp} {T T' E k bytes : Nat} {z : Value} {o1 o2 : Operand} {xs : List AV} (h1 : Ov true L o1 (.lit (.slice none 0 0))) (h2 : SrcOv x L (ME.arr (.slice none 0 0) E k [] :: M) o2 k xs) (hT : x.P.underlying T = some (.slice E)) (hT' : NotInt x.P T') (hE : Ty x.P E k bytes z) (hzk : z.cells.size = k)
    (hb1 : Nat.ble 1 bytes = true) (hb : xs.length * bytes ≤ 140737488355328) (hd : Nat.blt d x.n = true)
    (next : ∀ v', W x ((d, true, .lit v') :: L) (ME.arr v' E k xs :: M) (wpList x.P ops Q rest)) :
    W x L M (wpList x.P ops Q (⟨some d, .call ⟨.builtin .append, #[o1, o2], #[T, T']⟩, ty, pos, aft, none⟩ :: rest)) :=
  W.own_nil E k (W.app 0 h1 rfl h2 hT hT' hE hzk hb1 (by simpa using hb) hd (fun v' => next v'))

/-! ### what is written no more -/
/-- the value v, wherever it stands, may be said to be an immutable slice -/
inductive Frz (v : Value) (k : Nat) (es : List AV) : AV → AV → Prop
  | refl (av : AV) : Frz v k es av av
  | hit : Frz v k es (.lit v) (.sl k es)

def FrzL (v : Value) (k : Nat) (es : List AV) : List AV → List AV → Prop
  | [], [] => True
  | a :: as, b :: bs => Frz v k es a b ∧ FrzL v k es as bs
  | _, _ => False

/-- .. and within a struct -/
inductive FrzS (v : Value) (k : Nat) (es : List AV) : AV → AV → Prop
  | one {a b : AV} : Frz v k es a b → FrzS v k es a b
  | agg {as bs : List AV} : FrzL v k es as bs → FrzS v k es (.agg as) (.agg bs)

/-- What L' says, L says, but for slices that are said to be immutable. -/
def FSub (v : Value) (k : Nat) (es : List AV) (L : List (Tmp × Bool × AV)) : List (Tmp × Bool × AV) → Prop
  | [] => True
  | (t, g, b) :: r => (∃ a, look L t = some (g, a) ∧ FrzS v k es a b) ∧ FSub v k es L r

theorem Frz.repC {w : World} {N : List Nat} {v : Value} {k : Nat} {es : List AV} (hv : Rep w N (.sl k es) v) {a b : AV} (h : Frz v k es a b) {row : List Value} (hr : RepC w N a row) : RepC w N b row := by
  cases h with
  | refl => exact hr
  | hit => simp only [RepC] at hr; rw [hr]; exact hv.2
theorem Frz.sh {w : World} {N : List Nat} {v : Value} {k : Nat} {es : List AV} (hv : Rep w N (.sl k es) v) {a b : AV} (h : Frz v k es a b) : a.sh = b.sh := by
  cases h with
  | refl => rfl
  | hit => exact hv.1.symm
theorem FrzL.repL {w : World} {N : List Nat} {v : Value} {k : Nat} {es : List AV} (hv : Rep w N (.sl k es) v) : ∀ {as bs : List AV} {row : List Value}, FrzL v k es as bs → RepL w N as row → RepL w N bs row
  | [], [], row, _, h => h
  | a :: as, b :: bs, row, h, hr => by
    simp only [RepL] at hr ⊢
    obtain ⟨u, us, rfl, ⟨h1, h2, h3⟩, h4⟩ := hr
    exact ⟨u, us, rfl, ⟨by rw [← h.1.sh hv]; exact h1, h2, h.1.repC hv h3⟩, FrzL.repL hv h.2 h4⟩
  | [], _ :: _, _, h, _ => h.elim
  | _ :: _, [], _, h, _ => h.elim
theorem FrzS.rep {w : World} {N : List Nat} {v : Value} {k : Nat} {es : List AV} (hv : Rep w N (.sl k es) v) {a b : AV} (h : FrzS v k es a b) {u : Value} (hr : Rep w N a u) : Rep w N b u := by
  cases h with
  | one h => exact ⟨by rw [← h.sh hv]; exact hr.1, h.repC hv hr.2⟩
  | agg h =>
    refine ⟨hr.1, ?_⟩
    have := hr.2
    simp only [RepC] at this ⊢
    exact h.repL hv this

theorem FSub.look {v : Value} {k : Nat} {es : List AV} : ∀ {L' : List (Tmp × Bool × AV)}, FSub v k es L L' → ∀ t g b, look L' t = some (g, b) → ∃ a, look L t = some (g, a) ∧ FrzS v k es a b
  | [], _, t, g, b, h => by cases h
  | (u, g', b') :: r, hs, t, g, b, h => by
    rw [look_cons] at h
    by_cases e : u = t
    · subst e; rw [if_pos rfl] at h; cases h; exact hs.1
    · rw [if_neg e] at h; exact FSub.look hs.2 t g b h

/-- the entries of M, with v said to be immutable within boxes -/
inductive FrzM (v : Value) (k : Nat) (es : List AV) : ME → ME → Prop
  | refl (m : ME) : FrzM v k es m m
  | box {b T : Nat} {as bs : List AV} : FrzL v k es as bs → FrzM v k es (.box b T as) (.box b T bs)
def FrzMs (v : Value) (k : Nat) (es : List AV) : List ME → List ME → Prop
  | [], [] => True
  | a :: as, b :: bs => FrzM v k es a b ∧ FrzMs v k es as bs
  | _, _ => False
theorem FrzM.blks {v : Value} {k : Nat} {es : List AV} {m m' : ME} (h : FrzM v k es m m') : m'.blks = m.blks := by cases h <;> rfl
theorem FrzM.holds {w : World} {N : List Nat} {v : Value} {k : Nat} {es : List AV} (hv : Rep w N (.sl k es) v) {m m' : ME} (h : FrzM v k es m m') (hm : m.holds w N) : m'.holds w N := by
  cases h with
  | refl => exact hm
  | box h => obtain ⟨cur, hc, hr⟩ := hm; exact ⟨cur, hc, h.repL hv hr⟩
theorem FrzMs.bl {v : Value} {k : Nat} {es : List AV} : ∀ {M M' : List ME}, FrzMs v k es M M' → bl M' = bl M
  | [], [], _ => rfl
  | m :: M, m' :: M', h => by
    have := FrzMs.bl h.2
    simp only [Vl.bl, List.flatMap_cons] at this ⊢
    rw [this, h.1.blks]
  | [], _ :: _, h => h.elim
  | _ :: _, [], h => h.elim
theorem FrzMs.mem {v : Value} {k : Nat} {es : List AV} : ∀ {M M' : List ME}, FrzMs v k es M M' → ∀ m' ∈ M', ∃ m ∈ M, FrzM v k es m m'
  | [], [], _, m', h => by simp at h
  | m :: M, n :: M', h, m', hm => by
    rcases List.mem_cons.1 hm with rfl | hm
    · exact ⟨m, by simp, h.1⟩
    · obtain ⟨m1, h1, h2⟩ := FrzMs.mem h.2 m' hm
      exact ⟨m1, by simp [h1], h2⟩
  | [], _ :: _, h, _, _ => h.elim
  | _ :: _, [], h, _, _ => h.elim
theorem FrzMs.refl {v : Value} {k : Nat} {es : List AV} : ∀ (M : List ME), FrzMs v k es M M
  | [] => trivial
  | m :: M => ⟨.refl m, FrzMs.refl M⟩

/-- AN ARRAY OF THE CALL's OWN IS WRITTEN NO MORE. -/
theorem W.freeze {R : Act → World → Prop} {v : Value} {T k : Nat} {es : List AV} {L' : List (Tmp × Bool × AV)} {M1 M2 D : List ME} (hM : List.Perm M (ME.arr v T k es :: (M1 ++ D))) (hL : FSub v k es L L') (hM2 : FrzMs v k es M1 M2) (h : W x L' M2 R) : W x L M R := by
  intro a w hs
  have hm := hs.mem.holds _ (hM.mem_iff.2 List.mem_cons_self)
  obtain ⟨ad, cap, e, h1, h2, h3⟩ := hm
  have hp2 : List.Perm M (M1 ++ (ME.arr v T k es :: D)) := hM.trans (List.perm_middle.symm)
  obtain ⟨hmem, hk, hsub⟩ := hs.mem.sub hp2
  have hbl := hM2.bl
  have hnd := (bl_perm hM).nodup_iff.1 hs.mem.nodup
  -- the slice itself, now that its block is none of the mutable ones
  have hv : Rep w (bl M1 ++ x.F) (.sl k es) v := by
    rw [e]
    refine Rep.slI h1 h2 ?_
    rcases h3 with ⟨_, hc⟩ | ⟨g, off, cur, lo, hi, rfl, hc, _, _, hE⟩
    · left; exact List.eq_nil_of_length_eq_zero (by omega)
    · refine .inr ⟨g, off, cur, T, (lo, hi), rfl, ?_, hc, RepE.keep hk _ _ _ hE⟩
      have hg : g ∈ bl [ME.arr v T k es] := by subst e; simp [Vl.bl, ME.blks]
      intro hin
      rcases List.mem_append.1 hin with hin | hin
      · have : bl (ME.arr v T k es :: (M1 ++ D)) = bl [ME.arr v T k es] ++ (bl M1 ++ bl D) := by simp [Vl.bl]
        rw [this] at hnd
        exact (List.nodup_append.1 hnd).2.2 g hg g (List.mem_append_left _ hin) rfl
      · refine hs.mem.apart g ?_ hin
        rw [(bl_perm hM).mem_iff]
        have : bl (ME.arr v T k es :: (M1 ++ D)) = bl [ME.arr v T k es] ++ (bl M1 ++ bl D) := by simp [Vl.bl]
        rw [this]
        exact List.mem_append_left _ hg
  refine h a w ⟨hs.defers, hs.size, ?_, ⟨by rw [hbl]; exact hmem.nodup, by rw [hbl]; exact hmem.apart, ?_⟩, by rw [hbl]; exact hs.fr.sub hsub, hs.old⟩
  · intro t g b hl
    obtain ⟨a', hl', hf⟩ := hL.look t g b hl
    have := hs.slots t g a' hl'
    rw [hbl]
    exact ⟨fun hg => hf.rep hv ((this.1 hg).keep hk), this.2⟩
  · intro m' hm'
    obtain ⟨m, h4, h5⟩ := hM2.mem m' hm'
    rw [hbl]
    exact h5.holds hv (hmem.holds m h4)

/-! ### make -/
theorem run_makeSlice {P : Program} {w : World} {T E k bytes : Nat} {z : Value} {n : Nat} (hT : P.underlying T = some (.slice E)) (hE : Ty P E k bytes z) (hzk : z.cells.size = k) (hb1 : 1 ≤ bytes) (hb : n * bytes ≤ 140737488355328) :
    ∃ cells : Array Value, (Instr.makeSlice T (.int .i64 n) (.int .i64 n)).run P w = .ok (.slice (some ⟨w.heap.size, 0, none⟩) n n) (w.alloc (.cells cells E)) ∧ cells.size = n * k ∧ ∀ j, j < n * k → cells[j]? = some (z.cells[j % k]!) := by
  have hn : n ≤ n * bytes := Nat.le_mul_of_pos_right _ hb1
  have hw : IntKind.i64.wrap (n : Int) = n := IntWalk.i64_in _ (by omega)
  obtain ⟨i, hi1, hi2, hi3, hi4⟩ := hE
  have ht : ¬ ((n : Int) < 0) := by omega
  have hmul : ((bytes : Int) * n) = ((n * bytes : Nat) : Int) := by rw [Int.mul_comm]; simp
  have ht2 : ¬ (281474976710656 < (bytes : Int) * n) := by rw [hmul]; omega
  have hsz : (zeroValue E).run P w = .ok z w := by simp [zeroValue, typeInfo, hi1, hi4]
  by_cases h0 : n * k = 0
  · refine ⟨#[], ?_, by simp [h0], by intro j hj; omega⟩
    simp [Array.range_zero', Instr.makeSlice, run_underlying hT, asInt, asIntOf, typeInfo, hi1, hi3, hw, ht, ht2, sizeOf, hi2, h0, newRow]
  · refine ⟨(Array.range (n * k)).map (z.cells[· % z.cells.size]!), ?_, by simp, ?_⟩
    · simp [Instr.makeSlice, run_underlying hT, asInt, asIntOf, typeInfo, hi1, hi3, hw, ht, ht2, sizeOf, hi2, h0, newRow, hsz]
    · intro j hj
      rw [Array.getElem?_map, Array.getElem?_range, if_pos hj, hzk]
      rfl

theorem RepE.rep {w : World} {N : List Nat} {k : Nat} {zl : List Value} (hk : zl.length = k) (hz : zl.all (fun v => shV v == 0) = true) {e : AV} (he : RepC w N e zl) : ∀ (n : Nat) (row : List Value), row.length = n * k → (∀ j, j < n * k → row[j]? = zl[j % k]?) → RepE w N k (List.replicate n e) row
  | 0, row, _, _ => by simp [RepE]
  | n + 1, row, hl, hr => by
    simp only [List.replicate_succ, RepE]
    have hm : (n + 1) * k = n * k + k := by rw [Nat.add_mul, Nat.one_mul]
    have h1 : row.take k = zl := by
      apply List.ext_getElem?
      intro j
      rw [List.getElem?_take]
      by_cases hj : j < k
      · rw [if_pos hj, hr j (by omega), Nat.mod_eq_of_lt hj]
      · rw [if_neg hj, List.getElem?_eq_none (by omega)]
    refine ⟨by omega, by rw [h1]; exact he, RepE.rep hk hz he n _ (by rw [List.length_drop]; omega) ?_⟩
    intro j hj
    rw [List.getElem?_drop, hr (k + j) (by omega), Nat.add_mod_left]

theorem W.mk {d : Tmp} {T E k bytes : Nat} {z : Value} {o1 o2 : Operand} {n : Nat} {e : AV} (h1 : Ov true L o1 (.lit (.int .i64 (n : Int)))) (h2 : Ov true L o2 (.lit (.int .i64 (n : Int)))) (hT : x.P.underlying T = some (.slice E)) (hE : Ty x.P E k bytes z) (hzk : z.cells.size = k) (hz : z.cells.toList.all (fun v => shV v == 0) = true)
    (he : e = match z.cells.toList with | [v] => if shV z == 1 then .agg [.lit v] else .lit v | l => .agg (l.map .lit)) (hb1 : Nat.ble 1 bytes = true) (hk1 : Nat.ble 1 k = true) (hb : n * bytes ≤ 140737488355328) (hd : Nat.blt d x.n = true)
    (next : ∀ v', W x ((d, true, .lit v') :: L) (ME.arr v' E k (List.replicate n e) :: M) (wpList x.P ops Q rest)) :
    W x L M (wpList x.P ops Q (⟨some d, .makeSlice T o1 o2, ty, pos, aft, none⟩ :: rest)) := by
  refine W.opv (ι := Value) (fun v' => ME.arr v' E k (List.replicate n e) :: M) (fun v' => .lit v') hd ?_ next
  intro a w hs
  have hb1' := Nat.le_of_ble_eq_true hb1
  have hn : n ≤ n * bytes := Nat.le_mul_of_pos_right _ hb1'
  obtain ⟨cells, hr, hsz, hc⟩ := run_makeSlice (P := x.P) (w := w) hT hE hzk hb1' hb
  refine ⟨.slice (some ⟨w.heap.size, 0, none⟩) n n, w.alloc (.cells cells E), .slice (some ⟨w.heap.size, 0, none⟩) n n, by simp only [execOp, h1.lit rfl hs, h2.lit rfl hs, Sem.run_bind, hr, Result.andThen_ok, Sem.run_pure], ?_, Rep.lit _⟩
  refine hs.alloc _ _ rfl ?_
  intro N hN
  refine ⟨some ⟨w.heap.size, 0, none⟩, n, by simp, by simp, by simp only [maxLen]; omega, .inr ⟨w.heap.size, 0, cells, 0, 0, rfl, alloc_new _ _, by omega, .inl (Nat.le_refl _), ?_⟩⟩
  have hzl : z.cells.toList.length = k := by simpa using hzk
  refine RepE.rep hzl hz (e := e) ?_ n _ (by simp [hsz]) ?_
  · have hL : ∀ l : List Value, l.all (fun v => shV v == 0) = true → RepL (w.alloc (.cells cells E)) N (l.map .lit) l := by
      intro l
      induction l with
      | nil => intro _; simp [RepL]
      | cons v l ih =>
        intro hz
        simp only [List.all_cons, Bool.and_eq_true, beq_iff_eq] at hz
        simp only [List.map_cons, RepL]
        exact ⟨v, l, rfl, ⟨hz.1, hz.1, by simp only [RepC, cells_of_sh hz.1]⟩, ih hz.2⟩
    subst he
    have := hL _ hz
    revert this hz
    generalize z.cells.toList = l
    intro hz this
    match l with
    | [] => simpa [RepC] using this
    | [v] =>
      simp only [List.all_cons, List.all_nil, Bool.and_true, beq_iff_eq] at hz
      dsimp only
      split
      · simpa only [RepC, List.map_cons, List.map_nil] using this
      · simp only [RepC, cells_of_sh hz]
    | u :: v :: l => simpa only [RepC] using this
  · intro j hj
    have hkpos := Nat.le_of_ble_eq_true hk1
    have hlt : j % k < z.cells.size := by rw [hzk]; exact Nat.mod_lt _ hkpos
    rw [List.drop_zero, Array.getElem?_toList, hc j hj]
    simp [hlt]

/-! ### elements of the call's own arrays -/
section elems
variable {g : Bool} {T T' : TypeId} {o1 o2 : Operand}
theorem Ev.ata (i : Nat) {v : Value} {U k E bytes : Nat} {z : Value} {es : List AV} {n : Int} {ki : IntKind} (h1 : Ov g L o1 (.lit v)) (hM : M[i]? = some (ME.arr v U k es)) (h2 : Ov g L o2 (.lit (.int ki n))) (hT : x.P.underlying T = some (.slice E)) (hE : Ty x.P E k bytes z)
    (hi : g = true → 0 ≤ n ∧ n < es.length) : Ev x g L M (.indexAddr T o1 o2) ty (.aptr v (n.toNat * k)) := fun a w hs hg => by
  obtain ⟨hi0, hi1⟩ := hi hg
  obtain ⟨ad, cap, e, hlc, hcm, hcase⟩ := hs.mem.holds _ (List.mem_of_getElem? hM)
  have e1 := h1.lit hg hs
  rcases hcase with ⟨_, hc⟩ | ⟨gb, off, cur, lo, hi', rfl, hc, hsz, hfr, hrE⟩
  · have : es.length = 0 := by omega
    omega
  · refine ⟨.pointer (some ⟨gb, off + n.toNat * k, none⟩), ?_, rfl, ?_⟩
    · rw [e] at e1
      simp [execOp, e1, h2.lit hg hs, Instr.indexAt, asIntOf, run_underlying hT, hi0, hi1, hE.size, Addr.add_lit]
    · simp only [RepC]; exact ⟨gb, off, _, _, e, by simp [Value.cells]⟩

/-- where an element of an own array lies -/
theorem arr_at {a : Act} {w : World} (hs : St x L M a w) {i : Nat} {v : Value} {U k : Nat} {es : List AV} (hM : M[i]? = some (ME.arr v U k es)) {q : Nat} {e : AV} (hq : es[q]? = some e) :
    ∃ gb off cap cur lo hi, v = .slice (some ⟨gb, off, none⟩) es.length cap ∧ w.heap[gb]? = some (.cells cur U (lo, hi)) ∧ off + cap * k ≤ cur.size ∧ (hi ≤ lo ∨ off + cap * k ≤ lo) ∧ es.length ≤ cap ∧ cap ≤ maxLen ∧ RepE w (bl M ++ x.F) k es (cur.toList.drop off) := by
  have hlt : q < es.length := by
    rcases Nat.lt_or_ge q es.length with h' | h'
    · exact h'
    · rw [List.getElem?_eq_none h'] at hq; cases hq
  obtain ⟨ad, cap, e, hlc, hcm, hcase⟩ := hs.mem.holds _ (List.mem_of_getElem? hM)
  rcases hcase with ⟨_, hc⟩ | ⟨gb, off, cur, lo, hi', rfl, hc, hsz, hfr, hrE⟩
  · have : es.length = 0 := by omega
    omega
  · exact ⟨gb, off, cap, cur, lo, hi', e, hc, hsz, hfr, hlc, hcm, hrE⟩

theorem Ev.lda1 (i q o : Nat) {v : Value} {U k j : Nat} {es : List AV} {e c : AV} (h1 : Ov g L o1 (.aptr v j)) (hM : M[i]? = some (ME.arr v U k es)) (hq : es[q]? = some e) (hj : j = q * k + o) (ho : e.okc = true) (hk : e.cells.length = k) (hc : e.cells[o]? = some c) (hT : IsAgg x.P T false) : Ev x g L M (.load T o1) ty c := fun a w hs hg => by
  obtain ⟨gb, off, cap, cur, lo, hi, hv, hcur, hsz, _, _, _, hrE⟩ := arr_at hs hM hq
  obtain ⟨g2, off2, n2, cap2, hv2, ep⟩ := (h1.rep hg hs).aptr_inv
  rw [hv] at hv2
  cases hv2
  obtain ⟨h3, h4⟩ := hrE.get hq
  obtain ⟨u, hu, hrep⟩ := RepL.get (RepC.cells ho h4) hc
  have hok : o < k := by
    have : o < e.cells.length := by
      rcases Nat.lt_or_ge o e.cells.length with h' | h'
      · exact h'
      · rw [List.getElem?_eq_none h'] at hc; cases hc
    omega
  rw [List.getElem?_take, if_pos hok, List.getElem?_drop, List.getElem?_drop, Array.getElem?_toList] at hu
  subst hj
  exact ⟨u, run_load1 hT hcur (by rw [← hu]) ep, hrep⟩
theorem Ev.ldan (i q : Nat) {v : Value} {U k j bytes : Nat} {z : Value} {es : List AV} {e : AV} (h1 : Ov g L o1 (.aptr v j)) (hM : M[i]? = some (ME.arr v U k es)) (hq : es[q]? = some e) (hj : j = q * k) (ho : e.okc = true) (hT : IsAgg x.P T true) (hk : Ty x.P T k bytes z) : Ev x g L M (.load T o1) ty (.agg e.cells) := fun a w hs hg => by
  obtain ⟨gb, off, cap, cur, lo, hi, hv, hcur, hsz, _, hlc, _, hrE⟩ := arr_at hs hM hq
  obtain ⟨g2, off2, n2, cap2, hv2, ep⟩ := (h1.rep hg hs).aptr_inv
  rw [hv] at hv2
  cases hv2
  obtain ⟨h3, h4⟩ := hrE.get hq
  subst hj
  have hlt : q < es.length := by
    rcases Nat.lt_or_ge q es.length with h' | h'
    · exact h'
    · rw [List.getElem?_eq_none h'] at hq; cases hq
  have hle : (q + 1) * k ≤ cap * k := Nat.mul_le_mul_right _ (by omega)
  rw [Nat.add_mul, Nat.one_mul] at hle
  refine ⟨_, run_loadn hT hk hcur (by omega) ep, rfl, ?_⟩
  rw [List.drop_drop] at h4
  simpa only [RepC, Value.cells] using RepC.cells ho h4

theorem RepE.set {w : World} {N : List Nat} {k : Nat} : ∀ {es : List AV} {row : List Value} {q : Nat} {e' : AV} {new : List Value}, RepE w N k es row → q < es.length → new.length = k → RepC w N e' new →
    RepE w N k (es.set q e') (row.take (q * k) ++ new ++ row.drop (q * k + k))
  | [], row, q, e', new, _, hq, _, _ => by simp at hq
  | e :: es, row, 0, e', new, h, _, hn, he => by
    simp only [RepE] at h
    simp only [List.set_cons_zero, RepE, Nat.zero_mul, List.take_zero, List.nil_append, Nat.zero_add]
    refine ⟨by simp; omega, by rw [List.take_append_of_le_length (by omega), List.take_of_length_le (by omega)]; exact he, ?_⟩
    rw [List.drop_append_of_le_length (by omega), List.drop_of_length_le (by omega), List.nil_append]
    exact h.2.2
  | e :: es, row, q + 1, e', new, h, hq, hn, he => by
    simp only [RepE] at h
    have ih := RepE.set h.2.2 (show q < es.length by simpa using hq) hn he
    simp only [List.set_cons_succ, RepE]
    have hm : (q + 1) * k = k + q * k := by rw [Nat.add_mul, Nat.one_mul, Nat.add_comm]
    have hle : k ≤ row.length := h.1
    rw [hm, List.take_add, List.append_assoc, List.append_assoc]
    have hkl : (row.take k).length = k := by simp; omega
    refine ⟨by simp; omega, by rw [List.take_append_of_le_length (by omega), List.take_take, Nat.min_self]; exact h.2.1, ?_⟩
    rw [List.drop_append_of_le_length (by omega), List.drop_of_length_le (by omega), List.nil_append]
    rw [List.drop_drop] at ih
    rw [List.append_assoc] at ih
    rw [show k + q * k + k = k + (q * k + k) from by omega]
    exact ih

theorem RepC.ofL {w : World} {N : List Nat} {e : AV} {row : List Value} (ho : e.okc = true) (h : RepL w N e.cells row) : RepC w N e row := by
  cases e with
  | agg cs => simpa only [RepC, AV.cells] using h
  | tup vs => simp [AV.okc] at ho
  | lit u =>
    simp only [AV.okc, beq_iff_eq] at ho
    have hu : (AV.lit u).cells = [.lit u] := by cases u <;> first | rfl | simp [shV] at ho
    rw [hu] at h; simp only [RepL] at h; obtain ⟨_, _, rfl, ⟨_, _, h1⟩, rfl⟩ := h; exact h1
  | sl k es => simp only [AV.cells, RepL] at h; obtain ⟨_, _, rfl, ⟨_, _, h1⟩, rfl⟩ := h; exact h1
  | eptr cs => simp only [AV.cells, RepL] at h; obtain ⟨_, _, rfl, ⟨_, _, h1⟩, rfl⟩ := h; exact h1
  | aptr v j => simp only [AV.cells, RepL] at h; obtain ⟨_, _, rfl, ⟨_, _, h1⟩, rfl⟩ := h; exact h1

theorem wr_elem {R nl : List Value} {off p o n k : Nat} (hn : nl.length = n) (hon : o + n ≤ k) (hR : off + p + k ≤ R.length) :
    (R.take (off + (p + o)) ++ nl ++ R.drop (off + (p + o) + n)).drop off =
      (R.drop off).take p ++ ((((R.drop off).drop p).take k).take o ++ nl ++ (((R.drop off).drop p).take k).drop (o + n)) ++ (R.drop off).drop (p + k) := by
  have e1 : (R.take (off + (p + o)) ++ nl ++ R.drop (off + (p + o) + n)).drop off = (R.drop off).take (p + o) ++ nl ++ (R.drop off).drop (p + o + n) := by
    rw [List.append_assoc, List.drop_append_of_le_length (by rw [List.length_take]; omega), List.drop_take, Nat.add_sub_cancel_left, List.append_assoc, List.drop_drop, Nat.add_assoc off (p + o) n]
  rw [e1]
  have hS : p + k ≤ (R.drop off).length := by rw [List.length_drop]; omega
  generalize R.drop off = S at hS
  have e2 : ((S.drop p).take k).take o = (S.drop p).take o := by rw [List.take_take, Nat.min_eq_left (by omega)]
  have e3 : ((S.drop p).take k).drop (o + n) ++ S.drop (p + k) = S.drop (p + o + n) := by
    have : S.drop (p + k) = ((S.drop p).drop k) := by rw [List.drop_drop]
    rw [this, ← List.drop_append_of_le_length (by rw [List.length_take, List.length_drop]; omega), List.take_append_drop, List.drop_drop, Nat.add_assoc]
  rw [e2, List.take_add, List.append_assoc, List.append_assoc, List.append_assoc, List.append_assoc, e3]
  simp [List.append_assoc]

/-- a store into an element, or into a part of it -/
theorem W.sta (i q o : Nat) {v : Value} {U k j n bytes : Nat} {z : Value} {es : List AV} {e e' av : AV} (h1 : Ov true L o1 (.aptr v j)) (h2 : Ov true L o2 av) (hM : M[i]? = some (ME.arr v U k es)) (hq : es[q]? = some e) (hj : j = q * k + o) (hT : Ty x.P T n bytes z)
    (hoe : e.okc = true) (hke : e.cells.length = k) (hoa : av.okc = true) (hka : av.cells.length = n) (hle : Nat.ble (o + n) k = true) (hoe' : e'.okc = true) (hce : e'.cells = splice e.cells o av.cells)
    (next : W x L (M.set i (ME.arr v U k (es.set q e'))) (wpList x.P ops Q rest)) :
    W x L M (wpList x.P ops Q (⟨none, .store T o1 o2, ty, pos, aft, none⟩ :: rest)) := by
  refine W.opu (ι := Unit) (fun _ => M.set i (ME.arr v U k (es.set q e'))) ?_ (fun _ => next)
  intro a w hs
  have hr := h2.rep rfl hs
  have hrl := hr.toL hoa
  have hlen := hrl.length
  have hle' := Nat.le_of_ble_eq_true hle
  obtain ⟨gb, off, cap, cur, lo, hi, hv, hcur, hsz, hfr, hlc, hcm, hrE⟩ := arr_at hs hM hq
  obtain ⟨g2, off2, n2, cap2, hv2, ep⟩ := (h1.rep rfl hs).aptr_inv
  rw [hv] at hv2
  cases hv2
  subst hj
  have hlt : q < es.length := by
    rcases Nat.lt_or_ge q es.length with h' | h'
    · exact h'
    · rw [List.getElem?_eq_none h'] at hq; cases hq
  have hmul : (q + 1) * k ≤ cap * k := Nat.mul_le_mul_right _ (by omega)
  rw [Nat.add_mul, Nat.one_mul] at hmul
  have hnl : (a.eval o2).cells.toList.length = n := by omega
  have hst := run_storeCells (P := x.P) (g := gb) (off := off + (q * k + o)) (T := U) (lo := lo) (hi := hi) (a.eval o2).cells.toList 0 cur w hcur (by omega) (by omega) hrl.sh
  refine ⟨{ w with heap := w.heap.setIfInBounds gb (.cells (wr cur (off + (q * k + o)) (a.eval o2).cells.toList) U (lo, hi)) }, (), ?_, ?_⟩
  · have hne : ¬ ((a.eval o2).cells.size ≠ n) := by simp at hnl; omega
    simp only [execOp, ep, Instr.storeAt, Instr.sureAddr, storeVar, Sem.run_bind, Sem.run_pure, Result.andThen_ok, hT.size, if_neg hne, hst, Nat.add_zero]
  · refine hs.write (m' := ME.arr v U k (es.set q e')) hM (by subst hv; rfl) (by subst hv; rfl) ?_
    intro w' hother hnew hk'
    have hcl : cur.toList.length = cur.size := Array.length_toList
    have hrE' := RepE.keep hk' _ _ _ hrE
    obtain ⟨h3, h4⟩ := hrE'.get hq
    have hsp := (RepC.cells hoe h4)
    -- the element's new cells
    have hnewcells : RepL w' (bl M ++ x.F) e'.cells ((((cur.toList.drop off).drop (q * k)).take k).take o ++ (a.eval o2).cells.toList ++ (((cur.toList.drop off).drop (q * k)).take k).drop (o + n)) := by
      rw [hce]
      unfold splice
      rw [hka]
      exact ((hsp.take o).append (RepL.keep hk' _ _ hrl)).append (hsp.drop _)
    refine ⟨some ⟨gb, off, none⟩, cap, by rw [List.length_set]; exact hv, by rw [List.length_set]; exact hlc, hcm, .inr ⟨gb, off, _, lo, hi, rfl, hnew, ?_, hfr, ?_⟩⟩
    · rw [wr_size _ _ _ (by omega)]; exact hsz
    · have hseg : (((cur.toList.drop off).drop (q * k)).take k).length = k := by rw [List.length_take]; omega
      have hset := RepE.set hrE' hlt (new := (((cur.toList.drop off).drop (q * k)).take k).take o ++ (a.eval o2).cells.toList ++ (((cur.toList.drop off).drop (q * k)).take k).drop (o + n)) (by
        rw [List.length_append, List.length_append, List.length_take, List.length_drop, hseg, hnl]; omega) (RepC.ofL hoe' hnewcells)
      refine RepE.congr hset ?_
      congr 1
      simp only [wr, List.toList_toArray]
      rw [hnl]
      exact (wr_elem hnl (by omega) (by omega)).symm
end elems
end arr
end Go.Vl
