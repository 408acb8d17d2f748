/-
  The operations that make or write memory.
-/
import Derived.Test.YtpjngpegkoohgaaEv
set_option linter.unusedVariables false
set_option linter.unusedSimpArgs false
set_option linter.unusedSectionVars false
namespace Go.Vl

section mem
variable {x : Cx} {L : List (Tmp × Bool × AV)} {M : List ME} {ops : Array Oper} {Q : Exit → Act → World → Prop} {rest : List Oper} {ty : TypeId} {pos : String} {aft : Array Edge}

/-- an operation with a value, in whatever new state -/
theorem W.opv {ι : Type} {d : Tmp} {op : Op} (Mf : ι → List ME) (af : ι → AV) (hd : Nat.blt d x.n = true)
    (step : ∀ a w, St x L M a w → ∃ v w' z, (execOp a.eval ⟨none, op, ty, "", #[], none⟩).run x.P w = .ok (.value v) w' ∧ St x L (Mf z) a w' ∧ Rep w' (bl (Mf z) ++ x.F) (af z) v)
    (next : ∀ z, W x ((d, true, af z) :: L) (Mf z) (wpList x.P ops Q rest)) : W x L M (wpList x.P ops Q (⟨some d, op, ty, pos, aft, none⟩ :: rest)) := by
  intro a w hs
  obtain ⟨v, w', z, hr, hs', hv⟩ := step a w hs
  refine wpList_cons_want (by simp [Region.wanted]) ?_
  unfold Oper.wp
  rw [execOp_bare, hr]
  exact next z _ _ (hs'.put hd true _ v (fun _ => hv) (by simp))
/-- an operation without a value -/
theorem W.opu {ι : Type} {op : Op} (Mf : ι → List ME)
    (step : ∀ a w, St x L M a w → ∃ w' z, (execOp a.eval ⟨none, op, ty, "", #[], none⟩).run x.P w = .ok .skip w' ∧ St x L (Mf z) a w')
    (next : ∀ z, W x L (Mf z) (wpList x.P ops Q rest)) : W x L M (wpList x.P ops Q (⟨none, op, ty, pos, aft, none⟩ :: rest)) := by
  intro a w hs
  obtain ⟨w', z, hr, hs'⟩ := step a w hs
  refine wpList_cons_want (by simp [Region.wanted]) ?_
  unfold Oper.wp
  rw [execOp_bare, hr]
  exact next z _ _ hs'

theorem alloc_new (w : World) (o : Obj) : (w.alloc o).heap[w.heap.size]? = some o := by
  show (w.heap.push o)[w.heap.size]? = _
  simp
theorem alloc_old (w : World) (o : Obj) {k : Nat} (h : k < w.heap.size) : (w.alloc o).heap[k]? = w.heap[k]? := by
  show (w.heap.push o)[k]? = _
  rw [Array.getElem?_push, if_neg (by omega)]

theorem nl_lt {a : Act} {w : World} (hs : St x L M a w) : ∀ b ∈ bl M ++ x.F, b < w.heap.size := by
  intro b hb
  rcases List.mem_append.1 hb with hb | hb
  · exact bl_lt hs.mem b hb
  · exact Nat.lt_of_lt_of_le (hs.old b hb) hs.fr.size

/-- a new block that is one of the call's own -/
theorem St.alloc {a : Act} {w : World} (hs : St x L M a w) (o : Obj) (m : ME) (hb : m.blks = [w.heap.size]) (hm : ∀ N, (∀ b, b ∈ N ↔ b = w.heap.size ∨ b ∈ bl M ++ x.F) → m.holds (w.alloc o) N) :
    St x L (m :: M) a (w.alloc o) := by
  have hbl : bl (m :: M) = w.heap.size :: bl M := by simp [bl, hb]
  have hlt := nl_lt hs
  have hk : Keep w (bl M ++ x.F) (w.alloc o) (bl (m :: M) ++ x.F) := by
    intro b c T fr hn hc
    have hb' := heap_lt hc
    refine ⟨?_, by rw [alloc_old w o hb']; exact hc⟩
    rw [hbl, List.cons_append, List.mem_cons]
    rintro (h | h)
    · omega
    · exact hn h
  refine hs.world hk ⟨?_, ?_, ?_⟩ ⟨hs.fr.os, hs.fr.tape, hs.fr.output, ?_, ?_⟩
  · rw [hbl, List.nodup_cons]
    exact ⟨fun h => by have := bl_lt hs.mem _ h; omega, hs.mem.nodup⟩
  · intro b hb' hF
    rw [hbl, List.mem_cons] at hb'
    rcases hb' with rfl | hb'
    · have := hs.old _ hF; have := hs.fr.size; omega
    · exact hs.mem.apart b hb' hF
  · intro m' hm'
    rcases List.mem_cons.1 hm' with rfl | hm'
    · exact hm _ (fun b => by rw [hbl, List.cons_append, List.mem_cons])
    · refine ME.holds_keep hk ?_ (hs.mem.holds m' hm')
      intro b hb'
      exact alloc_old w o (ME.blk_some (hs.mem.holds m' hm') b hb')
  · rw [World.size_alloc]; have := hs.fr.size; omega
  · intro k hk' hn
    have h1 := hs.fr.block k hk' hn
    have hkw : k < w.heap.size := Nat.lt_of_lt_of_le hk' hs.fr.size
    refine ⟨by rw [alloc_old w o hkw]; exact h1.1, ?_⟩
    rw [hbl, List.mem_cons]
    rintro (h | h)
    · omega
    · exact h1.2 h

/-- a new block that nothing will write -/
theorem St.allocI {a : Act} {w : World} (hs : St x L M a w) (o : Obj) : St x L M a (w.alloc o) ∧ Keep w (bl M ++ x.F) (w.alloc o) (bl M ++ x.F) ∧ w.heap.size ∉ bl M ++ x.F := by
  have hlt := nl_lt hs
  have hk : Keep w (bl M ++ x.F) (w.alloc o) (bl M ++ x.F) := fun b c T fr hn hc => ⟨hn, by rw [alloc_old w o (heap_lt hc)]; exact hc⟩
  refine ⟨hs.world hk ⟨hs.mem.nodup, hs.mem.apart, ?_⟩ ⟨hs.fr.os, hs.fr.tape, hs.fr.output, ?_, ?_⟩, hk, fun h => by have := hlt _ h; omega⟩
  · intro m hm
    refine ME.holds_keep hk ?_ (hs.mem.holds m hm)
    intro b hb
    exact alloc_old w o (ME.blk_some (hs.mem.holds m hm) b hb)
  · rw [World.size_alloc]; have := hs.fr.size; omega
  · intro k hk' hn
    have h1 := hs.fr.block k hk' hn
    exact ⟨by rw [alloc_old w o (Nat.lt_of_lt_of_le hk' hs.fr.size)]; exact h1.1, h1.2⟩

/-- a draw, or anything else that turns no block -/
theorem St.same {a : Act} {w w' : World} (hs : St x L M a w) (hh : w'.heap = w.heap) (h1 : w'.os = w.os) (h2 : w'.tape = w.tape) (h3 : w'.output = w.output) : St x L M a w' := by
  have hk : Keep w (bl M ++ x.F) w' (bl M ++ x.F) := fun b c T fr hn hc => ⟨hn, by rw [hh]; exact hc⟩
  refine hs.world hk ⟨hs.mem.nodup, hs.mem.apart, ?_⟩ ⟨h1.trans hs.fr.os, h2.trans hs.fr.tape, h3.trans hs.fr.output, by rw [hh]; exact hs.fr.size, by rw [hh]; exact hs.fr.block⟩
  intro m hm
  exact ME.holds_keep hk (fun b _ => by rw [hh]) (hs.mem.holds m hm)

/-! ### variables with an address -/
theorem W.alloc {d : Tmp} {T : TypeId} {k bytes : Nat} {z : Value} (hT : Ty x.P T k bytes z) (hz : z.cells.toList.all (fun v => shV v == 0) = true) (hd : Nat.blt d x.n = true)
    (next : ∀ b, W x ((d, true, .lit (.pointer (some ⟨b, 0, none⟩))) :: L) (.box b T (z.cells.toList.map .lit) :: M) (wpList x.P ops Q rest)) :
    W x L M (wpList x.P ops Q (⟨some d, .alloc T, ty, pos, aft, none⟩ :: rest)) := by
  refine W.opv (ι := Nat) (fun b => .box b T (z.cells.toList.map .lit) :: M) (fun b => .lit (.pointer (some ⟨b, 0, none⟩))) hd ?_ next
  intro a w hs
  refine ⟨.pointer (some ⟨w.heap.size, 0, none⟩), w.alloc (.cells z.cells T), w.heap.size, ?_, ?_, Rep.lit _⟩
  · have := hT.zero w
    simp [execOp, Instr.alloc, this, newVar, newRow]
  · refine hs.alloc _ _ rfl ?_
    intro N hN
    refine ⟨z.cells, alloc_new _ _, ?_⟩
    generalize z.cells.toList = l at hz
    induction l with
    | nil => simp [RepL]
    | cons v l ih =>
      simp only [List.all_cons, Bool.and_eq_true, beq_iff_eq] at hz
      simp only [List.map_cons, RepL]
      exact ⟨v, l, rfl, ⟨hz.1, hz.1, by simp only [RepC, cells_of_sh hz.1]⟩, ih hz.2⟩

theorem W.box {d : Tmp} {T : TypeId} {o : Operand} {av : AV} (h1 : Ov true L o av) (ho : av.okc = true) (hd : Nat.blt d x.n = true)
    (next : ∀ b, W x ((d, true, .lit (.pointer (some ⟨b, 0, none⟩))) :: L) (.box b T av.cells :: M) (wpList x.P ops Q rest)) :
    W x L M (wpList x.P ops Q (⟨some d, .box T o, ty, pos, aft, none⟩ :: rest)) := by
  refine W.opv (ι := Nat) (fun b => .box b T av.cells :: M) (fun b => .lit (.pointer (some ⟨b, 0, none⟩))) hd ?_ next
  intro a w hs
  have hr := h1.rep rfl hs
  refine ⟨.pointer (some ⟨w.heap.size, 0, none⟩), w.alloc (.cells (a.eval o).cells T), w.heap.size, ?_, ?_, Rep.lit _⟩
  · simp [execOp, Instr.box, newVar, newRow]
  · refine hs.alloc _ _ rfl ?_
    intro N hN
    refine ⟨_, alloc_new _ _, RepL.keep ?_ _ _ (hr.toL ho)⟩
    intro b c T fr hn hc
    refine ⟨fun h => ?_, by rw [alloc_old _ _ (heap_lt hc)]; exact hc⟩
    rcases (hN b).1 h with h | h
    · have := heap_lt hc; omega
    · exact hn h

/-- cells put over others -/
def wr (cur : Array Value) (off : Nat) (news : List Value) : Array Value := (cur.toList.take off ++ news ++ cur.toList.drop (off + news.length)).toArray
theorem wr_nil (cur : Array Value) (off : Nat) : wr cur off [] = cur := by simp [wr]
theorem wr_size (cur : Array Value) (off : Nat) (news : List Value) (h : off + news.length ≤ cur.size) : (wr cur off news).size = cur.size := by
  simp [wr]; omega
theorem wr_cons (cur : Array Value) (off : Nat) (v : Value) (news : List Value) (h : off + (news.length + 1) ≤ cur.size) : wr (cur.setIfInBounds off v) (off + 1) news = wr cur off (v :: news) := by
  have hlt : off < cur.toList.length := by simp; omega
  unfold wr
  congr 1
  rw [Array.toList_setIfInBounds, List.set_eq_take_append_cons_drop, if_pos hlt]
  have hl : (cur.toList.take off).length = off := by simp; omega
  have e1 : (cur.toList.take off ++ v :: cur.toList.drop (off + 1)).take (off + 1) = cur.toList.take off ++ [v] := by
    rw [List.take_append, hl, List.take_of_length_le (by omega)]
    simp
  have e2 : (cur.toList.take off ++ v :: cur.toList.drop (off + 1)).drop (off + 1 + news.length) = cur.toList.drop (off + (news.length + 1)) := by
    rw [List.drop_append, hl, List.drop_of_length_le (by omega), List.nil_append, show off + 1 + news.length - off = news.length + 1 from by omega, List.drop_succ_cons, List.drop_drop]
    congr 1; omega
  rw [e1, e2]
  simp [List.append_assoc]

theorem run_store1 {P : Program} {w : World} {g o : Nat} {cur : Array Value} {T : TypeId} {lo hi : Nat} {v : Value} (h : w.heap[g]? = some (.cells cur T (lo, hi))) (ho : o < cur.size) (hf : hi ≤ lo ∨ o < lo) (hv : shV v = 0) :
    (store ⟨g, o, none⟩ v).run P w = .ok () { w with heap := w.heap.setIfInBounds g (.cells (cur.setIfInBounds o v) T (lo, hi)) } := by
  have hc : w.cell? ⟨g, o, none⟩ = some (cur[o]'ho) := by rw [cell_of h]; simp [ho]
  have hfr : w.frozen? ⟨g, o, none⟩ = false := by
    simp only [World.frozen?, h]
    rcases hf with hf | hf
    · simp; omega
    · simp; omega
  have h1 : v.oneCell' = true := by cases v <;> first | rfl | simp [shV] at hv
  rw [run_store P w _ v _ h1]
  simp only [stored, hc, hfr]
  simp only [Bool.false_eq_true, if_false, World.setCell]
  congr 2
  apply Array.ext_getElem?
  intro i
  rw [Array.getElem?_modify, Array.getElem?_setIfInBounds]
  by_cases e : g = i
  · subst e
    have hlt := heap_lt h
    rw [if_pos rfl, h, if_pos rfl, if_pos hlt]
    rfl
  · rw [if_neg e, if_neg e]

theorem run_storeCells {P : Program} {g off : Nat} {T : TypeId} {lo hi : Nat} : ∀ (news : List Value) (i : Nat) (cur : Array Value) (w : World), w.heap[g]? = some (.cells cur T (lo, hi)) → off + i + news.length ≤ cur.size →
    (hi ≤ lo ∨ off + i + news.length ≤ lo) → (∀ v ∈ news, shV v = 0) → (storeCells ⟨g, off, none⟩ news i).run P w = .ok () { w with heap := w.heap.setIfInBounds g (.cells (wr cur (off + i) news) T (lo, hi)) }
  | [], i, cur, w, h, _, _, _ => by
    have e : w.heap.setIfInBounds g (.cells cur T (lo, hi)) = w.heap := by
      apply Array.ext_getElem?
      intro j
      rw [Array.getElem?_setIfInBounds]
      by_cases e : g = j
      · subst e; rw [if_pos rfl, if_pos (heap_lt h), h]
      · rw [if_neg e]
    simp [storeCells, wr_nil, e]
  | v :: news, i, cur, w, h, hl, hf, hv => by
    simp only [List.length_cons] at hl hf
    have h1 := run_store1 (P := P) (w := w) (v := v) h (o := off + i) (by omega) (by omega) (hv v (by simp))
    have hlt := heap_lt h
    have h2 := run_storeCells (P := P) (g := g) (T := T) (lo := lo) (hi := hi) (off := off) news (i + 1) (cur.setIfInBounds (off + i) v) { w with heap := w.heap.setIfInBounds g (.cells (cur.setIfInBounds (off + i) v) T (lo, hi)) }
      (by simp [hlt]) (by simp; omega) (by omega) (fun u hu => hv u (by simp [hu]))
    simp only [storeCells, Sem.run_bind, Addr.add_lit, h1, Result.andThen_ok, h2]
    rw [show off + (i + 1) = off + i + 1 from by omega, wr_cons cur (off + i) v news (by omega)]
    congr 2
    apply Array.ext_getElem?
    intro j
    simp only [Array.getElem?_setIfInBounds, Array.size_setIfInBounds]
    by_cases e : g = j
    · subst e; simp [hlt]
    · simp [e]

/-- one of the call's own blocks is written -/
theorem St.write {a : Act} {w : World} (hs : St x L M a w) {i : Nat} {m m' : ME} {g : Nat} {o : Obj} (hM : M[i]? = some m) (hg : m.blks = [g]) (hg' : m'.blks = [g])
    (hm' : ∀ w', (∀ b, b ≠ g → w'.heap[b]? = w.heap[b]?) → w'.heap[g]? = some o → Keep w (bl M ++ x.F) w' (bl M ++ x.F) → m'.holds w' (bl M ++ x.F)) :
    St x L (M.set i m') a { w with heap := w.heap.setIfInBounds g o } := by
  have hlt : i < M.length := by
    rcases Nat.lt_or_ge i M.length with h | h
    · exact h
    · rw [List.getElem?_eq_none h] at hM; cases hM
  have hmem : m ∈ M := List.mem_of_getElem? hM
  have hgM : g ∈ bl M := by simp only [bl, List.mem_flatMap]; exact ⟨m, hmem, by simp [hg]⟩
  have hgw : g < w.heap.size := bl_lt hs.mem g hgM
  have hsplit : M = M.take i ++ m :: M.drop (i + 1) := by
    have := List.getElem?_eq_some_iff.1 hM
    obtain ⟨h1, h2⟩ := this
    rw [← h2]; simp
  have hset : M.set i m' = M.take i ++ m' :: M.drop (i + 1) := by rw [List.set_eq_take_append_cons_drop, if_pos hlt]
  have hbl : bl (M.set i m') = bl M := by
    rw [hset]
    conv => rhs; rw [hsplit]
    simp [bl, hg, hg']
  have hother : ∀ b, b ≠ g → ({ w with heap := w.heap.setIfInBounds g o } : World).heap[b]? = w.heap[b]? := fun b hb => by
    show (w.heap.setIfInBounds g o)[b]? = _
    rw [Array.getElem?_setIfInBounds, if_neg (fun e => hb e.symm)]
  have hnew : ({ w with heap := w.heap.setIfInBounds g o } : World).heap[g]? = some o := by
    show (w.heap.setIfInBounds g o)[g]? = _
    rw [Array.getElem?_setIfInBounds, if_pos rfl, if_pos hgw]
  have hk0 : Keep w (bl M ++ x.F) { w with heap := w.heap.setIfInBounds g o } (bl M ++ x.F) := by
    intro b c T fr hn hc
    refine ⟨hn, ?_⟩
    rw [hother b (fun e => hn (by subst e; exact List.mem_append_left _ hgM))]
    exact hc
  have hk : Keep w (bl M ++ x.F) { w with heap := w.heap.setIfInBounds g o } (bl (M.set i m') ++ x.F) := by rw [hbl]; exact hk0
  refine hs.world hk ⟨by rw [hbl]; exact hs.mem.nodup, by rw [hbl]; exact hs.mem.apart, ?_⟩ ⟨hs.fr.os, hs.fr.tape, hs.fr.output, ?_, ?_⟩
  · rw [hbl]
    intro m₁ hm₁
    rcases List.mem_or_eq_of_mem_set hm₁ with h | h
    · -- it may be the old one at another place: its blocks are others
      rw [hset] at hm₁
      rcases List.mem_append.1 hm₁ with h1 | h1
      · refine ME.holds_keep hk0 ?_ (hs.mem.holds m₁ h)
        intro b hb
        refine hother b ?_
        rintro rfl
        have hnd := hs.mem.nodup
        rw [hsplit] at hnd
        simp only [bl, List.flatMap_append, List.flatMap_cons, hg] at hnd
        exact (List.nodup_append.1 hnd).2.2 b (by simp only [List.mem_flatMap]; exact ⟨m₁, h1, hb⟩) b (by simp) rfl
      · rcases List.mem_cons.1 h1 with rfl | h1
        · exact hm' _ hother hnew hk0
        · refine ME.holds_keep hk0 ?_ (hs.mem.holds m₁ h)
          intro b hb
          refine hother b ?_
          rintro rfl
          have hnd := hs.mem.nodup
          rw [hsplit] at hnd
          simp only [bl, List.flatMap_append, List.flatMap_cons, hg] at hnd
          have h2 := (List.nodup_append.1 hnd).2.1
          simp only [List.cons_append, List.nil_append, List.nodup_cons] at h2
          exact h2.1 (by simp only [List.mem_flatMap]; exact ⟨m₁, h1, hb⟩)
    · rw [h]; exact hm' _ hother hnew hk0
  · simpa using hs.fr.size
  · intro k hk' hn
    have h1 := hs.fr.block k hk' hn
    rw [hbl]
    refine ⟨?_, h1.2⟩
    rw [hother k (fun e => h1.2 (e ▸ hgM))]
    exact h1.1

theorem RepL.append {w : World} {N : List Nat} : ∀ {cs ds : List AV} {r s : List Value}, RepL w N cs r → RepL w N ds s → RepL w N (cs ++ ds) (r ++ s)
  | [], ds, r, s, h, h' => by simp only [RepL] at h; subst h; simpa using h'
  | c :: cs, ds, r, s, h, h' => by
    simp only [RepL] at h
    obtain ⟨v, vs, rfl, h1, h2⟩ := h
    simp only [List.cons_append, RepL]
    exact ⟨v, _, rfl, h1, RepL.append h2 h'⟩
theorem RepL.sh {w : World} {N : List Nat} : ∀ {cs : List AV} {r : List Value}, RepL w N cs r → ∀ v ∈ r, shV v = 0
  | [], r, h => by simp only [RepL] at h; subst h; simp
  | c :: cs, r, h => by
    simp only [RepL] at h
    obtain ⟨v, vs, rfl, h1, h2⟩ := h
    intro u hu
    rcases List.mem_cons.1 hu with rfl | hu
    · exact h1.2.1
    · exact RepL.sh h2 u hu

/-- cells put over others -/
def splice (cs : List AV) (o : Nat) (new : List AV) : List AV := cs.take o ++ new ++ cs.drop (o + new.length)
theorem RepL.splice {w : World} {N : List Nat} {cs new : List AV} {cur : Array Value} {news : List Value} {o : Nat} (h : RepL w N cs cur.toList) (hn : RepL w N new news) : RepL w N (splice cs o new) (wr cur o news).toList := by
  unfold Vl.splice wr
  rw [List.toList_toArray, hn.length]
  exact ((h.take o).append hn).append (h.drop _)

theorem W.stb (i : Nat) {b o U T k bytes : Nat} {z : Value} {o1 o2 : Operand} {cs : List AV} {av : AV} (h1 : Ov true L o1 (.lit (.pointer (some ⟨b, o, none⟩)))) (h2 : Ov true L o2 av) (hM : M[i]? = some (.box b U cs)) (hT : Ty x.P T k bytes z)
    (ho : av.okc = true) (hk : av.cells.length = k) (hl : Nat.ble (o + k) cs.length = true)
    (next : W x L (M.set i (.box b U (splice cs o av.cells))) (wpList x.P ops Q rest)) :
    W x L M (wpList x.P ops Q (⟨none, .store T o1 o2, ty, pos, aft, none⟩ :: rest)) := by
  refine W.opu (ι := Unit) (fun _ => M.set i (.box b U (splice cs o av.cells))) ?_ (fun _ => next)
  intro a w hs
  have hr := h2.rep rfl hs
  have hrl := hr.toL ho
  have hlen := hrl.length
  obtain ⟨cur, hc, hcs⟩ := box_at (N := []) hs.mem hM
  have hcl := hcs.length
  have hl' := Nat.le_of_ble_eq_true hl
  simp at hlen hcl
  have hst := run_storeCells (P := x.P) (g := b) (off := o) (T := U) (lo := 0) (hi := 0) (a.eval o2).cells.toList 0 cur w hc (by simp; omega) (.inl (Nat.le_refl _)) hrl.sh
  refine ⟨{ w with heap := w.heap.setIfInBounds b (.cells (wr cur o (a.eval o2).cells.toList) U (0, 0)) }, (), ?_, ?_⟩
  · have hne : ¬ ((a.eval o2).cells.size ≠ k) := by omega
    simp only [execOp, h1.lit rfl hs, Instr.storeAt, Instr.sureAddr, storeVar, Sem.run_bind, Sem.run_pure, Result.andThen_ok, hT.size, if_neg hne, hst, Nat.add_zero]
  · refine hs.write hM rfl rfl ?_
    intro w' hother hnew hk'
    exact ⟨_, hnew, (RepL.keep hk' _ _ hcs).splice (RepL.keep hk' _ _ hrl)⟩

/-! ### rows that are built -/
/-- parts in their order, each of k cells -/
def PartsOv (L : List (Tmp × Bool × AV)) (k : Nat) : Nat → List (Nat × Operand) → List AV → Prop
  | _, [], [] => True
  | i, (j, o) :: ps, a :: as => j = i ∧ Ov true L o a ∧ a.okc = true ∧ a.cells.length = k ∧ PartsOv L k (i + 1) ps as
  | _, _, _ => False

theorem foldl_set (new : List Value) : ∀ (off j : Nat) (cells : Array Value), off + j + new.length ≤ cells.size →
    (new.zipIdx j).foldl (fun cs (c, j) => cs.setIfInBounds (off + j) c) cells = wr cells (off + j) new := by
  induction new with
  | nil => intro off j cells h; simp [wr_nil]
  | cons v new ih =>
    intro off j cells h
    simp only [List.length_cons] at h
    rw [List.zipIdx_cons, List.foldl_cons]
    rw [ih off (j + 1) (cells.setIfInBounds (off + j) v) (by simp; omega)]
    exact wr_cons cells (off + j) v new (by omega)

theorem RepE.of_parts {w : World} {a : Act} (hs : St x L M a w) {k : Nat} : ∀ {i : Nat} {ps : List (Nat × Operand)} {es : List AV} {cells : Array Value}, PartsOv L k i ps es → (i + es.length) * k ≤ cells.size →
    ∃ cells', Instr.fill (fun i => some (i * k, k)) cells (ps.map fun (i, o) => (i, a.eval o)) = some cells' ∧ cells'.size = cells.size ∧ cells'.toList.take (i * k) = cells.toList.take (i * k) ∧
      RepE w (bl M ++ x.F) k es (cells'.toList.drop (i * k))
  | i, [], [], cells, _, _ => ⟨cells, rfl, rfl, rfl, by simp [RepE]⟩
  | i, (j, o) :: ps, e :: es, cells, h, hsz => by
    obtain ⟨rfl, h1, ho, hk, h2⟩ := h
    have hr := h1.rep rfl hs
    have hrl := hr.toL ho
    have hlen : (a.eval o).cells.size = k := by have := hrl.length; simp at this; omega
    simp only [List.length_cons] at hsz
    have hmul : (j + (es.length + 1)) * k = j * k + (es.length * k + k) := by rw [Nat.add_mul, Nat.add_mul, Nat.one_mul]
    have hmul2 : (j + 1 + es.length) * k = j * k + (es.length * k + k) := by rw [Nat.add_mul, Nat.add_mul, Nat.one_mul]; omega
    have hfold := foldl_set (a.eval o).cells.toList (j * k) 0 cells (by simp [hlen]; omega)
    rw [Nat.add_zero] at hfold
    have hw1 : (wr cells (j * k) (a.eval o).cells.toList).size = cells.size := wr_size _ _ _ (by simp [hlen]; omega)
    obtain ⟨cells', hf, hsz', htk, hE⟩ := RepE.of_parts hs (cells := wr cells (j * k) (a.eval o).cells.toList) h2 (by rw [hw1, hmul2]; omega)
    have hjk : (j + 1) * k = j * k + k := by rw [Nat.add_mul, Nat.one_mul]
    have htk1 : cells'.toList.take (j * k + k) = cells.toList.take (j * k) ++ (a.eval o).cells.toList := by
      rw [← hjk, htk, hjk]
      simp only [wr, List.toList_toArray]
      rw [List.take_append_of_le_length (by simp [hlen]; omega), List.take_of_length_le (by simp [hlen]; omega)]
    refine ⟨cells', ?_, hsz'.trans hw1, ?_, ?_⟩
    · have hne : ¬ ((a.eval o).cells.size ≠ k ∨ j * k + (a.eval o).cells.size > cells.size) := by rw [hlen]; omega
      simp only [List.map_cons, Instr.fill]
      have e1 : ((a.eval o).cells.size != k || decide (j * k + (a.eval o).cells.size > cells.size)) = false := by
        rw [hlen]; simp; omega
      rw [if_neg (by simpa using hne)]
      rw [← hf]
      congr 1
      rw [← hfold]
      rw [← Array.foldl_toList, Array.toList_zipIdx]
    · have := congrArg (List.take (j * k)) htk1
      rw [List.take_take, Nat.min_eq_left (by omega), List.take_append_of_le_length (by simp; omega), List.take_take, Nat.min_self] at this
      exact this
    · simp only [RepE]
      have hd : cells'.toList.drop (j * k) = (a.eval o).cells.toList ++ cells'.toList.drop ((j + 1) * k) := by
        have e1 := List.take_append_drop (j * k + k) cells'.toList
        rw [htk1, List.append_assoc] at e1
        have e2 := congrArg (List.drop (j * k)) e1
        rw [List.drop_append_of_le_length (by simp; omega), List.drop_of_length_le (by simp; omega), List.nil_append] at e2
        rw [← e2, hjk]
      rw [hd]
      refine ⟨by simp [hlen], ?_, ?_⟩
      · rw [List.take_append_of_le_length (by simp [hlen]), List.take_of_length_le (by simp [hlen])]
        exact hr.2
      · rw [List.drop_append_of_le_length (by simp [hlen]), List.drop_of_length_le (by simp [hlen]), List.nil_append]
        exact hE
  | _, [], _ :: _, _, h, _ => h.elim
  | _, _ :: _, [], _, h, _ => h.elim

theorem PartsOv.length {k : Nat} : ∀ {i : Nat} {ps : List (Nat × Operand)} {es : List AV}, PartsOv L k i ps es → ps.length = es.length
  | _, [], [], _ => rfl
  | _, (_, _) :: ps, _ :: es, h => by simp [PartsOv.length h.2.2.2.2]
  | _, [], _ :: _, h => h.elim
  | _, _ :: _, [], h => h.elim

theorem run_buildSlice {a : Act} {w : World} (hs : St x L M a w) {T E k bytes n : Nat} {z : Value} {ps : List (Nat × Operand)} {es : List AV} (hT : x.P.underlying T = some (.slice E)) (hE : Ty x.P E k bytes z) (hp : PartsOv L k 0 ps es) (hn : n = es.length) (hb : n * k ≤ 16777216) :
    ∃ cells, (execOp a.eval ⟨none, .buildSlice T n ps.toArray, ty, "", #[], none⟩).run x.P w = .ok (.value (.slice (some ⟨w.heap.size, 0, none⟩) n n)) (w.alloc (.cells cells E)) ∧ cells.size = n * k ∧ RepE w (bl M ++ x.F) k es cells.toList := by
  have key : ∀ zc : Array Value, ∃ cells', Instr.fill (fun i => some (i * k, k)) ((Array.range (n * k)).map (zc[· % zc.size]!)) (ps.toArray.map fun p => (p.1, a.eval p.2)).toList = some cells' ∧ cells'.size = n * k ∧ RepE w (bl M ++ x.F) k es cells'.toList := by
    intro zc
    obtain ⟨cells', hf, hsz, _, hrE⟩ := RepE.of_parts hs (cells := (Array.range (n * k)).map (zc[· % zc.size]!)) hp (by simp [hn])
    exact ⟨cells', by rw [← hf]; congr 1; simp, by simpa using hsz, by simpa using hrE⟩
  by_cases h0 : n * k = 0
  · obtain ⟨cells', hf, hsz, hrE⟩ := key #[]
    refine ⟨cells', ?_, hsz, hrE⟩
    simp only [execOp, Instr.buildSlice, Sem.run_bind, run_underlying hT, Result.andThen_ok, hE.size, if_neg (show ¬ n * k > 2 ^ 24 by omega), Sem.run_pure, if_pos h0]
    rw [hf]
    simp [newRow]
  · obtain ⟨cells', hf, hsz, hrE⟩ := key z.cells
    refine ⟨cells', ?_, hsz, hrE⟩
    simp only [execOp, Instr.buildSlice, Sem.run_bind, run_underlying hT, Result.andThen_ok, hE.size, hE.zero, if_neg (show ¬ n * k > 2 ^ 24 by omega), Sem.run_pure, if_neg h0]
    rw [hf]
    simp [newRow]

/-- A row that nothing will write. -/
theorem W.bs {d : Tmp} {T E k bytes n : Nat} {z : Value} {ps : List (Nat × Operand)} {es : List AV} (hT : x.P.underlying T = some (.slice E)) (hE : Ty x.P E k bytes z) (hp : PartsOv L k 0 ps es) (hn : n = es.length) (hb : n * k ≤ 16777216) (hk1 : Nat.ble 1 k = true) (hd : Nat.blt d x.n = true)
    (next : W x ((d, true, .sl k es) :: L) M (wpList x.P ops Q rest)) : W x L M (wpList x.P ops Q (⟨some d, .buildSlice T n ps.toArray, ty, pos, aft, none⟩ :: rest)) := by
  refine W.opv (ι := Unit) (fun _ => M) (fun _ => .sl k es) hd ?_ (fun _ => next)
  intro a w hs
  obtain ⟨cells, hr, hsz, hrE⟩ := run_buildSlice (ty := ty) hs hT hE hp hn hb
  obtain ⟨hs', hk, hnew⟩ := hs.allocI (.cells cells E)
  refine ⟨_, _, (), hr, hs', ?_⟩
  rw [hn]
  refine Rep.slI (Nat.le_refl _) ?_ (.inr ⟨w.heap.size, 0, cells, E, (0, 0), rfl, hnew, alloc_new _ _, RepE.keep hk _ _ _ (by simpa using hrE)⟩)
  have : es.length ≤ n * k := by rw [hn]; exact Nat.le_mul_of_pos_right _ (Nat.le_of_ble_eq_true hk1)
  simp only [maxLen]; omega
/-- A row of the call's own. -/
theorem W.bso {d : Tmp} {T E k bytes n : Nat} {z : Value} {ps : List (Nat × Operand)} {es : List AV} (hT : x.P.underlying T = some (.slice E)) (hE : Ty x.P E k bytes z) (hp : PartsOv L k 0 ps es) (hn : n = es.length) (hb : n * k ≤ 16777216) (hk1 : Nat.ble 1 k = true) (hd : Nat.blt d x.n = true)
    (next : ∀ v, W x ((d, true, .lit v) :: L) (.arr v E k es :: M) (wpList x.P ops Q rest)) : W x L M (wpList x.P ops Q (⟨some d, .buildSlice T n ps.toArray, ty, pos, aft, none⟩ :: rest)) := by
  refine W.opv (ι := Value) (fun v => .arr v E k es :: M) (fun v => .lit v) hd ?_ next
  intro a w hs
  obtain ⟨cells, hr, hsz, hrE⟩ := run_buildSlice (ty := ty) hs hT hE hp hn hb
  refine ⟨_, _, .slice (some ⟨w.heap.size, 0, none⟩) n n, hr, ?_, Rep.lit _⟩
  refine hs.alloc _ _ rfl ?_
  intro N hN
  have hle : es.length ≤ n * k := by rw [hn]; exact Nat.le_mul_of_pos_right _ (Nat.le_of_ble_eq_true hk1)
  refine ⟨some ⟨w.heap.size, 0, none⟩, n, by rw [hn], by omega, by simp only [maxLen]; omega, .inr ⟨w.heap.size, 0, cells, 0, 0, rfl, alloc_new _ _, by omega, .inl (Nat.le_refl _), ?_⟩⟩
  refine RepE.keep ?_ _ _ _ (by simpa using hrE)
  intro b c T fr hn hc
  refine ⟨fun h => ?_, by rw [alloc_old _ _ (heap_lt hc)]; exact hc⟩
  rcases (hN b).1 h with h | h
  · have := heap_lt hc; omega
  · exact hn h
end mem
end Go.Vl
