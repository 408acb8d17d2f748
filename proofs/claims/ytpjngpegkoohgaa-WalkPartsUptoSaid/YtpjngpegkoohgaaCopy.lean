/-
  Parts of the call's own rows, as slices: what is copied into them, appended behind a part, cleared; slices that do not overlap.
-/
import Derived.Test.YtpjngpegkoohgaaBld
import Derived.Lib.Overlaps
import Derived.Laws.Externs
set_option linter.unusedVariables false
set_option linter.unusedSimpArgs false
set_option linter.unusedSectionVars false
namespace Go.Vl
open Go Go.Sem
theorem blk_apart : ∀ {M : List ME} {i j b : Nat} {m m' : ME}, (bl M).Nodup → M[i]? = some m → M[j]? = some m' → i ≠ j → b ∈ m.blks → b ∈ m'.blks → False
  | [], i, j, b, m, m', _, h, _, _, _, _ => by simp at h
  | n :: M, i, j, b, m, m', hnd, hi, hj, hne, hb, hb' => by
    have e : bl (n :: M) = n.blks ++ bl M := by simp [bl]
    rw [e, List.nodup_append] at hnd
    have hin : ∀ {q : Nat} {r : ME}, M[q]? = some r → b ∈ r.blks → b ∈ bl M := fun hq hr => by
      simp only [bl, List.mem_flatMap]
      exact ⟨_, List.mem_of_getElem? hq, hr⟩
    cases i with
    | zero =>
      cases j with
      | zero => exact hne rfl
      | succ j =>
        simp only [List.getElem?_cons_zero, Option.some.injEq] at hi
        rw [List.getElem?_cons_succ] at hj
        subst hi
        exact hnd.2.2 b hb b (hin hj hb') rfl
    | succ i =>
      rw [List.getElem?_cons_succ] at hi
      cases j with
      | zero =>
        simp only [List.getElem?_cons_zero, Option.some.injEq] at hj
        subst hj
        exact hnd.2.2 b hb' b (hin hi hb) rfl
      | succ j =>
        rw [List.getElem?_cons_succ] at hj
        exact blk_apart hnd.2.1 hi hj (fun h => hne (by rw [h])) hb hb'
section view
variable {x : Cx} {L : List (Tmp × Bool × AV)} {M : List ME} {ops : Array Oper} {Q : Exit → Act → World → Prop} {rest : List Oper} {ty : TypeId} {pos : String} {aft : Array Edge}
/-- a source of sn elements, of which the first are xs -/
def SrcN (P : Program) (w : World) (N : List Nat) (k : Nat) (v : Value) (sn : Nat) (xs : List AV) : Prop :=
  (Builtin.lenOf v).run P w = .ok sn w ∧ xs.length ≤ sn ∧ ∃ news : Array Value, news.size = xs.length * k ∧ RepE w N k xs news.toList ∧ (∀ u ∈ news.toList, shV u = 0) ∧
    ∀ w' : World, w'.heap = w.heap → (Builtin.firstCells k xs.length v).run P w' = .ok news w'
theorem Src.toN {P : Program} {w : World} {N : List Nat} {k sn cap cap' : Nat} {ad : Option Addr} {xs : List AV} (h : Src P w N k (.slice ad xs.length cap) xs) (hs : xs.length ≤ sn) : SrcN P w N k (.slice ad sn cap') sn xs := by
  obtain ⟨_, news, h2, h3, h4, h5⟩ := h
  refine ⟨by simp [Builtin.lenOf], hs, news, h2, h3, h4, fun w' hw => ?_⟩
  have := h5 w' hw
  cases ad <;> simpa only [Builtin.firstCells] using this
theorem SrcN.to {P : Program} {w : World} {N : List Nat} {k : Nat} {v : Value} {xs : List AV} (h : SrcN P w N k v xs.length xs) : Src P w N k v xs := ⟨h.1, h.2.2⟩
/-- an operand that copy may take its elements from -/
def VwOv (x : Cx) (L : List (Tmp × Bool × AV)) (M : List ME) (o : Operand) (k sn : Nat) (xs : List AV) : Prop := ∀ a w, St x L M a w → SrcN x.P w (bl M ++ x.F) k (a.eval o) sn xs
/-- elements of an own row -/
theorem VwOv.own (i : Nat) {o : Operand} {g off n cap p sn c U k : Nat} {ad : Option Addr} {es xs : List AV} (h : Ov true L o (.lit (.slice ad sn c))) (ha : xs = [] ∨ ad = some ⟨g, off + p * k, none⟩) (hM : M[i]? = some (ME.arr (.slice (some ⟨g, off, none⟩) n cap) U k es)) (hx : xs = (es.drop p).take xs.length) (hp : p ≤ es.length) (hq : xs.length ≤ sn) (ho : ∀ e ∈ xs, e.okc = true) : VwOv x L M o k sn xs := by
  intro a w hs
  rw [h.lit rfl hs]
  refine Src.toN (cap := c) ?_ hq
  refine src_cells rfl ho ?_
  obtain ⟨ad, cp, e, h1, h2, h3⟩ := hs.mem.holds _ (List.mem_of_getElem? hM)
  cases e
  rcases h3 with ⟨h3, _⟩ | ⟨g', off', cur, lo, hi, h4, h5, _, _, h6⟩
  · cases h3
  · cases h4
    rcases ha with ha | ha
    · exact .inl ha
    refine .inr ⟨g, _, cur, U, (lo, hi), ha, h5, ?_⟩
    rw [hx, ← List.drop_drop]
    exact (h6.drop p hp).take _
/-- the elements of a box, seen as a row of one -/
theorem VwOv.box (i : Nat) {o : Operand} {b c U k : Nat} {cs : List AV} {e : AV} (h : Ov true L o (.lit (.slice (some ⟨b, 0, none⟩) 1 c))) (hM : M[i]? = some (ME.box b U cs)) (hk : cs.length = k) (he : e.cells = cs) (ho : e.okc = true) : VwOv x L M o k 1 [e] := by
  intro a w hs
  rw [h.lit rfl hs]
  refine Src.toN (cap := c) ?_ (by simp)
  refine src_cells rfl (by simpa using ho) (.inr ?_)
  obtain ⟨cur, h1, h2⟩ := hs.mem.holds _ (List.mem_of_getElem? hM)
  refine ⟨b, 0, cur, U, _, rfl, h1, ?_⟩
  have hl := h2.length
  rw [List.drop_zero]
  refine ⟨by omega, RepC.ofL ho ?_, trivial⟩
  rw [List.take_of_length_le (by omega), he]
  exact h2
theorem VwOv.src {o : Operand} {k : Nat} {xs : List AV} (h : SrcOv x L M o k xs) : VwOv x L M o k xs.length xs := fun a w hs => by
  have h1 := h.src hs
  exact ⟨h1.1, Nat.le_refl _, h1.2⟩

theorem run_copy {P : Program} {w : World} {T T' E k bytes : Nat} {z : Value} {g p dn dc lo hi sn : Nat} {cur : Array Value} {U : TypeId} {xv : Value} {N : List Nat} {xs : List AV} (hT : P.underlying T = some (.slice E)) (hE : Ty P E k bytes z)
    (hc : w.heap[g]? = some (.cells cur U (lo, hi))) (hsz : p + xs.length * k ≤ cur.size) (hfr : hi ≤ lo ∨ p + xs.length * k ≤ lo) (hx : SrcN P w N k xv sn xs) (hq : xs.length = Nat.min sn dn) :
    ∃ news : Array Value, news.size = xs.length * k ∧ RepE w N k xs news.toList ∧ (Builtin.copy_ #[T, T'] ty #[.slice (some ⟨g, p, none⟩) dn dc, xv]).run P w =
      .ok (.int .i64 (xs.length : Int)) { w with heap := w.heap.setIfInBounds g (.cells (wr cur p news.toList) U (lo, hi)) } := by
  obtain ⟨hlen, _, news, hn1, hn2, hn3, hn4⟩ := hx
  have hf := hn4 w rfl
  have hst := run_storeCells (P := P) (g := g) (off := p) (T := U) (lo := lo) (hi := hi) news.toList 0 cur w hc (by simp; omega) (by simp; omega) hn3
  refine ⟨news, hn1, hn2, ?_⟩
  rw [Nat.add_zero] at hst
  rw [hq] at hf
  simp only [Builtin.copy_, List.getElem?_toArray, List.getElem?_cons_zero, List.getElem?_cons_succ, Sem.run_bind, run_underlying hT, Result.andThen_ok, hE.size, hlen, hf, hst, Sem.run_pure, goInt, hq]

/-- what a row holds after a write of elements -/
theorem RepE.over {w : World} {N : List Nat} {k j off : Nat} {es xs : List AV} {cur nl : List Value} (h : RepE w N k es (cur.drop off)) (hx : RepE w N k xs nl) (hn : nl.length = xs.length * k) (hj : j ≤ es.length) (hoff : off ≤ cur.length) :
    RepE w N k (es.take j ++ xs ++ es.drop (j + xs.length)) ((cur.take (off + j * k) ++ nl ++ cur.drop (off + j * k + nl.length)).drop off) := by
  have hlen := h.len
  have hjk : j * k ≤ es.length * k := Nat.mul_le_mul_right _ hj
  rw [List.length_drop] at hlen
  have e1 : (cur.take (off + j * k) ++ nl ++ cur.drop (off + j * k + nl.length)).drop off = (cur.drop off).take (j * k) ++ (nl ++ (cur.drop off).drop (j * k + nl.length)) := by
    rw [List.append_assoc, List.drop_append_of_le_length (by rw [List.length_take]; omega), List.drop_take, Nat.add_sub_cancel_left, List.drop_drop, Nat.add_assoc]
  rw [e1]
  have hS : (cur.drop off).length = cur.length - off := List.length_drop ..
  generalize cur.drop off = S at h hS
  have htl : (S.take (j * k)).length = j * k := by rw [List.length_take]; omega
  have hjl : (es.take j).length = j := by rw [List.length_take]; omega
  rw [List.append_assoc]
  refine RepE.append (RepE.congr (h.take j) ?_) ?_
  · rw [hjl, List.take_append_of_le_length (by omega), List.take_take, Nat.min_self]
  · rw [hjl, List.drop_append_of_le_length (by omega), List.drop_of_length_le (l := S.take (j * k)) (by omega), List.nil_append]
    refine RepE.append (RepE.congr hx (by rw [List.take_append_of_le_length (by omega)])) ?_
    rw [List.drop_append_of_le_length (by omega), List.drop_of_length_le (l := nl) (by omega), List.nil_append, hn, ← Nat.add_mul]
    by_cases hle : j + xs.length ≤ es.length
    · exact h.drop _ hle
    · rw [List.drop_of_length_le (by omega)]; simp [RepE]

theorem W.copy (i : Nat) {d : Tmp} {T T' E k bytes : Nat} {z : Value} {o1 o2 : Operand} {g off n cap j dn dc sn U : Nat} {es xs : List AV} (h1 : Ov true L o1 (.lit (.slice (some ⟨g, off + j * k, none⟩) dn dc))) (hM : M[i]? = some (ME.arr (.slice (some ⟨g, off, none⟩) n cap) U k es)) (h2 : VwOv x L M o2 k sn xs)
    (hT : x.P.underlying T = some (.slice E)) (hE : Ty x.P E k bytes z) (hq : xs.length = Nat.min sn dn) (hj : j ≤ es.length) (hc : j + xs.length ≤ cap) {n' : Nat} {es' : List AV} (he' : es' = es.take j ++ xs ++ es.drop (j + xs.length)) (hn' : n' = es'.length) (hd : Nat.blt d x.n = true)
    (next : W x ((d, true, .lit (.int .i64 (xs.length : Int))) :: L) (M.set i (ME.arr (.slice (some ⟨g, off, none⟩) n' cap) U k es')) (wpList x.P ops Q rest)) :
    W x L M (wpList x.P ops Q (⟨some d, .call ⟨.builtin .copy, #[o1, o2], #[T, T']⟩, ty, pos, aft, none⟩ :: rest)) := by
  subst he'
  refine W.opv (ι := Unit) (fun _ => M.set i (ME.arr (.slice (some ⟨g, off, none⟩) n' cap) U k (es.take j ++ xs ++ es.drop (j + xs.length)))) (fun _ => .lit (.int .i64 (xs.length : Int))) hd ?_ (fun _ => next)
  intro a w hs
  have hsrc := h2 a w hs
  have e1 := h1.lit rfl hs
  obtain ⟨ad, cp, e, hlc, hcm, hcase⟩ := hs.mem.holds _ (List.mem_of_getElem? hM)
  cases e
  rcases hcase with ⟨h3, _⟩ | ⟨g', off', cur, lo, hi, h4, hcur, hsz, hfr, hrE⟩
  · cases h3
  cases h4
  have hmul : (j + xs.length) * k ≤ cap * k := Nat.mul_le_mul_right _ hc
  rw [Nat.add_mul] at hmul
  obtain ⟨news, hn1, hn2, hrun⟩ := run_copy (ty := ty) (T' := T') (dc := dc) hT hE hcur (p := off + j * k) (by omega) (by omega) hsrc hq
  have hlt : (es.take j ++ xs ++ es.drop (j + xs.length)).length ≤ cap := by simp only [List.length_append, List.length_take, List.length_drop]; omega
  refine ⟨.int .i64 (xs.length : Int), { w with heap := w.heap.setIfInBounds g (.cells (wr cur (off + j * k) news.toList) U (lo, hi)) }, (), ?_, ?_, Rep.lit _⟩
  · simp only [execOp, resolve, invoke, builtin, Sem.run_bind, Sem.run_pure, Result.andThen_ok, List.map_toArray, List.map_cons, List.map_nil, e1, hrun]
  · refine hs.write hM rfl rfl ?_
    intro w' hother hnew hk'
    have hnl : news.toList.length = xs.length * k := by simpa using hn1
    refine ⟨some ⟨g, off, none⟩, cap, by rw [hn'], hlt, hcm, .inr ⟨g, off, _, lo, hi, rfl, hnew, ?_, hfr, ?_⟩⟩
    · rw [wr_size _ _ _ (by omega)]; exact hsz
    · simp only [wr, List.toList_toArray]
      exact RepE.over (RepE.keep hk' _ _ _ hrE) (RepE.keep hk' _ _ _ hn2) hnl hj (by simp; omega)

/-- elements appended behind a part of an own row, where it stands -/
theorem W.appv (i : Nat) {d : Tmp} {T T' E k bytes : Nat} {z : Value} {o1 o2 : Operand} {g off n cap p U : Nat} {es xs : List AV} (h1 : Ov true L o1 (.lit (.slice (some ⟨g, off, none⟩) p cap))) (hM : M[i]? = some (ME.arr (.slice (some ⟨g, off, none⟩) n cap) U k es)) (h2 : VwOv x L M o2 k xs.length xs)
    (hT : x.P.underlying T = some (.slice E)) (hT' : NotInt x.P T') (hE : Ty x.P E k bytes z) (hp : p ≤ es.length) (hc : p + xs.length ≤ cap) {n' : Nat} {es' : List AV} (he' : es' = es.take p ++ xs) (hn' : n' = p + xs.length) (hd : Nat.blt d x.n = true)
    (next : W x ((d, true, .lit (.slice (some ⟨g, off, none⟩) n' cap)) :: L) (M.set i (ME.arr (.slice (some ⟨g, off, none⟩) n' cap) U k es')) (wpList x.P ops Q rest)) :
    W x L M (wpList x.P ops Q (⟨some d, .call ⟨.builtin .append, #[o1, o2], #[T, T']⟩, ty, pos, aft, none⟩ :: rest)) := by
  subst hn'; subst he'
  refine W.opv (ι := Unit) (fun _ => M.set i (ME.arr (.slice (some ⟨g, off, none⟩) (p + xs.length) cap) U k (es.take p ++ xs))) (fun _ => .lit (.slice (some ⟨g, off, none⟩) (p + xs.length) cap)) hd ?_ (fun _ => next)
  intro a w hs
  have hsrc := (h2 a w hs).to
  have e1 := h1.lit rfl hs
  obtain ⟨ad, cp, e, hlc, hcm, hcase⟩ := hs.mem.holds _ (List.mem_of_getElem? hM)
  cases e
  rcases hcase with ⟨h3, _⟩ | ⟨g', off', cur, lo, hi, h4, hcur, hsz, hfr, hrE⟩
  · cases h3
  cases h4
  obtain ⟨news, hn1, hn2, hrun⟩ := run_append_in (ty := ty) (n := p) hT hT' hE hcur hsz hfr hsrc hc
  refine ⟨.slice (some ⟨g, off, none⟩) (p + xs.length) cap, { w with heap := w.heap.setIfInBounds g (.cells (wr cur (off + p * k) news.toList) U (lo, hi)) }, (), ?_, ?_, Rep.lit _⟩
  · simp only [execOp, resolve, invoke, builtin, Sem.run_bind, Sem.run_pure, Result.andThen_ok, List.map_toArray, List.map_cons, List.map_nil, e1, hrun]
  · refine hs.write hM rfl rfl ?_
    intro w' hother hnew hk'
    have hnl : news.toList.length = xs.length * k := by simpa using hn1
    have hmul : (p + xs.length) * k ≤ cap * k := Nat.mul_le_mul_right _ hc
    rw [Nat.add_mul] at hmul
    have hpl : (es.take p).length = p := by rw [List.length_take]; omega
    refine ⟨some ⟨g, off, none⟩, cap, by rw [List.length_append, hpl], by rw [List.length_append, hpl]; exact hc, hcm, .inr ⟨g, off, _, lo, hi, rfl, hnew, ?_, hfr, ?_⟩⟩
    · rw [wr_size _ _ _ (by omega)]; exact hsz
    · have hover := RepE.over (RepE.keep hk' _ _ _ hrE) (RepE.keep hk' _ _ _ hn2) hnl hp (by simp; omega)
      simp only [wr, List.toList_toArray]
      have := hover.take (p + xs.length)
      rwa [List.append_assoc, List.take_append, List.take_append, hpl, List.take_of_length_le (by rw [hpl]; omega), Nat.add_sub_cancel_left, List.take_of_length_le (Nat.le_refl _), Nat.sub_self, List.take_zero, List.append_nil] at this

/-- a part of an own row: the bounds may reach up to the capacity -/
theorem run_boundsC {g : Bool} {len cap : Nat} {lo hi : Option Operand} {l h : Int} {a : Act} {w : World} (hst : St x L M a w) (hg : g = true) (hlo : BndOv g L 0 lo l) (hhi : BndOv g L len hi h) (h0 : 0 ≤ l) (h1 : l ≤ h) (h2 : h ≤ cap) :
    (Instr.sliceBounds true len cap (lo.map a.eval) (hi.map a.eval) none).run x.P w = .ok (l.toNat, h.toNat, cap) w := by
  have hb : ∀ (n : Int) (y : Nat) c, 0 ≤ n → n ≤ y → (Instr.sliceBound (.int .i64 n) y c).run x.P w = .ok n.toNat w := fun n y c hn hy => by
    simp [Instr.sliceBound, asIntOf, hn, hy]
  unfold Instr.sliceBounds
  cases lo with
  | none =>
    simp only [BndOv] at hlo
    subst hlo
    cases hi with
    | none =>
      simp only [BndOv] at hhi
      subst hhi
      simp
    | some o =>
      have e := hhi.lit hg hst
      simp only [Option.map_none, Option.map_some, e, Sem.run_bind, Sem.run_pure, Result.andThen_ok]
      rw [hb _ _ _ (by omega) (by omega)]
      simp
  | some o' =>
    have e' := hlo.lit hg hst
    cases hi with
    | none =>
      simp only [BndOv] at hhi
      subst hhi
      simp only [Option.map_none, Option.map_some, e', Sem.run_bind, Sem.run_pure, Result.andThen_ok]
      rw [hb _ _ _ (by omega) (by omega)]
      simp
    | some o =>
      have e := hhi.lit hg hst
      simp only [Option.map_some, e, e', Sem.run_bind, Sem.run_pure, Result.andThen_ok]
      rw [hb _ _ _ (by omega) (by omega)]
      simp only [Result.andThen_ok]
      rw [hb _ _ _ (by omega) (by omega)]
      simp
/-- a slice expression at a slice that is known -/
theorem Ev.slit {g : Bool} {T E k bytes : Nat} {z : Value} {o1 : Operand} {lo hi : Option Operand} {i j : Int} {ad : Option Addr} {n cap : Nat} {v : Value} (h1 : Ov g L o1 (.lit (.slice ad n cap))) (hT : x.P.underlying T = some (.slice E)) (hE : Ty x.P E k bytes z) (hlo : BndOv g L 0 lo i) (hhi : BndOv g L (n : Int) hi j)
    (hb : g = true → 0 ≤ i ∧ i ≤ j ∧ j ≤ cap) (hv : v = .slice (if cap = i.toNat then ad else ad.map (·.add (i.toNat * k))) (j.toNat - i.toNat) (cap - i.toNat)) : Ev x g L M (.slice T o1 lo hi none) ty (.lit v) := Ev.pure fun a w hs hg => by
  obtain ⟨b1, b2, b3⟩ := hb hg
  have hr := run_boundsC (len := n) (cap := cap) hs hg hlo hhi b1 b2 b3
  subst hv
  simp only [execOp, h1.lit hg hs, Option.map_none, Instr.sliceAt, Instr.slice, Sem.run_bind, run_underlying hT, Result.andThen_ok, hr, hE.size, Sem.run_pure]
/-- s[p:j] -/
theorem Ev.slitp {g : Bool} {T E k bytes : Nat} {z : Value} {o1 : Operand} {lo hi : Option Operand} {i j : Int} {b off n cap p q : Nat} (h1 : Ov g L o1 (.lit (.slice (some ⟨b, off, none⟩) n cap))) (hT : x.P.underlying T = some (.slice E)) (hE : Ty x.P E k bytes z) (hlo : BndOv g L 0 lo i) (hhi : BndOv g L (n : Int) hi j)
    (hi' : i = (p : Int)) (hj : j = (q : Int)) (hb : p < cap ∧ p ≤ q ∧ q ≤ cap) : Ev x g L M (.slice T o1 lo hi none) ty (.lit (.slice (some ⟨b, off + p * k, none⟩) (q - p) (cap - p))) := by
  subst hi'; subst hj
  refine Ev.slit h1 hT hE hlo hhi (fun _ => by omega) ?_
  rw [if_neg (by simp; omega)]
  simp [Addr.add_lit]
/-- s[:q] -/
theorem Ev.slit0 {g : Bool} {T E k bytes : Nat} {z : Value} {o1 : Operand} {hi : Option Operand} {j : Int} {b off n cap q : Nat} (h1 : Ov g L o1 (.lit (.slice (some ⟨b, off, none⟩) n cap))) (hT : x.P.underlying T = some (.slice E)) (hE : Ty x.P E k bytes z) (hhi : BndOv g L (n : Int) hi j)
    (hj : j = (q : Int)) (hb : q ≤ cap) : Ev x g L M (.slice T o1 none hi none) ty (.lit (.slice (some ⟨b, off, none⟩) q cap)) := by
  subst hj
  refine Ev.slit (i := 0) h1 hT hE rfl hhi (fun _ => by omega) ?_
  simp [Addr.add_lit]
/-- a slice expression of three bounds, which only asks -/
theorem Ev.slit3 {g : Bool} {T E k bytes : Nat} {z : Value} {o1 o2 o3 o4 : Operand} {i j m : Int} {ad : Option Addr} {n cap : Nat} (h1 : Ov g L o1 (.lit (.slice ad n cap))) (hT : x.P.underlying T = some (.slice E)) (hE : Ty x.P E k bytes z) (h2 : Ov g L o2 (.lit (.int .i64 i))) (h3 : Ov g L o3 (.lit (.int .i64 j))) (h4 : Ov g L o4 (.lit (.int .i64 m)))
    (hb : g = true → 0 ≤ i ∧ i ≤ j ∧ j ≤ m ∧ m ≤ cap) : Ev x g L M (.slice T o1 (some o2) (some o3) (some o4)) ty (.lit (.slice (if m.toNat = i.toNat then ad else ad.map (·.add (i.toNat * k))) (j.toNat - i.toNat) (m.toNat - i.toNat))) := Ev.pure fun a w hs hg => by
  obtain ⟨b1, b2, b3, b4⟩ := hb hg
  have hbd : ∀ (n : Int) (y : Nat) c, 0 ≤ n → n ≤ y → (Instr.sliceBound (.int .i64 n) y c).run x.P w = .ok n.toNat w := fun n y c hn hy => by
    simp [Instr.sliceBound, asIntOf, hn, hy]
  simp only [execOp, h1.lit hg hs, h2.lit hg hs, h3.lit hg hs, h4.lit hg hs, Option.map_some, Instr.sliceAt, Instr.slice, Instr.sliceBounds, Sem.run_bind, run_underlying hT, Result.andThen_ok, hE.size, Sem.run_pure]
  rw [hbd _ _ _ (by omega) (by omega)]
  simp only [Result.andThen_ok]
  rw [hbd _ _ _ (by omega) (by omega)]
  simp only [Result.andThen_ok]
  rw [hbd _ _ _ (by omega) (by omega)]
  simp only [Result.andThen_ok, hE.size, Sem.run_pure]
theorem Ev.capl {g : Bool} {T E : Nat} {o1 : Operand} {ad : Option Addr} {n cap : Nat} (h1 : Ov g L o1 (.lit (.slice ad n cap))) (hT : x.P.underlying T = some (.slice E)) : Ev x g L M (.call ⟨.builtin .cap, #[o1], #[T]⟩) ty (.lit (.int .i64 (cap : Int))) := Ev.pure fun a w hs hg => by
  simp [execOp, resolve, invoke, builtin, h1.lit hg hs, Builtin.cap_, run_underlying hT, goInt]
theorem Ev.lenl {g : Bool} {T E : Nat} {o1 : Operand} {ad : Option Addr} {n cap : Nat} (h1 : Ov g L o1 (.lit (.slice ad n cap))) (hT : x.P.underlying T = some (.slice E)) : Ev x g L M (.call ⟨.builtin .len, #[o1], #[T]⟩) ty (.lit (.int .i64 (n : Int))) := Ev.pure fun a w hs hg => by
  simp [execOp, resolve, invoke, builtin, h1.lit hg hs, Builtin.len_, Builtin.lenOf, run_underlying hT, goInt]
/-- where an own row lies, if it has elements -/
theorem W.arr_lit {R : Act → World → Prop} (i : Nat) {v : Value} {U k : Nat} {es : List AV} (hM : M[i]? = some (.arr v U k es)) (hes : 0 < es.length) (h : ∀ g off c, v = .slice (some ⟨g, off, none⟩) es.length c → es.length ≤ c → c ≤ maxLen → W x L M R) : W x L M R := fun a w hs => by
  obtain ⟨ad, cap, e, h1, h2, h3⟩ := hs.mem.holds _ (List.mem_of_getElem? hM)
  rcases h3 with ⟨_, h3⟩ | ⟨g, off, cur, lo, hi, rfl, _⟩
  · omega
  · exact h _ _ _ e h1 h2 a w hs
/-- an operation whose value nobody keeps -/
theorem W.opn {ι : Type} {op : Op} (Mf : ι → List ME)
    (step : ∀ a w, St x L M a w → ∃ w' v z, (execOp a.eval ⟨none, op, ty, "", #[], none⟩).run x.P w = .ok (.value v) w' ∧ St x L (Mf z) a w')
    (next : ∀ z, W x L (Mf z) (wpList x.P ops Q rest)) : W x L M (wpList x.P ops Q (⟨none, op, ty, pos, aft, none⟩ :: rest)) := by
  intro a w hs
  obtain ⟨w', v, z, hr, hs'⟩ := step a w hs
  refine wpList_cons_want (by simp [Region.wanted]) ?_
  unfold Oper.wp
  rw [execOp_bare, hr]
  exact next z _ _ hs'
/-- what lies behind the elements is cleared -/
theorem W.clear (i : Nat) {T E k bytes : Nat} {z : Value} {o1 : Operand} {g off n cap j m c U : Nat} {es : List AV} (h1 : Ov true L o1 (.lit (.slice (some ⟨g, off + j * k, none⟩) m c))) (hM : M[i]? = some (ME.arr (.slice (some ⟨g, off, none⟩) n cap) U k es))
    (hT : x.P.underlying T = some (.slice E)) (hE : Ty x.P E k bytes z) (hzk : z.cells.size = k) (hz : z.cells.toList.all (fun v => shV v == 0) = true) (hj : es.length ≤ j) (hc : j + m ≤ cap)
    (next : W x L M (wpList x.P ops Q rest)) :
    W x L M (wpList x.P ops Q (⟨none, .call ⟨.builtin .clear, #[o1], #[T]⟩, ty, pos, aft, none⟩ :: rest)) := by
  have hset := set_self hM
  rw [← hset] at next
  refine W.opn (ι := Unit) (fun _ => M.set i (ME.arr (.slice (some ⟨g, off, none⟩) n cap) U k es)) ?_ (fun _ => next)
  intro a w hs
  have e1 := h1.lit rfl hs
  obtain ⟨ad, cp, e, hlc, hcm, hcase⟩ := hs.mem.holds _ (List.mem_of_getElem? hM)
  cases e
  rcases hcase with ⟨h3, _⟩ | ⟨g', off', cur, lo, hi, h4, hcur, hsz, hfr, hrE⟩
  · cases h3
  cases h4
  by_cases hm : m = 0
  · subst hm
    refine ⟨w, .tuple #[], (), ?_, by rw [hset]; exact hs⟩
    simp [execOp, resolve, invoke, builtin, e1, Builtin.clear_, run_underlying hT]
  · have hzs : (Builtin.zeroCells z.cells m).size = m * k := by simp [Builtin.zeroCells, hzk]
    have hmul : (j + m) * k ≤ cap * k := Nat.mul_le_mul_right _ hc
    rw [Nat.add_mul] at hmul
    have hzl : (Builtin.zeroCells z.cells m).toList.length = m * k := by rw [Array.length_toList]; exact hzs
    have hz0 : ∀ u ∈ (Builtin.zeroCells z.cells m).toList, shV u = 0 := by
      intro u hu
      simp only [Builtin.zeroCells, Array.toList_map, List.mem_map] at hu
      obtain ⟨q, hq, rfl⟩ := hu
      have hq' : q < m * z.cells.size := by simpa using hq
      have hpos : 0 < z.cells.size := by rcases Nat.eq_zero_or_pos z.cells.size with h | h; rw [h] at hq'; omega; exact h
      have hlt : q % z.cells.size < z.cells.size := Nat.mod_lt _ hpos
      rw [List.all_eq_true] at hz
      have := hz (z.cells[q % z.cells.size]!) (by rw [Array.mem_toList_iff, getElem!_pos z.cells _ hlt]; exact Array.getElem_mem hlt)
      simpa using this
    have hst := run_storeCells (P := x.P) (g := g) (off := off + j * k) (T := U) (lo := lo) (hi := hi) (Builtin.zeroCells z.cells m).toList 0 cur w hcur (by omega) (by omega) hz0
    rw [Nat.add_zero] at hst
    refine ⟨{ w with heap := w.heap.setIfInBounds g (.cells (wr cur (off + j * k) (Builtin.zeroCells z.cells m).toList) U (lo, hi)) }, .tuple #[], (), ?_, ?_⟩
    · simp only [execOp, resolve, invoke, builtin, Sem.run_bind, Sem.run_pure, Result.andThen_ok, List.map_toArray, List.map_cons, List.map_nil, e1, Builtin.clear_, List.getElem?_toArray, List.getElem?_cons_zero, run_underlying hT]
      cases m with
      | zero => exact absurd rfl hm
      | succ m => simp only [Sem.run_bind, hE.zero, Result.andThen_ok, hst, Sem.run_pure]
    · refine hs.write hM rfl rfl ?_
      intro w' hother hnew hk'
      have hlen := hrE.len
      have hjm : es.length * k ≤ j * k := Nat.mul_le_mul_right _ hj
      refine ⟨some ⟨g, off, none⟩, cap, rfl, hlc, hcm, .inr ⟨g, off, _, lo, hi, rfl, hnew, ?_, hfr, ?_⟩⟩
      · rw [wr_size _ _ _ (by omega)]; exact hsz
      · refine RepE.congr (RepE.keep hk' _ _ _ hrE) ?_
        have hcl : cur.toList.length = cur.size := Array.length_toList
        simp only [wr, List.toList_toArray]
        rw [List.append_assoc, List.drop_append_of_le_length (by simp; omega), List.drop_take, Nat.add_sub_cancel_left, List.take_append_of_le_length (by simp; omega), List.take_take, Nat.min_eq_left hjm]
/-- the model's entry for slices.overlaps, where the first lies in a box -/
theorem Ev.ovl {g : Bool} {TS TR E k bytes : Nat} {z : Value} {o1 o2 : Operand} {f : FuncId} {fn : Func} {ats : Array TypeId} (i i' : Nat) {b c gb off p sn sc n cap U U' : Nat} {cs es : List AV} (hf : x.P.funcs[f]? = some fn) (hnm : (fn.name == "runtime.NumGoroutine") = false) (hb : fn.body.isNone = true) (hn : Extern.findNext fn = none)
    (he : Extern.find fn = some (Extern.SlicesOverlaps.overlaps #[TS, TS] #[TR])) (hT : x.P.underlying TS = some (.slice E)) (hE : Ty x.P E k bytes z) (h1 : Ov g L o1 (.lit (.slice (some ⟨b, 0, none⟩) 1 c))) (h2 : Ov g L o2 (.lit (.slice (some ⟨gb, p, none⟩) sn sc))) (hM : M[i]? = some (.box b U cs)) (hM' : M[i']? = some (.arr (.slice (some ⟨gb, off, none⟩) n cap) U' k es))
    (hk : 0 < k) (hes : 0 < es.length) (hcs : 0 < cs.length) : Ev x g L M (.call ⟨.value (.func f), #[o1, o2], ats⟩) ty (.lit (.bool false)) := Ev.pure fun a w hs hg => by
  have e1 := h1.lit hg hs
  have e2 := h2.lit hg hs
  have hv : a.eval (.func f) = .func (.func f) #[] #[] := rfl
  obtain ⟨cur, hcur, hrl⟩ := hs.mem.holds _ (List.mem_of_getElem? hM)
  obtain ⟨ad, cp, e, hlc, hcm, hcase⟩ := hs.mem.holds _ (List.mem_of_getElem? hM')
  cases e
  rcases hcase with ⟨h3, _⟩ | ⟨g', off', cur', lo, hi, h4, hcur', hsz, hfr, hrE⟩
  · cases h3
  cases h4
  have hlen := hrE.len
  have hcl := hrl.length
  have hcap : 1 * 1 ≤ cap * k := Nat.mul_le_mul (by omega) hk
  have hne : b ≠ gb := by
    intro h
    subst h
    by_cases hii : i = i'
    · subst hii; rw [hM] at hM'; cases hM'
    · exact blk_apart (b := b) hs.mem.nodup hM hM' hii (by simp [ME.blks]) (by simp [ME.blks])
  have hr : (callFunc f #[.slice (some ⟨b, 0, none⟩) 1 c, .slice (some ⟨gb, p, none⟩) sn sc]).run x.P w = .ok (.value (.bool false)) w := by
    rw [run_callFunc_extern hf hnm hb hn he, Lib.run_overlaps_apart w TS TR E hT k hE.size ⟨b, 0, none⟩ ⟨gb, p, none⟩ 1 c sn sc hne U U' cur.size cur'.size (by simp [World.shape?, hcur]) (by simp [World.shape?, hcur']) (by omega) (by simp [World.frozen?, hcur]) (by simp [World.frozen?, hcur])]
    rfl
  simp only [execOp, resolve, hv, Deferred.ofValue, Sem.run_bind, Sem.run_pure, Result.andThen_ok, invoke, List.map_toArray, List.map_cons, List.map_nil, e1, e2]
  simpa using hr

/-- zeros appended behind a part of an own row, in new memory -/
theorem run_append_zero {P : Program} {w : World} {T T' E k bytes : Nat} {z : Value} {ki : IntKind} {ad : Option Addr} {n cap m : Nat} {N : List Nat} {es : List AV} {e : AV} (hT : P.underlying T = some (.slice E)) (hT' : P.underlying T' = some (.int ki)) (hE : Ty P E k bytes z) (hzk : z.cells.size = k) (hz : z.cells.toList.all (fun v => shV v == 0) = true)
    (he : RepC w N e z.cells.toList) (hs : Src0 P w N k (.slice ad n cap) es) (hn : n = es.length) (hgt : cap < n + m) (hb : (n + m) * bytes ≤ 140737488355328) (hb1 : 1 ≤ bytes) (hk1 : 1 ≤ k) (hm1 : 1 ≤ m) :
    ∃ cells : Array Value, cells.size = grownCap w (n + m) cap E * k ∧ RepE w N k (es ++ List.replicate m e) cells.toList ∧ (Builtin.append_ #[T, T'] ty #[.slice ad n cap, .int .i64 (m : Int)]).run P w =
      .ok (.slice (some ⟨w.heap.size, 0, none⟩) (n + m) (grownCap w (n + m) cap E)) (w.drew.alloc (.cells cells E)) := by
  obtain ⟨_, olds, ho1, ho2, ho4⟩ := hs
  have hfit := growslice_fits hgt hb
  have hnm : n + m ≤ (n + m) * bytes := Nat.le_mul_of_pos_right _ hb1
  have hmb : m * bytes ≤ (n + m) * bytes := Nat.mul_le_mul_right _ (by omega)
  have h63 : n + m ≤ maxLen := by simp only [maxLen]; omega
  obtain ⟨hg1, hg2⟩ := cap_cut w (n + m) cap E h63
  subst hn
  have hzc : ∀ q, (Builtin.zeroCells z.cells q).size = q * k := fun q => by simp [Builtin.zeroCells, hzk]
  refine ⟨olds ++ Builtin.zeroCells z.cells m ++ Builtin.zeroCells z.cells (grownCap w (es.length + m) cap E - (es.length + m)), ?_, ?_, ?_⟩
  · rw [Array.size_append, Array.size_append, ho1, hzc, hzc, ← Nat.add_mul, ← Nat.add_mul]
    congr 1; omega
  · have hol : olds.toList.length = es.length * k := by simpa using ho1
    have hnl : (Builtin.zeroCells z.cells m).toList.length = m * k := by rw [Array.length_toList]; exact hzc m
    refine RepE.append (RepE.congr ho2 ?_) ?_
    · rw [Array.toList_append, Array.toList_append, List.append_assoc, List.take_append_of_le_length (by omega)]
    · rw [Array.toList_append, Array.toList_append, List.append_assoc, List.drop_append_of_le_length (by omega), List.drop_of_length_le (l := olds.toList) (by omega), List.nil_append]
      refine RepE.congr (r := (Builtin.zeroCells z.cells m).toList) ?_ (by rw [List.length_replicate, List.take_append_of_le_length (by omega)])
      refine RepE.rep (zl := z.cells.toList) (by rw [Array.length_toList]; exact hzk) hz he m _ hnl ?_
      intro j hj
      have hlt : j % k < z.cells.size := by rw [hzk]; exact Nat.mod_lt _ hk1
      rw [Array.getElem?_toList, Array.getElem?_toList, Builtin.zeroCells, Array.getElem?_map, hzk, Array.getElem?_range, if_pos hj]
      simp [hlt]
  · have hf1 := ho4 w.drew rfl
    obtain ⟨i, hi1, hi2, hi3, hi4⟩ := hE
    have hle : ¬ (es.length + m ≤ cap) := by omega
    have hw : IntKind.i64.wrap (m : Int) = m := IntWalk.i64_in _ (by simp only [maxLen] at h63; omega)
    have hch' : (Question.appendCap (es.length + m) cap E).cut (w.tape w.drawn (.appendCap (es.length + m) cap E)) = grownCap w (es.length + m) cap E := rfl
    have hdrew : ({ w with drawn := w.drawn + 1 } : World) = w.drew := rfl
    have hneg' : ¬ (9223372036854775807 < ((es.length : Int) + (m : Int))) := by simp only [maxLen] at h63; omega
    have h48' : ¬ (281474976710656 < Builtin.nextslicecap (es.length + m) cap * i.bytes) := by rw [hi3]; omega
    have hm0 : ¬ ((m : Int) < 0) := by omega
    have hmb' : ¬ (281474976710656 < (m : Int) * (i.bytes : Int)) := by
      rw [hi3, show (m : Int) * (bytes : Int) = ((m * bytes : Nat) : Int) from by simp]; omega
    have hmk : ¬ (m * k = 0) := by have : 1 * 1 ≤ m * k := Nat.mul_le_mul hm1 hk1
                                   omega
    simp [Builtin.append_, run_underlying hT, run_underlying hT', sizeOf, typeInfo, hi1, hi2, asInt, asIntOf, hw, hm0, hmb', hmk, hle, hneg', h48', Question.forced, hch', hdrew, hf1, zeroValue, hi4, newRow]
/-- a zero value as an element -/
theorem RepC.zero {w : World} {N : List Nat} {z : Value} {e : AV} (hz : z.cells.toList.all (fun v => shV v == 0) = true) (he : e = match z.cells.toList with | [v] => if shV z == 1 then .agg [.lit v] else .lit v | l => .agg (l.map .lit)) : RepC w N e z.cells.toList := by
  have hL : ∀ l : List Value, l.all (fun v => shV v == 0) = true → RepL w N (l.map .lit) l := by
    intro l
    induction l with
    | nil => intro _; simp [RepL]
    | cons v l ih =>
      intro hz
      simp only [List.all_cons, Bool.and_eq_true, beq_iff_eq] at hz
      simp only [List.map_cons, RepL]
      exact ⟨v, l, rfl, ⟨hz.1, hz.1, by simp only [RepC, cells_of_sh hz.1]⟩, ih hz.2⟩
  subst he
  have := hL _ hz
  revert this hz
  generalize z.cells.toList = l
  intro hz this
  match l with
  | [] => simpa [RepC] using this
  | [v] =>
    simp only [List.all_cons, List.all_nil, Bool.and_true, beq_iff_eq] at hz
    dsimp only
    split
    · simpa only [RepC, List.map_cons, List.map_nil] using this
    · simp only [RepC, cells_of_sh hz]
  | u :: v :: l => simpa only [RepC] using this
theorem W.appz (i : Nat) {d : Tmp} {T T' E k bytes : Nat} {z : Value} {ki : IntKind} {o1 o2 : Operand} {g off n cap p m U : Nat} {es : List AV} {e : AV} (h1 : Ov true L o1 (.lit (.slice (some ⟨g, off, none⟩) p cap))) (hM : M[i]? = some (ME.arr (.slice (some ⟨g, off, none⟩) n cap) U k es)) {mi : Int} (h2 : Ov true L o2 (.lit (.int .i64 mi))) (hmi : mi = (m : Int))
    (hT : x.P.underlying T = some (.slice E)) (hT' : x.P.underlying T' = some (.int ki)) (hE : Ty x.P E k bytes z) (hzk : z.cells.size = k) (hz : z.cells.toList.all (fun v => shV v == 0) = true) (he : e = match z.cells.toList with | [v] => if shV z == 1 then .agg [.lit v] else .lit v | l => .agg (l.map .lit))
    (hb1 : Nat.ble 1 bytes = true) (hk1 : Nat.ble 1 k = true) (hp : p ≤ es.length) (hgt : cap < p + m) (hb : (p + m) * bytes ≤ 140737488355328) (hm1 : 1 ≤ m) {n' : Nat} (hn' : n' = p + m) (hd : Nat.blt d x.n = true)
    (next : ∀ b c : Nat, n' ≤ c → W x ((d, true, .lit (.slice (some ⟨b, 0, none⟩) n' c)) :: L) (ME.arr (.slice (some ⟨b, 0, none⟩) n' c) E k (es.take p ++ List.replicate m e) :: M) (wpList x.P ops Q rest)) :
    W x L M (wpList x.P ops Q (⟨some d, .call ⟨.builtin .append, #[o1, o2], #[T, T']⟩, ty, pos, aft, none⟩ :: rest)) := by
  subst hn'; subst hmi
  refine W.opv (ι := { v : Nat × Nat // p + m ≤ v.2 }) (fun v => ME.arr (.slice (some ⟨v.1.1, 0, none⟩) (p + m) v.1.2) E k (es.take p ++ List.replicate m e) :: M) (fun v => .lit (.slice (some ⟨v.1.1, 0, none⟩) (p + m) v.1.2)) hd ?_ (fun v => next v.1.1 v.1.2 v.2)
  intro a w hs
  have e1 := h1.lit rfl hs
  have e2 := h2.lit rfl hs
  have hb1' := Nat.le_of_ble_eq_true hb1
  obtain ⟨ad, cp, e', hlc, hcm, hcase⟩ := hs.mem.holds _ (List.mem_of_getElem? hM)
  cases e'
  rcases hcase with ⟨h3, _⟩ | ⟨g', off', cur, lo, hi, h4, hcur, hsz, hfr, hrE⟩
  · cases h3
  cases h4
  have hnm : p + m ≤ (p + m) * bytes := Nat.le_mul_of_pos_right _ hb1'
  have h63 : p + m ≤ maxLen := by simp only [maxLen]; omega
  have hpl : p = (es.take p).length := by rw [List.length_take]; omega
  have hold : Src0 x.P w (bl M ++ x.F) k (.slice (some ⟨g, off, none⟩) p cap) (es.take p) := src0_cells hpl (.inr ⟨g, off, cur, U, (lo, hi), rfl, hcur, hrE.take p⟩)
  obtain ⟨cells, hcs, hrE', hrun⟩ := run_append_zero (ty := ty) (m := m) hT hT' hE hzk hz (RepC.zero hz he) hold hpl hgt hb hb1' (Nat.le_of_ble_eq_true hk1) hm1
  obtain ⟨hg1, hg2⟩ := cap_cut w (p + m) cap E h63
  refine ⟨.slice (some ⟨w.heap.size, 0, none⟩) (p + m) (grownCap w (p + m) cap E), w.drew.alloc (.cells cells E), ⟨(w.heap.size, grownCap w (p + m) cap E), hg1⟩, ?_, ?_, Rep.lit _⟩
  · simp only [execOp, resolve, invoke, builtin, Sem.run_bind, Sem.run_pure, Result.andThen_ok, List.map_toArray, List.map_cons, List.map_nil, e1, e2, hrun]
  · have hd1 : St x L M a w.drew := hs.same rfl rfl rfl rfl
    refine hd1.alloc _ _ rfl ?_
    intro N hN
    have hl : (es.take p ++ List.replicate m e).length = p + m := by rw [List.length_append, List.length_replicate, ← hpl]
    refine ⟨some ⟨w.heap.size, 0, none⟩, _, by rw [hl], by rw [hl]; exact hg1, hg2, .inr ⟨w.heap.size, 0, cells, 0, 0, rfl, alloc_new w.drew _, by omega, .inl (Nat.le_refl _), ?_⟩⟩
    refine RepE.keep (w := w) (N := bl M ++ x.F) ?_ _ _ _ (by simpa using hrE')
    intro b c U fr hn hc
    refine ⟨fun h => ?_, by rw [alloc_old w.drew _ (heap_lt (w := w.drew) hc)]; exact hc⟩
    rcases (hN b).1 h with h | h
    · have := heap_lt hc; subst h; exact absurd this (Nat.lt_irrefl _)
    · exact hn h
/-- append onto an own row, of a source that is any -/
theorem W.app' (i : Nat) {d : Tmp} {T T' E k bytes : Nat} {z : Value} {o1 o2 : Operand} {v : Value} {es xs : List AV} (h1 : Ov true L o1 (.lit v)) (hM : M[i]? = some (ME.arr v E k es)) (h2 : VwOv x L M o2 k xs.length xs) (hT : x.P.underlying T = some (.slice E)) (hT' : NotInt x.P T') (hE : Ty x.P E k bytes z) (hzk : z.cells.size = k)
    (hb1 : Nat.ble 1 bytes = true) (hb : (es.length + xs.length) * bytes ≤ 140737488355328) (hd : Nat.blt d x.n = true)
    (next : ∀ v', W x ((d, true, .lit v') :: L) (M.set i (ME.arr v' E k (es ++ xs))) (wpList x.P ops Q rest)) :
    W x L M (wpList x.P ops Q (⟨some d, .call ⟨.builtin .append, #[o1, o2], #[T, T']⟩, ty, pos, aft, none⟩ :: rest)) := by
  refine W.opv (ι := Value) (fun v' => M.set i (ME.arr v' E k (es ++ xs))) (fun v' => .lit v') hd ?_ next
  intro a w hs
  have hsrc := (h2 a w hs).to
  have e1 := h1.lit rfl hs
  have hb1' := Nat.le_of_ble_eq_true hb1
  obtain ⟨ad, cap, rfl, hlc, hcm, hcase⟩ := hs.mem.holds _ (List.mem_of_getElem? hM)
  have h63 : es.length + xs.length ≤ maxLen := by
    have : es.length + xs.length ≤ (es.length + xs.length) * bytes := Nat.le_mul_of_pos_right _ hb1'
    simp only [maxLen]; omega
  by_cases hle : es.length + xs.length ≤ cap
  · rcases hcase with ⟨rfl, rfl⟩ | ⟨g, off, cur, lo, hi, rfl, hc, hsz, hfr, hrE⟩
    · -- nothing is appended to nil
      have hes : es = [] := List.eq_nil_of_length_eq_zero (by omega)
      have hxs : xs = [] := List.eq_nil_of_length_eq_zero (by omega)
      subst hes; subst hxs
      refine ⟨.slice none 0 0, w, .slice none 0 0, ?_, ?_, Rep.lit _⟩
      · obtain ⟨hlen, news, hn1, _, _, hn4⟩ := hsrc
        have hf := hn4 w rfl
        obtain ⟨ii, hi1, hi2, hi3, hi4⟩ := hE
        have hlen' : (Builtin.lenOf (a.eval o2)).run x.P w = .ok 0 w := hlen
        have hf' : (Builtin.firstCells k 0 (a.eval o2)).run x.P w = .ok news w := hf
        have e1' : a.eval o1 = .slice none 0 0 := e1
        rcases hT' with ⟨e', hd'⟩ | hd' <;>
          simp [execOp, resolve, invoke, builtin, e1', Builtin.append_, run_underlying hT, run_underlying hd', sizeOf, typeInfo, hi1, hi2, hlen', hf']
      · have hM' : M[i]? = some (ME.arr (.slice none 0 0) E k []) := hM
        rw [List.append_nil, set_self hM']; exact hs
    · obtain ⟨news, hn1, hn2, hrun⟩ := run_append_in (ty := ty) hT hT' hE hc hsz hfr hsrc hle
      refine ⟨.slice (some ⟨g, off, none⟩) (es.length + xs.length) cap, { w with heap := w.heap.setIfInBounds g (.cells (wr cur (off + es.length * k) news.toList) E (lo, hi)) }, .slice (some ⟨g, off, none⟩) (es.length + xs.length) cap, ?_, ?_, Rep.lit _⟩
      · simp only [execOp, resolve, invoke, builtin, Sem.run_bind, Sem.run_pure, Result.andThen_ok, List.map_toArray, List.map_cons, List.map_nil, e1, hrun]
      · refine hs.write hM rfl rfl ?_
        intro w' hother hnew hk'
        have hmul : (es.length + xs.length) * k ≤ cap * k := Nat.mul_le_mul_right _ hle
        rw [Nat.add_mul] at hmul
        have hnl : news.toList.length = xs.length * k := by simpa using hn1
        refine ⟨some ⟨g, off, none⟩, cap, by rw [List.length_append], by rw [List.length_append]; exact hle, hcm, .inr ⟨g, off, _, lo, hi, rfl, hnew, ?_, hfr, ?_⟩⟩
        · rw [wr_size _ _ _ (by omega)]; exact hsz
        · have hcl : cur.toList.length = cur.size := Array.length_toList
          refine RepE.append (RepE.congr (RepE.keep hk' _ _ _ hrE) ?_) (RepE.congr (RepE.keep hk' _ _ _ hn2) ?_)
          · simp only [wr, List.toList_toArray]
            rw [List.append_assoc, List.drop_append_of_le_length (by simp; omega), List.take_append_of_le_length (by simp; omega), List.drop_take, Nat.add_sub_cancel_left, List.take_take, Nat.min_self]
          · simp only [wr, List.toList_toArray]
            rw [List.drop_drop, List.append_assoc, List.drop_append, List.drop_of_length_le (by simp; omega), List.nil_append]
            have : off + es.length * k - (cur.toList.take (off + es.length * k)).length = 0 := by simp; omega
            rw [this, List.drop_zero, List.take_append_of_le_length (by omega)]
  · have hold : Src0 x.P w (bl M ++ x.F) k (.slice ad es.length cap) es := by
      refine src0_cells rfl ?_
      rcases hcase with ⟨rfl, hc0⟩ | ⟨g, off, cur, lo, hi, rfl, hc, hsz, hfr, hrE⟩
      · left; exact List.eq_nil_of_length_eq_zero (by omega)
      · exact .inr ⟨g, off, cur, E, (lo, hi), rfl, hc, hrE⟩
    obtain ⟨cells, hsz, hrE, hrun⟩ := run_append_new (ty := ty) hT hT' hE hzk hold hsrc.to0 rfl (by omega) hb hb1'
    obtain ⟨hg1, hg2⟩ := cap_cut w (es.length + xs.length) cap E h63
    refine ⟨.slice (some ⟨w.heap.size, 0, none⟩) (es.length + xs.length) (grownCap w (es.length + xs.length) cap E), w.drew.alloc (.cells cells E), .slice (some ⟨w.heap.size, 0, none⟩) (es.length + xs.length) (grownCap w (es.length + xs.length) cap E), ?_, ?_, Rep.lit _⟩
    · simp only [execOp, resolve, invoke, builtin, Sem.run_bind, Sem.run_pure, Result.andThen_ok, List.map_toArray, List.map_cons, List.map_nil, e1, hrun]
    · have hd1 : St x L M a w.drew := hs.same rfl rfl rfl rfl
      have hnew : St x L (ME.arr (.slice (some ⟨w.heap.size, 0, none⟩) (es.length + xs.length) (grownCap w (es.length + xs.length) cap E)) E k (es ++ xs) :: M) a (w.drew.alloc (.cells cells E)) := by
        refine hd1.alloc _ _ rfl ?_
        intro N hN
        refine ⟨some ⟨w.heap.size, 0, none⟩, _, by rw [List.length_append], by rw [List.length_append]; exact hg1, hg2, .inr ⟨w.heap.size, 0, cells, 0, 0, rfl, alloc_new w.drew _, by omega, .inl (Nat.le_refl _), ?_⟩⟩
        refine RepE.keep (w := w) (N := bl M ++ x.F) ?_ _ _ _ (by simpa using hrE)
        intro b c U fr hn hc
        refine ⟨fun h => ?_, by rw [alloc_old w.drew _ (heap_lt (w := w.drew) hc)]; exact hc⟩
        rcases (hN b).1 h with h | h
        · have := heap_lt hc; subst h; exact absurd this (Nat.lt_irrefl _)
        · exact hn h
      obtain ⟨hm, hk, hsb⟩ := hnew.mem.sub (perm_set (m' := ME.arr (.slice (some ⟨w.heap.size, 0, none⟩) (es.length + xs.length) (grownCap w (es.length + xs.length) cap E)) E k (es ++ xs)) hM)
      exact hnew.world hk hm (hnew.fr.sub hsb)

/-- a row of one element, as a box of its cells -/
theorem W.bsbox {d : Tmp} {T E k bytes : Nat} {z : Value} {ps : List (Nat × Operand)} {e : AV} {cs : List AV} (hT : x.P.underlying T = some (.slice E)) (hE : Ty x.P E k bytes z) (hp : PartsOv L k 0 ps [e]) (hb : 1 * k ≤ 16777216) (hk1 : Nat.ble 1 k = true) (ho : e.okc = true) (hc : e.cells = cs) (hd : Nat.blt d x.n = true)
    (next : ∀ b, W x ((d, true, .lit (.slice (some ⟨b, 0, none⟩) 1 1)) :: L) (.box b E cs :: M) (wpList x.P ops Q rest)) : W x L M (wpList x.P ops Q (⟨some d, .buildSlice T 1 ps.toArray, ty, pos, aft, none⟩ :: rest)) := by
  refine W.opv (ι := Nat) (fun b => .box b E cs :: M) (fun b => .lit (.slice (some ⟨b, 0, none⟩) 1 1)) hd ?_ next
  intro a w hs
  obtain ⟨cells, hr, hsz, hrE⟩ := run_buildSlice (ty := ty) hs hT hE hp rfl hb
  refine ⟨_, _, w.heap.size, hr, ?_, Rep.lit _⟩
  refine hs.alloc _ _ rfl ?_
  intro N hN
  refine ⟨cells, alloc_new _ _, ?_⟩
  have h1 : RepE (w.alloc (.cells cells E)) N k [e] cells.toList := by
    refine RepE.keep ?_ _ _ _ hrE
    intro b c T fr hn hc
    refine ⟨fun h => ?_, by rw [alloc_old _ _ (heap_lt hc)]; exact hc⟩
    rcases (hN b).1 h with h | h
    · have := heap_lt hc; omega
    · exact hn h
  have h2 := RepC.cells ho h1.2.1
  rwa [List.take_of_length_le (by rw [Array.length_toList, hsz]; simp), hc] at h2
end view
end Go.Vl
