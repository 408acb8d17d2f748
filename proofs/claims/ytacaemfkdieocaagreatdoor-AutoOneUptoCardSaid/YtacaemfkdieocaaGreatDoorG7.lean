/-
  Merged: WWords Copy Map ArrV Moore Pairs Least Row8 Key Raw Norm.
-/
import Derived.Test.YtacaemfkdieocaaGreatDoorG6
import Derived.Lib.Overlaps
import Derived.Laws.Externs
import Derived.MapKept
import Derived.Sort.OwnSortedInts
import Derived.Lib.LaidTab
import Derived.Lib.ItoaNum
import Derived.Lib.SlicesCompact

section
set_option linter.unusedVariables false
set_option linter.unusedSimpArgs false
set_option maxRecDepth 100000
namespace Go.Proofs.YtacaemfkdieocaaGreatDoor
open Go.Vl

namespace WWords

theorem c_of (t : List UInt8) (s : List It) (a : List (List It)) (hs : It.oks s) (ha : It.oka a) (e : t = It.stx s ++ It.atl a) (hl : t.length ≤ 40) : FnP Tryz.prog 13 [.str t] (.tup [(It.al s a).avx, .bool true]) := by
  subst e
  exact WParse3.c_exprOf s a hs ha hl
theorem c_is (s : List It) (a : List (List It)) (hs : It.oks s) (ha : It.oka a) (hl : (It.stx s ++ It.atl a).length ≤ 40) (w : List Int) (hw : w.length ≤ 40) (hwr : ∀ c ∈ w, 0 ≤ c ∧ c < 8) : FnP Tryz.prog 14 [(It.al s a).avx, .sl 1 (w.map AV.int)] (.bool (Lg.dec (Lg.alt (It.slg s) (It.alg a)) w)) := by
  have h1 := It.al_len s a hs ha
  have h2 := It.al_sz s a
  have h := WMatch2.c_matches (It.al s a) (It.al_ok s a hs ha) (by omega) (by omega) w hw hwr
  rwa [It.lg_al] at h
end WWords

end Go.Proofs.YtacaemfkdieocaaGreatDoor
end

section
set_option linter.unusedVariables false
set_option linter.unusedSimpArgs false
set_option linter.unusedSectionVars false
namespace Go.Vl
open Go Go.Sem
section view
variable {x : Cx} {L : List (Tmp × Bool × AV)} {M : List ME} {ops : Array Oper} {Q : Exit → Act → World → Prop} {rest : List Oper} {ty : TypeId} {pos : String} {aft : Array Edge}
/-- a source of sn elements, of which the first are xs -/
def SrcN (P : Program) (w : World) (N : List Nat) (k : Nat) (v : Value) (sn : Nat) (xs : List AV) : Prop :=
  (Builtin.lenOf v).run P w = .ok sn w ∧ xs.length ≤ sn ∧ ∃ news : Array Value, news.size = xs.length * k ∧ RepE w N k xs news.toList ∧ (∀ u ∈ news.toList, shV u = 0) ∧
    ∀ w' : World, w'.heap = w.heap → (Builtin.firstCells k xs.length v).run P w' = .ok news w'
theorem Src.toN {P : Program} {w : World} {N : List Nat} {k sn cap cap' : Nat} {ad : Option Addr} {xs : List AV} (h : Src P w N k (.slice ad xs.length cap) xs) (hs : xs.length ≤ sn) : SrcN P w N k (.slice ad sn cap') sn xs := by
  obtain ⟨_, news, h2, h3, h4, h5⟩ := h
  refine ⟨by simp [Builtin.lenOf], hs, news, h2, h3, h4, fun w' hw => ?_⟩
  have := h5 w' hw
  cases ad <;> simpa only [Builtin.firstCells] using this
theorem SrcN.to {P : Program} {w : World} {N : List Nat} {k : Nat} {v : Value} {xs : List AV} (h : SrcN P w N k v xs.length xs) : Src P w N k v xs := ⟨h.1, h.2.2⟩
/-- an operand that copy may take its elements from -/
def VwOv (x : Cx) (L : List (Tmp × Bool × AV)) (M : List ME) (o : Operand) (k sn : Nat) (xs : List AV) : Prop := ∀ a w, St x L M a w → SrcN x.P w (bl M ++ x.F) k (a.eval o) sn xs
/-- elements of an own row -/
theorem VwOv.own (i : Nat) {o : Operand} {g off n cap p sn c U k : Nat} {ad : Option Addr} {es xs : List AV} (h : Ov true L o (.lit (.slice ad sn c))) (ha : xs = [] ∨ ad = some ⟨g, off + p * k, none⟩) (hM : M[i]? = some (ME.arr (.slice (some ⟨g, off, none⟩) n cap) U k es)) (hx : xs = (es.drop p).take xs.length) (hp : p ≤ es.length) (hq : xs.length ≤ sn) (ho : ∀ e ∈ xs, e.okc = true) : VwOv x L M o k sn xs := by
  intro a w hs
  rw [h.lit rfl hs]
  refine Src.toN (cap := c) ?_ hq
  refine src_cells rfl ho ?_
  obtain ⟨ad, cp, e, h1, h2, h3⟩ := hs.mem.holds _ (List.mem_of_getElem? hM)
  cases e
  rcases h3 with ⟨h3, _⟩ | ⟨g', off', cur, lo, hi, h4, h5, _, _, h6⟩
  · cases h3
  · cases h4
    rcases ha with ha | ha
    · exact .inl ha
    refine .inr ⟨g, _, cur, U, (lo, hi), ha, h5, ?_⟩
    rw [hx, ← List.drop_drop]
    exact (h6.drop p hp).take _
/-- the elements of a box, seen as_ a row of one -/
theorem VwOv.box (i : Nat) {o : Operand} {b c U k : Nat} {cs : List AV} {e : AV} (h : Ov true L o (.lit (.slice (some ⟨b, 0, none⟩) 1 c))) (hM : M[i]? = some (ME.box b U cs)) (hk : cs.length = k) (he : e.cells = cs) (ho : e.okc = true) : VwOv x L M o k 1 [e] := by
  intro a w hs
  rw [h.lit rfl hs]
  refine Src.toN (cap := c) ?_ (by simp)
  refine src_cells rfl (by simpa using ho) (.inr ?_)
  obtain ⟨cur, h1, h2⟩ := hs.mem.holds _ (List.mem_of_getElem? hM)
  refine ⟨b, 0, cur, U, _, rfl, h1, ?_⟩
  have hl := h2.length
  rw [List.drop_zero]
  refine ⟨by omega, RepC.ofL ho ?_, trivial⟩
  rw [List.take_of_length_le (by omega), he]
  exact h2
theorem VwOv.src {o : Operand} {k : Nat} {xs : List AV} (h : SrcOv x L M o k xs) : VwOv x L M o k xs.length xs := fun a w hs => by
  have h1 := h.src hs
  exact ⟨h1.1, Nat.le_refl _, h1.2⟩

theorem run_copy {P : Program} {w : World} {T T' E k bytes : Nat} {z : Value} {g p dn dc lo hi sn : Nat} {cur : Array Value} {U : TypeId} {xv : Value} {N : List Nat} {xs : List AV} (hT : P.underlying T = some (.slice E)) (hE : Ty P E k bytes z)
    (hc : w.heap[g]? = some (.cells cur U (lo, hi))) (hsz : p + xs.length * k ≤ cur.size) (hfr : hi ≤ lo ∨ p + xs.length * k ≤ lo) (hx : SrcN P w N k xv sn xs) (hq : xs.length = Nat.min sn dn) :
    ∃ news : Array Value, news.size = xs.length * k ∧ RepE w N k xs news.toList ∧ (Builtin.copy_ #[T, T'] ty #[.slice (some ⟨g, p, none⟩) dn dc, xv]).run P w =
      .ok (.int .i64 (xs.length : Int)) { w with heap := w.heap.setIfInBounds g (.cells (wr cur p news.toList) U (lo, hi)) } := by
  obtain ⟨hlen, _, news, hn1, hn2, hn3, hn4⟩ := hx
  have hf := hn4 w rfl
  have hst := run_storeCells (P := P) (g := g) (off := p) (T := U) (lo := lo) (hi := hi) news.toList 0 cur w hc (by simp; omega) (by simp; omega) hn3
  refine ⟨news, hn1, hn2, ?_⟩
  rw [Nat.add_zero] at hst
  rw [hq] at hf
  simp only [Builtin.copy_, List.getElem?_toArray, List.getElem?_cons_zero, List.getElem?_cons_succ, Sem.run_bind, run_underlying hT, Result.andThen_ok, hE.size, hlen, hf, hst, Sem.run_pure, goInt, hq]

/-- what a row holds after a write of elements -/
theorem RepE.over {w : World} {N : List Nat} {k j off : Nat} {es xs : List AV} {cur nl : List Value} (h : RepE w N k es (cur.drop off)) (hx : RepE w N k xs nl) (hn : nl.length = xs.length * k) (hj : j ≤ es.length) (hoff : off ≤ cur.length) :
    RepE w N k (es.take j ++ xs ++ es.drop (j + xs.length)) ((cur.take (off + j * k) ++ nl ++ cur.drop (off + j * k + nl.length)).drop off) := by
  have hlen := h.len
  have hjk : j * k ≤ es.length * k := Nat.mul_le_mul_right _ hj
  rw [List.length_drop] at hlen
  have e1 : (cur.take (off + j * k) ++ nl ++ cur.drop (off + j * k + nl.length)).drop off = (cur.drop off).take (j * k) ++ (nl ++ (cur.drop off).drop (j * k + nl.length)) := by
    rw [List.append_assoc, List.drop_append_of_le_length (by rw [List.length_take]; omega), List.drop_take, Nat.add_sub_cancel_left, List.drop_drop, Nat.add_assoc]
  rw [e1]
  have hS : (cur.drop off).length = cur.length - off := List.length_drop ..
  generalize cur.drop off = S at h hS
  have htl : (S.take (j * k)).length = j * k := by rw [List.length_take]; omega
  have hjl : (es.take j).length = j := by rw [List.length_take]; omega
  rw [List.append_assoc]
  refine RepE.append (RepE.congr (h.take j) ?_) ?_
  · rw [hjl, List.take_append_of_le_length (by omega), List.take_take, Nat.min_self]
  · rw [hjl, List.drop_append_of_le_length (by omega), List.drop_of_length_le (l := S.take (j * k)) (by omega), List.nil_append]
    refine RepE.append (RepE.congr hx (by rw [List.take_append_of_le_length (by omega)])) ?_
    rw [List.drop_append_of_le_length (by omega), List.drop_of_length_le (l := nl) (by omega), List.nil_append, hn, ← Nat.add_mul]
    by_cases hle : j + xs.length ≤ es.length
    · exact h.drop _ hle
    · rw [List.drop_of_length_le (by omega)]; simp [RepE]

theorem W.copy (i : Nat) {d : Tmp} {T T' E k bytes : Nat} {z : Value} {o1 o2 : Operand} {g off n cap j dn dc sn U : Nat} {es xs : List AV} (h1 : Ov true L o1 (.lit (.slice (some ⟨g, off + j * k, none⟩) dn dc))) (hM : M[i]? = some (ME.arr (.slice (some ⟨g, off, none⟩) n cap) U k es)) (h2 : VwOv x L M o2 k sn xs)
    (hT : x.P.underlying T = some (.slice E)) (hE : Ty x.P E k bytes z) (hq : xs.length = Nat.min sn dn) (hj : j ≤ es.length) (hc : j + xs.length ≤ cap) {n' : Nat} {es' : List AV} (he' : es' = es.take j ++ xs ++ es.drop (j + xs.length)) (hn' : n' = es'.length) (hd : Nat.blt d x.n = true)
    (next : W x ((d, true, .lit (.int .i64 (xs.length : Int))) :: L) (M.set i (ME.arr (.slice (some ⟨g, off, none⟩) n' cap) U k es')) (wpList x.P ops Q rest)) :
    W x L M (wpList x.P ops Q (⟨some d, .call ⟨.builtin .copy, #[o1, o2], #[T, T']⟩, ty, pos, aft, none⟩ :: rest)) := by
  subst he'
  refine W.opv (ι := Unit) (fun _ => M.set i (ME.arr (.slice (some ⟨g, off, none⟩) n' cap) U k (es.take j ++ xs ++ es.drop (j + xs.length)))) (fun _ => .lit (.int .i64 (xs.length : Int))) hd ?_ (fun _ => next)
  intro a w hs
  have hsrc := h2 a w hs
  have e1 := h1.lit rfl hs
  obtain ⟨ad, cp, e, hlc, hcm, hcase⟩ := hs.mem.holds _ (List.mem_of_getElem? hM)
  cases e
  rcases hcase with ⟨h3, _⟩ | ⟨g', off', cur, lo, hi, h4, hcur, hsz, hfr, hrE⟩
  · cases h3
  cases h4
  have hmul : (j + xs.length) * k ≤ cap * k := Nat.mul_le_mul_right _ hc
  rw [Nat.add_mul] at hmul
  obtain ⟨news, hn1, hn2, hrun⟩ := run_copy (ty := ty) (T' := T') (dc := dc) hT hE hcur (p := off + j * k) (by omega) (by omega) hsrc hq
  have hlt : (es.take j ++ xs ++ es.drop (j + xs.length)).length ≤ cap := by simp only [List.length_append, List.length_take, List.length_drop]; omega
  refine ⟨.int .i64 (xs.length : Int), { w with heap := w.heap.setIfInBounds g (.cells (wr cur (off + j * k) news.toList) U (lo, hi)) }, (), ?_, ?_, Rep.lit _⟩
  · simp only [execOp, resolve, invoke, builtin, Sem.run_bind, Sem.run_pure, Result.andThen_ok, List.map_toArray, List.map_cons, List.map_nil, e1, hrun]
  · refine hs.write hM rfl rfl ?_
    intro w' hother hnew hk'
    have hnl : news.toList.length = xs.length * k := by simpa using hn1
    refine ⟨some ⟨g, off, none⟩, cap, by rw [hn'], hlt, hcm, .inr ⟨g, off, _, lo, hi, rfl, hnew, ?_, hfr, ?_⟩⟩
    · rw [wr_size _ _ _ (by omega)]; exact hsz
    · simp only [wr, List.toList_toArray]
      exact RepE.over (RepE.keep hk' _ _ _ hrE) (RepE.keep hk' _ _ _ hn2) hnl hj (by simp; omega)

/-- a part of an own row: the bounds may reach up to the capacity -/
theorem run_boundsC {g : Bool} {len cap : Nat} {lo hi : Option Operand} {l h : Int} {a : Act} {w : World} (hst : St x L M a w) (hg : g = true) (hlo : BndOv g L 0 lo l) (hhi : BndOv g L len hi h) (h0 : 0 ≤ l) (h1 : l ≤ h) (h2 : h ≤ cap) :
    (Instr.sliceBounds true len cap (lo.map a.eval) (hi.map a.eval) none).run x.P w = .ok (l.toNat, h.toNat, cap) w := by
  have hb : ∀ (n : Int) (y : Nat) c, 0 ≤ n → n ≤ y → (Instr.sliceBound (.int .i64 n) y c).run x.P w = .ok n.toNat w := fun n y c hn hy => by
    simp [Instr.sliceBound, asIntOf, hn, hy]
  unfold Instr.sliceBounds
  cases lo with
  | none =>
    simp only [BndOv] at hlo
    subst hlo
    cases hi with
    | none =>
      simp only [BndOv] at hhi
      subst hhi
      simp
    | some o =>
      have e := hhi.lit hg hst
      simp only [Option.map_none, Option.map_some, e, Sem.run_bind, Sem.run_pure, Result.andThen_ok]
      rw [hb _ _ _ (by omega) (by omega)]
      simp
  | some o' =>
    have e' := hlo.lit hg hst
    cases hi with
    | none =>
      simp only [BndOv] at hhi
      subst hhi
      simp only [Option.map_none, Option.map_some, e', Sem.run_bind, Sem.run_pure, Result.andThen_ok]
      rw [hb _ _ _ (by omega) (by omega)]
      simp
    | some o =>
      have e := hhi.lit hg hst
      simp only [Option.map_some, e, e', Sem.run_bind, Sem.run_pure, Result.andThen_ok]
      rw [hb _ _ _ (by omega) (by omega)]
      simp only [Result.andThen_ok]
      rw [hb _ _ _ (by omega) (by omega)]
      simp
/-- a slice expression at a slice that is known -/
theorem Ev.slit {g : Bool} {T E k bytes : Nat} {z : Value} {o1 : Operand} {lo hi : Option Operand} {i j : Int} {ad : Option Addr} {n cap : Nat} {v : Value} (h1 : Ov g L o1 (.lit (.slice ad n cap))) (hT : x.P.underlying T = some (.slice E)) (hE : Ty x.P E k bytes z) (hlo : BndOv g L 0 lo i) (hhi : BndOv g L (n : Int) hi j)
    (hb : g = true → 0 ≤ i ∧ i ≤ j ∧ j ≤ cap) (hv : v = .slice (if cap = i.toNat then ad else ad.map (·.add (i.toNat * k))) (j.toNat - i.toNat) (cap - i.toNat)) : Ev x g L M (.slice T o1 lo hi none) ty (.lit v) := Ev.pure fun a w hs hg => by
  obtain ⟨b1, b2, b3⟩ := hb hg
  have hr := run_boundsC (len := n) (cap := cap) hs hg hlo hhi b1 b2 b3
  subst hv
  simp only [execOp, h1.lit hg hs, Option.map_none, Instr.sliceAt, Instr.slice, Sem.run_bind, run_underlying hT, Result.andThen_ok, hr, hE.size, Sem.run_pure]
/-- s[p:j] -/
theorem Ev.slitp {g : Bool} {T E k bytes : Nat} {z : Value} {o1 : Operand} {lo hi : Option Operand} {i j : Int} {b off n cap p q : Nat} (h1 : Ov g L o1 (.lit (.slice (some ⟨b, off, none⟩) n cap))) (hT : x.P.underlying T = some (.slice E)) (hE : Ty x.P E k bytes z) (hlo : BndOv g L 0 lo i) (hhi : BndOv g L (n : Int) hi j)
    (hi' : i = (p : Int)) (hj : j = (q : Int)) (hb : p < cap ∧ p ≤ q ∧ q ≤ cap) : Ev x g L M (.slice T o1 lo hi none) ty (.lit (.slice (some ⟨b, off + p * k, none⟩) (q - p) (cap - p))) := by
  subst hi'; subst hj
  refine Ev.slit h1 hT hE hlo hhi (fun _ => by omega) ?_
  rw [if_neg (by simp; omega)]
  simp [Addr.add_lit]
/-- s[:q] -/
theorem Ev.slit0 {g : Bool} {T E k bytes : Nat} {z : Value} {o1 : Operand} {hi : Option Operand} {j : Int} {b off n cap q : Nat} (h1 : Ov g L o1 (.lit (.slice (some ⟨b, off, none⟩) n cap))) (hT : x.P.underlying T = some (.slice E)) (hE : Ty x.P E k bytes z) (hhi : BndOv g L (n : Int) hi j)
    (hj : j = (q : Int)) (hb : q ≤ cap) : Ev x g L M (.slice T o1 none hi none) ty (.lit (.slice (some ⟨b, off, none⟩) q cap)) := by
  subst hj
  refine Ev.slit (i := 0) h1 hT hE rfl hhi (fun _ => by omega) ?_
  simp [Addr.add_lit]
/-- where an own row lies, if it has elements -/
theorem W.arr_lit {R : Act → World → Prop} (i : Nat) {v : Value} {U k : Nat} {es : List AV} (hM : M[i]? = some (.arr v U k es)) (hes : 0 < es.length) (h : ∀ g off c, v = .slice (some ⟨g, off, none⟩) es.length c → es.length ≤ c → c ≤ maxLen → W x L M R) : W x L M R := fun a w hs => by
  obtain ⟨ad, cap, e, h1, h2, h3⟩ := hs.mem.holds _ (List.mem_of_getElem? hM)
  rcases h3 with ⟨_, h3⟩ | ⟨g, off, cur, lo, hi, rfl, _⟩
  · omega
  · exact h _ _ _ e h1 h2 a w hs
/-- an operation whose value nobody keeps -/
theorem W.opn {ι : Type} {op : Op} (Mf : ι → List ME)
    (step : ∀ a w, St x L M a w → ∃ w' v z, (execOp a.eval ⟨none, op, ty, "", #[], none⟩).run x.P w = .ok (.value v) w' ∧ St x L (Mf z) a w')
    (next : ∀ z, W x L (Mf z) (wpList x.P ops Q rest)) : W x L M (wpList x.P ops Q (⟨none, op, ty, pos, aft, none⟩ :: rest)) := by
  intro a w hs
  obtain ⟨w', v, z, hr, hs'⟩ := step a w hs
  refine wpList_cons_want (by simp [Region.wanted]) ?_
  unfold Oper.wp
  rw [execOp_bare, hr]
  exact next z _ _ hs'
/-- what lies behind the elements is cleared -/
theorem W.clear (i : Nat) {T E k bytes : Nat} {z : Value} {o1 : Operand} {g off n cap j m c U : Nat} {es : List AV} (h1 : Ov true L o1 (.lit (.slice (some ⟨g, off + j * k, none⟩) m c))) (hM : M[i]? = some (ME.arr (.slice (some ⟨g, off, none⟩) n cap) U k es))
    (hT : x.P.underlying T = some (.slice E)) (hE : Ty x.P E k bytes z) (hzk : z.cells.size = k) (hz : z.cells.toList.all (fun v => shV v == 0) = true) (hj : es.length ≤ j) (hc : j + m ≤ cap)
    (next : W x L M (wpList x.P ops Q rest)) :
    W x L M (wpList x.P ops Q (⟨none, .call ⟨.builtin .clear, #[o1], #[T]⟩, ty, pos, aft, none⟩ :: rest)) := by
  have hset := set_self hM
  rw [← hset] at next
  refine W.opn (ι := Unit) (fun _ => M.set i (ME.arr (.slice (some ⟨g, off, none⟩) n cap) U k es)) ?_ (fun _ => next)
  intro a w hs
  have e1 := h1.lit rfl hs
  obtain ⟨ad, cp, e, hlc, hcm, hcase⟩ := hs.mem.holds _ (List.mem_of_getElem? hM)
  cases e
  rcases hcase with ⟨h3, _⟩ | ⟨g', off', cur, lo, hi, h4, hcur, hsz, hfr, hrE⟩
  · cases h3
  cases h4
  by_cases hm : m = 0
  · subst hm
    refine ⟨w, .tuple #[], (), ?_, by rw [hset]; exact hs⟩
    simp [execOp, resolve, invoke, builtin, e1, Builtin.clear_, run_underlying hT]
  · have hzs : (Builtin.zeroCells z.cells m).size = m * k := by simp [Builtin.zeroCells, hzk]
    have hmul : (j + m) * k ≤ cap * k := Nat.mul_le_mul_right _ hc
    rw [Nat.add_mul] at hmul
    have hzl : (Builtin.zeroCells z.cells m).toList.length = m * k := by rw [Array.length_toList]; exact hzs
    have hz0 : ∀ u ∈ (Builtin.zeroCells z.cells m).toList, shV u = 0 := by
      intro u hu
      simp only [Builtin.zeroCells, Array.toList_map, List.mem_map] at hu
      obtain ⟨q, hq, rfl⟩ := hu
      have hq' : q < m * z.cells.size := by simpa using hq
      have hpos : 0 < z.cells.size := by rcases Nat.eq_zero_or_pos z.cells.size with h | h; rw [h] at hq'; omega; exact h
      have hlt : q % z.cells.size < z.cells.size := Nat.mod_lt _ hpos
      rw [List.all_eq_true] at hz
      have := hz (z.cells[q % z.cells.size]!) (by rw [Array.mem_toList_iff, getElem!_pos z.cells _ hlt]; exact Array.getElem_mem hlt)
      simpa using this
    have hst := run_storeCells (P := x.P) (g := g) (off := off + j * k) (T := U) (lo := lo) (hi := hi) (Builtin.zeroCells z.cells m).toList 0 cur w hcur (by omega) (by omega) hz0
    rw [Nat.add_zero] at hst
    refine ⟨{ w with heap := w.heap.setIfInBounds g (.cells (wr cur (off + j * k) (Builtin.zeroCells z.cells m).toList) U (lo, hi)) }, .tuple #[], (), ?_, ?_⟩
    · simp only [execOp, resolve, invoke, builtin, Sem.run_bind, Sem.run_pure, Result.andThen_ok, List.map_toArray, List.map_cons, List.map_nil, e1, Builtin.clear_, List.getElem?_toArray, List.getElem?_cons_zero, run_underlying hT]
      cases m with
      | zero => exact absurd rfl hm
      | succ m => simp only [Sem.run_bind, hE.zero, Result.andThen_ok, hst, Sem.run_pure]
    · refine hs.write hM rfl rfl ?_
      intro w' hother hnew hk'
      have hlen := hrE.len
      have hjm : es.length * k ≤ j * k := Nat.mul_le_mul_right _ hj
      refine ⟨some ⟨g, off, none⟩, cap, rfl, hlc, hcm, .inr ⟨g, off, _, lo, hi, rfl, hnew, ?_, hfr, ?_⟩⟩
      · rw [wr_size _ _ _ (by omega)]; exact hsz
      · refine RepE.congr (RepE.keep hk' _ _ _ hrE) ?_
        have hcl : cur.toList.length = cur.size := Array.length_toList
        simp only [wr, List.toList_toArray]
        rw [List.append_assoc, List.drop_append_of_le_length (by simp; omega), List.drop_take, Nat.add_sub_cancel_left, List.take_append_of_le_length (by simp; omega), List.take_take, Nat.min_eq_left hjm]
/-- a zero value as_ an element -/
theorem RepC.zero {w : World} {N : List Nat} {z : Value} {e : AV} (hz : z.cells.toList.all (fun v => shV v == 0) = true) (he : e = match z.cells.toList with | [v] => if shV z == 1 then .agg [.lit v] else .lit v | l => .agg (l.map .lit)) : RepC w N e z.cells.toList := by
  have hL : ∀ l : List Value, l.all (fun v => shV v == 0) = true → RepL w N (l.map .lit) l := by
    intro l
    induction l with
    | nil => intro _; simp [RepL]
    | cons v l ih =>
      intro hz
      simp only [List.all_cons, Bool.and_eq_true, beq_iff_eq] at hz
      simp only [List.map_cons, RepL]
      exact ⟨v, l, rfl, ⟨hz.1, hz.1, by simp only [RepC, cells_of_sh hz.1]⟩, ih hz.2⟩
  subst he
  have := hL _ hz
  revert this hz
  generalize z.cells.toList = l
  intro hz this
  match l with
  | [] => simpa [RepC] using this
  | [v] =>
    simp only [List.all_cons, List.all_nil, Bool.and_true, beq_iff_eq] at hz
    dsimp only
    split
    · simpa only [RepC, List.map_cons, List.map_nil] using this
    · simp only [RepC, cells_of_sh hz]
  | u :: v :: l => simpa only [RepC] using this
end view
end Go.Vl
end

section
set_option linter.unusedVariables false
set_option linter.unusedSimpArgs false
set_option linter.unusedSectionVars false
namespace Go.Vl
/-- the entries of such a map -/
def mEnts : Nat → List Value → List MapEntry
  | _, [] => []
  | i, k :: ks => ⟨k, .int .i64 (i : Int), i⟩ :: mEnts (i + 1) ks
def mObj (ks : List Value) : Obj := .map (mEnts 0 ks).toArray ks.length
theorem mEnts_length : ∀ (ks : List Value) (i : Nat), (mEnts i ks).length = ks.length
  | [], _ => rfl
  | k :: ks, i => by rw [mEnts, List.length_cons, List.length_cons, mEnts_length ks]
theorem mEnts_snoc (k : Value) : ∀ (ks : List Value) (i : Nat), mEnts i (ks ++ [k]) = mEnts i ks ++ [⟨k, .int .i64 ((i + ks.length : Nat) : Int), i + ks.length⟩]
  | [], i => rfl
  | q :: ks, i => by
    rw [List.cons_append, mEnts, mEnts_snoc k ks, mEnts, List.cons_append, List.length_cons]
    rw [show i + 1 + ks.length = i + (ks.length + 1) from by omega]
/-- where a key stands among others -/
def place {α : Type} [DecidableEq α] (k : α) : List α → Option Nat
  | [] => none
  | q :: ks => if k = q then some 0 else (place k ks).map (· + 1)
theorem place_none {α : Type} [DecidableEq α] {k : α} : ∀ {ks : List α}, place k ks = none ↔ k ∉ ks
  | [] => by simp [place]
  | q :: ks => by
    simp only [place, List.mem_cons, not_or]
    split
    · rename_i h; simp [h]
    · rename_i h; rw [Option.map_eq_none_iff, place_none]; simp [h]
theorem place_some {α : Type} [DecidableEq α] {k : α} : ∀ {ks : List α} {i : Nat}, place k ks = some i → ks[i]? = some k
  | [], i, h => by cases h
  | q :: ks, i, h => by
    simp only [place] at h
    split at h
    · rename_i e; cases h; rw [e]; rfl
    · obtain ⟨j, hj, rfl⟩ := Option.map_eq_some_iff.1 h
      have := place_some hj
      simpa using this
theorem place_lt {α : Type} [DecidableEq α] {k : α} {ks : List α} {i : Nat} (h : place k ks = some i) : i < ks.length := by
  have := place_some h
  rcases Nat.lt_or_ge i ks.length with h1 | h1
  · exact h1
  · rw [List.getElem?_eq_none h1] at this; cases this
theorem place_new {α : Type} [DecidableEq α] {k : α} {ks : List α} (h : k ∉ ks) : place k (ks ++ [k]) = some ks.length := by
  induction ks with
  | nil => simp [place]
  | cons r ks ih =>
    rw [List.mem_cons, not_or] at h
    rw [List.cons_append, place, if_neg h.1, ih h.2]; rfl
/-- a kind of keys that the model finds at once -/
structure KeyKind (P : Program) (K : TypeId) {α : Type} [DecidableEq α] (f : α → Value) : Prop where
  check : ∀ (e : Bool) (k : α) (w : World), (Instr.checkKey e 10000 K (f k)).run P w = .ok () w
  find : ∀ (k : α) (ks : List α) (w : World), (Instr.findKey K (f k) (mEnts 0 (ks.map f))).run P w = .ok ((place k ks).map fun i => (i, .int .i64 (i : Int))) w
theorem findNow_place {α : Type} [DecidableEq α] {f : α → Value} {d : TypeDesc} (hs : ∀ a b : α, Instr.sameNow d (f a) (f b) = some (decide (a = b))) (k : α) :
    ∀ (ks : List α) (i : Nat), Instr.findNow d (f k) (mEnts i (ks.map f)) i = some ((place k ks).map fun j => (i + j, .int .i64 ((i + j : Nat) : Int)))
  | [], i => rfl
  | q :: ks, i => by
    rw [List.map_cons, mEnts, Instr.findNow, hs, place]
    by_cases h : k = q
    · rw [if_pos h, decide_eq_true h]; rfl
    · rw [if_neg h, decide_eq_false h]
      show Instr.findNow d (f k) (mEnts (i + 1) (ks.map f)) (i + 1) = _
      rw [findNow_place hs k ks (i + 1), Option.map_map]
      congr 2
      funext j
      show (i + 1 + j, Value.int .i64 ((i + 1 + j : Nat) : Int)) = (i + (j + 1), Value.int .i64 ((i + (j + 1) : Nat) : Int))
      rw [show i + 1 + j = i + (j + 1) from by omega]
theorem KeyKind.str {P : Program} {K : TypeId} (hK : P.underlying K = some .string) : KeyKind P K (fun s : List UInt8 => Value.string ⟨s.toArray⟩) := by
  refine ⟨fun e k w => ?_, fun k ks w => ?_⟩
  · exact Go.MapKept.run_checkKey hK (by trivial) e 9999
  · have h := findNow_place (d := .string) (f := fun s : List UInt8 => Value.string ⟨s.toArray⟩) (fun a b => by
      show some ((⟨a.toArray⟩ : ByteArray) == ⟨b.toArray⟩) = _
      congr 1
      show (a.toArray == b.toArray) = _
      by_cases h : a = b
      · subst h; simp
      · rw [decide_eq_false h]
        exact beq_eq_false_iff_ne.2 fun h' => h (by simpa using congrArg Array.toList h')) k ks 0
    simp only [Instr.findKey, Sem.run_bind, run_underlying hK, Result.andThen_ok, h, Sem.run_pure]
    simp
theorem KeyKind.int {P : Program} {K : TypeId} (hK : P.underlying K = some (.int .i64)) : KeyKind P K (fun n : Int => Value.int .i64 n) := by
  refine ⟨fun e k w => ?_, fun k ks w => ?_⟩
  · exact Go.MapKept.run_checkKey (k := .int .i64 k) hK rfl e 9999
  · have h := findNow_place (d := .int .i64) (f := fun n : Int => Value.int .i64 n) (fun a b => by
      by_cases h : a = b
      · subst h; simp [Instr.sameNow]
      · simp [Instr.sameNow, h]) k ks 0
    simp only [Instr.findKey, Sem.run_bind, run_underlying hK, Result.andThen_ok, h, Sem.run_pure]
    simp
theorem findAsking_place {P : Program} {K : TypeId} {α : Type} [DecidableEq α] {f : α → Value} (hq : ∀ (a b : α) (w : World), (Op.equal K (f a) (f b)).run P w = .ok (decide (a = b)) w) (k : α) (w : World) :
    ∀ (ks : List α) (i : Nat), (Instr.findAsking K (f k) (mEnts i (ks.map f)) i).run P w = .ok ((place k ks).map fun j => (i + j, .int .i64 ((i + j : Nat) : Int))) w
  | [], i => by simp [mEnts, Instr.findAsking, place]
  | q :: ks, i => by
    rw [List.map_cons, mEnts, Instr.findAsking, Sem.run_bind, hq, Result.andThen_ok, place]
    by_cases h : k = q
    · rw [if_pos h, decide_eq_true h]; simp
    · rw [if_neg h, decide_eq_false h]
      simp only [Bool.false_eq_true, if_false]
      rw [findAsking_place hq k w ks (i + 1), Option.map_map]
      congr 2
      funext j
      show (i + 1 + j, Value.int .i64 ((i + 1 + j : Nat) : Int)) = (i + (j + 1), Value.int .i64 ((i + (j + 1) : Nat) : Int))
      rw [show i + 1 + j = i + (j + 1) from by omega]
/-- keys of another kind, of which the model asks whether they are equal -/
theorem KeyKind.ask {P : Program} {K : TypeId} {d : TypeDesc} {α : Type} [DecidableEq α] {f : α → Value} (hK : P.underlying K = some d) (hs : ∀ a b : α, Instr.sameNow d (f a) (f b) = none) (hc : ∀ (e : Bool) (k : α) (w : World), (Instr.checkKey e 10000 K (f k)).run P w = .ok () w)
    (hq : ∀ (a b : α) (w : World), (Op.equal K (f a) (f b)).run P w = .ok (decide (a = b)) w) : KeyKind P K f := by
  refine ⟨hc, fun k ks w => ?_⟩
  have h := findAsking_place hq k w ks 0
  simp only [Nat.zero_add] at h
  cases ks with
  | nil => simp [Instr.findKey, run_underlying hK, Instr.findNow, mEnts, place]
  | cons q ks =>
    simp only [Instr.findKey, Sem.run_bind, run_underlying hK, Result.andThen_ok]
    rw [show Instr.findNow d (f k) (mEnts 0 ((q :: ks).map f)) 0 = none from by rw [List.map_cons, mEnts, Instr.findNow, hs]]
    exact h
/-- what a slot holds, said in another way -/
theorem W.conv {x : Cx} {L : List (Tmp × Bool × AV)} {M : List ME} {R : Act → World → Prop} {t : Tmp} {av av' : AV} (h : look L t = some (true, av)) (e : ∀ w N v, Rep w N av v → Rep w N av' v) (next : W x ((t, true, av') :: L) M R) : W x L M R := by
  intro a w hs
  refine next a w ⟨hs.defers, hs.size, ?_, hs.mem, hs.fr, hs.old⟩
  intro u g' av2 hl
  rw [look_cons] at hl
  by_cases e' : t = u
  · subst e'
    rw [if_pos rfl] at hl
    cases hl
    have := hs.slots t true av h
    exact ⟨fun hg => e _ _ _ (this.1 hg), fun hg => by cases hg⟩
  · rw [if_neg e'] at hl; exact hs.slots u g' av2 hl
/-- a struct of two numbers as_ a key -/
def pv (p : Int × Int) : Value := .agg #[.int .i64 p.1, .int .i64 p.2]
theorem Rep.pv {w : World} {N : List Nat} {a b : Int} {v : Value} (h : Rep w N (.agg [.int a, .int b]) v) : Rep w N (.lit (pv (a, b))) v := by
  obtain ⟨h1, h2⟩ := h
  cases v <;> simp [AV.sh, shV] at h1
  simp only [RepC, RepL] at h2
  rename_i cells
  obtain ⟨v1, vs1, e1, ⟨_, _, r1⟩, v2, vs2, e2, ⟨_, _, r2⟩, e3⟩ := h2
  subst e3
  subst e2
  obtain rfl := List.cons.inj r1 |>.1
  obtain rfl := List.cons.inj r2 |>.1
  have : Value.agg cells = Vl.pv (a, b) := by
    unfold Vl.pv
    congr 1
    exact Array.toList_inj.1 (by simpa [Value.cells] using e1)
  rw [this]
  exact Rep.lit _
theorem run_equal_pair {P : Program} {T I : TypeId} {f1 f2 : Field} (hU : P.underlying T = some (.struct #[f1, f2])) (hp : P.stoodInHeld T = false) (n1 : f1.name ≠ "_") (n2 : f2.name ≠ "_") (k1 : f1.offset = 0 ∧ f1.type = I) (k2 : f2.offset = 1 ∧ f2.type = I) (u : P.underlying I = some (.int .i64)) (p q : Int × Int) (w : World) :
    (Op.equal T (pv p) (pv q)).run P w = .ok (decide (p = q)) w := by
  have hi : ∀ (a b : Int) (n : Nat), (Op.equalIn (n + 1) I (.int .i64 a) (.int .i64 b)).run P w = .ok (a == b) w := fun a b n => by
    unfold Op.equalIn
    simp [run_underlying u]
  have hpt : ∀ (cs : Array Value) (o : Nat) (v : Value), cs[o]? = some v → (part I cs o).run P w = .ok v w := fun cs o v h => by
    have := IsAgg.run (P := P) (T := I) (b := false) ⟨_, u, rfl⟩ w
    simp [part, this, h]
  have hF : P.fieldsOf T = #[f1, f2] := by rw [Program.fieldsOf, hU]
  have h := run_equalIn_agg w 9999 T #[.int .i64 p.1, .int .i64 p.2] #[.int .i64 q.1, .int .i64 q.2] (hF ▸ hU) hp
  rw [hF] at h
  show (Op.equalIn 10000 T _ _).run P w = _
  unfold pv
  rw [h]
  simp only [Op.eqFields, if_pos n1, if_pos n2, k1.1, k1.2, k2.1, k2.2, Sem.run_bind]
  have hi' : ∀ a b : Int, (Op.equalIn 9999 I (.int .i64 a) (.int .i64 b)).run P w = .ok (a == b) w := fun a b => hi a b 9998
  obtain ⟨p1, p2⟩ := p
  obtain ⟨q1, q2⟩ := q
  dsimp only
  rw [hpt #[.int .i64 p1, .int .i64 p2] 0 (.int .i64 p1) rfl, Result.andThen_ok, hpt #[.int .i64 q1, .int .i64 q2] 0 (.int .i64 q1) rfl, Result.andThen_ok, hi', Result.andThen_ok]
  by_cases h1 : p1 = q1
  · subst h1
    simp only [beq_self_eq_true, Bool.not_true, Bool.false_eq_true, if_false, Sem.run_bind]
    rw [hpt #[.int .i64 p1, .int .i64 p2] 1 (.int .i64 p2) rfl, Result.andThen_ok, hpt #[.int .i64 p1, .int .i64 q2] 1 (.int .i64 q2) rfl, Result.andThen_ok, hi', Result.andThen_ok]
    by_cases h2 : p2 = q2 <;> simp [h2]
  · simp [h1]
theorem run_checkKey_pair {P : Program} {T I : TypeId} {f1 f2 : Field} (hU : P.underlying T = some (.struct #[f1, f2])) (n1 : f1.name ≠ "_") (n2 : f2.name ≠ "_") (k1 : f1.offset = 0 ∧ f1.type = I) (k2 : f2.offset = 1 ∧ f2.type = I) (u : P.underlying I = some (.int .i64)) (e : Bool) (p : Int × Int) (w : World) :
    (Instr.checkKey e 10000 T (pv p)).run P w = .ok () w := by
  have hpt : ∀ (cs : Array Value) (o : Nat) (v : Value), cs[o]? = some v → (part I cs o).run P w = .ok v w := fun cs o v h => by
    have := IsAgg.run (P := P) (T := I) (b := false) ⟨_, u, rfl⟩ w
    simp [part, this, h]
  have hi : ∀ a : Int, (Instr.checkKey e 9999 I (.int .i64 a)).run P w = .ok () w := fun a => Go.MapKept.run_checkKey (k := .int .i64 a) u rfl e 9998
  unfold pv
  rw [show (10000 : Nat) = 9999 + 1 from rfl]
  unfold Instr.checkKey
  simp only [Sem.run_bind, run_underlying hU, Result.andThen_ok]
  simp [n1, n2, k1.1, k1.2, k2.1, k2.2, hpt #[.int .i64 p.1, .int .i64 p.2] 0 _ rfl, hpt #[.int .i64 p.1, .int .i64 p.2] 1 _ rfl, hi]
theorem KeyKind.pair {P : Program} {T I : TypeId} {f1 f2 : Field} (hU : P.underlying T = some (.struct #[f1, f2])) (hp : P.stoodInHeld T = false) (n1 : f1.name ≠ "_") (n2 : f2.name ≠ "_") (k1 : f1.offset = 0 ∧ f1.type = I) (k2 : f2.offset = 1 ∧ f2.type = I) (u : P.underlying I = some (.int .i64)) : KeyKind P T pv :=
  KeyKind.ask hU (fun a b => rfl) (fun e k w => run_checkKey_pair hU n1 n2 k1 k2 u e k w) (fun a b w => run_equal_pair hU hp n1 n2 k1 k2 u a b w)
section map
variable {x : Cx} {g : Bool} {L : List (Tmp × Bool × AV)} {M : List ME} {ops : Array Oper} {Q : Exit → Act → World → Prop} {rest : List Oper} {ty : TypeId} {pos : String} {aft : Array Edge}
theorem W.mkmap {d : Tmp} {T : TypeId} (hd : Nat.blt d x.n = true) (next : ∀ b, W x ((d, true, .lit (.map (some b))) :: L) (ME.obj b (mObj []) :: M) (wpList x.P ops Q rest)) :
    W x L M (wpList x.P ops Q (⟨some d, .makeMap T none, ty, pos, aft, none⟩ :: rest)) := by
  refine W.opv (ι := Nat) (fun b => ME.obj b (mObj []) :: M) (fun b => .lit (.map (some b))) hd ?_ next
  intro a w hs
  refine ⟨.map (some w.heap.size), w.alloc (mObj []), w.heap.size, ?_, ?_, Rep.lit _⟩
  · simp [execOp, Instr.makeMap, newObj, Sem.run, mObj, mEnts]
  · refine hs.alloc _ _ rfl ?_
    intro N hN
    exact ⟨alloc_new _ _, by intro c T fr h; cases h⟩
theorem Ev.lenmap (i : Nat) {T K V b : Nat} {ks : List Value} {o1 : Operand} (h1 : Ov g L o1 (.lit (.map (some b)))) (hM : M[i]? = some (ME.obj b (mObj ks))) (hT : x.P.underlying T = some (.map K V)) :
    Ev x g L M (.call ⟨.builtin .len, #[o1], #[T]⟩) ty (.lit (.int .i64 (ks.length : Int))) := Ev.pure fun a w hs hg => by
  obtain ⟨hh, _⟩ := hs.mem.holds _ (List.mem_of_getElem? hM)
  have he := h1.lit hg hs
  simp only [mObj] at hh
  simp [execOp, resolve, he, getObj, Sem.run, hh, run_underlying hT, mEnts_length, goInt, invoke, builtin, Builtin.len_]
theorem Ev.look1 (i : Nat) {T K V b k' bytes : Nat} {α : Type} [DecidableEq α] {f : α → Value} {ks : List α} {k : α} {o1 o2 : Operand} (h1 : Ov g L o1 (.lit (.map (some b)))) (hM : M[i]? = some (ME.obj b (mObj (ks.map f)))) (h2 : Ov g L o2 (.lit (f k)))
    (hT : x.P.underlying T = some (.map K V)) (hk : KeyKind x.P K f) (hV : Ty x.P V k' bytes (.int .i64 0)) :
    Ev x g L M (.lookup T o1 o2 false) ty (.lit (.int .i64 (((place k ks).getD 0 : Nat) : Int))) := Ev.pure fun a w hs hg => by
  obtain ⟨hh, _⟩ := hs.mem.holds _ (List.mem_of_getElem? hM)
  have e1 := h1.lit hg hs
  have e2 := h2.lit hg hs
  simp only [mObj] at hh
  have hf := hk.find k ks w
  have hc := fun e => hk.check e k w
  simp only [execOp, e1, e2, Instr.lookup, getObj, Sem.run_bind, Sem.run, hh, Result.andThen_ok, run_underlying hT, Sem.run_pure, hc, hf]
  cases place k ks with
  | none => simp [hV.zero w]
  | some j => simp
theorem Ev.look2 (i : Nat) {T K V b k' bytes : Nat} {α : Type} [DecidableEq α] {f : α → Value} {ks : List α} {k : α} {o1 o2 : Operand} (h1 : Ov g L o1 (.lit (.map (some b)))) (hM : M[i]? = some (ME.obj b (mObj (ks.map f)))) (h2 : Ov g L o2 (.lit (f k)))
    (hT : x.P.underlying T = some (.map K V)) (hk : KeyKind x.P K f) (hV : Ty x.P V k' bytes (.int .i64 0)) :
    Ev x g L M (.lookup T o1 o2 true) ty (.tup [.lit (.int .i64 (((place k ks).getD 0 : Nat) : Int)), .lit (.bool (place k ks).isSome)]) := fun a w hs hg => by
  obtain ⟨hh, _⟩ := hs.mem.holds _ (List.mem_of_getElem? hM)
  have e1 := h1.lit hg hs
  have e2 := h2.lit hg hs
  simp only [mObj] at hh
  have hf := hk.find k ks w
  have hc := fun e => hk.check e k w
  refine ⟨.tuple #[.int .i64 (((place k ks).getD 0 : Nat) : Int), .bool (place k ks).isSome], ?_, rfl, ?_⟩
  · simp only [execOp, e1, e2, Instr.lookup, getObj, Sem.run_bind, Sem.run, hh, Result.andThen_ok, run_underlying hT, Sem.run_pure, hc, hf]
    cases place k ks with
    | none => simp [hV.zero w]
    | some j => simp
  · simp only [RepC]
    exact ⟨_, rfl, by simp only [RepT]; exact ⟨_, _, rfl, Rep.lit _, _, _, rfl, Rep.lit _, rfl⟩⟩
/-- a new key comes in, with its place -/
theorem W.mapnew (i : Nat) {T K V b : Nat} {α : Type} [DecidableEq α] {f : α → Value} {ks : List α} {k : α} {o1 o2 o3 : Operand} (h1 : Ov true L o1 (.lit (.map (some b)))) (hM : M[i]? = some (ME.obj b (mObj (ks.map f)))) (h2 : Ov true L o2 (.lit (f k)))
    (h3 : Ov true L o3 (.lit (.int .i64 (ks.length : Int)))) (hT : x.P.underlying T = some (.map K V)) (hk : KeyKind x.P K f) (hn : k ∉ ks) (op : Op) (hop : op = .mapUpdate T o1 o2 o3 ∨ op = .insert T o1 o2 o3)
    (next : W x L (M.set i (ME.obj b (mObj ((ks ++ [k]).map f)))) (wpList x.P ops Q rest)) :
    W x L M (wpList x.P ops Q (⟨none, op, ty, pos, aft, none⟩ :: rest)) := by
  refine W.opu (ι := Unit) (fun _ => M.set i (ME.obj b (mObj ((ks ++ [k]).map f)))) ?_ (fun _ => next)
  intro a w hs
  obtain ⟨hh, _⟩ := hs.mem.holds _ (List.mem_of_getElem? hM)
  have e1 := h1.lit rfl hs
  have e2 := h2.lit rfl hs
  have e3 := h3.lit rfl hs
  have hf := hk.find k ks w
  have hc := fun e => hk.check e k w
  rw [place_none.2 hn, Option.map_none] at hf
  refine ⟨{ w with heap := w.heap.setIfInBounds b (mObj ((ks ++ [k]).map f)) }, (), ?_, ?_⟩
  · have hnew : (mEnts 0 (ks.map f)).toArray.push ⟨f k, .int .i64 (ks.length : Int), ks.length⟩ = (mEnts 0 ((ks ++ [k]).map f)).toArray := by
      rw [List.map_append, List.map_cons, List.map_nil, mEnts_snoc, List.length_map]; simp
    simp only [mObj] at hh
    have hrun : (Instr.mapUpdate T (.map (some b)) (f k) (.int .i64 (ks.length : Int))).run x.P w = .ok () { w with heap := w.heap.setIfInBounds b (mObj ((ks ++ [k]).map f)) } := by
      simp only [Instr.mapUpdate, getObj, setObj, Sem.run_bind, Sem.run, hh, Result.andThen_ok, run_underlying hT, Sem.run_pure, hc, hf, List.length_map]
      simp only [mObj, hnew, List.length_map, List.length_append, List.length_singleton, hh]
    rcases hop with rfl | rfl
    · simp only [execOp, e1, e2, e3, Sem.run_bind, hrun, Result.andThen_ok, Sem.run_pure]
    · simp only [execOp, e1, e2, e3, Sem.run_bind, hrun, Result.andThen_ok, Sem.run_pure]
  · refine hs.write hM rfl rfl ?_
    intro w' _ hnew _
    exact ⟨hnew, by intro c T fr h; cases h⟩
end map
end Go.Vl
end

section
set_option linter.unusedVariables false
set_option linter.unusedSimpArgs false
set_option linter.unusedSectionVars false
namespace Go.Vl
section arrv
variable {x : Cx} {g : Bool} {L : List (Tmp × Bool × AV)} {M : List ME} {ty T : TypeId} {o1 o2 : Operand}
/-- the i-th cell of an array in a box -/
theorem Ev.boxat {E b bytes len : Nat} {z : Value} {i : Int} {ki : IntKind} (h1 : Ov g L o1 (.lit (.pointer (some ⟨b, 0, none⟩)))) (h2 : Ov g L o2 (.lit (.int ki i))) (hT : x.P.underlying T = some (.array len E)) (hE : Ty x.P E 1 bytes z)
    (hi : g = true → 0 ≤ i ∧ i < len) : Ev x g L M (.indexAddr T o1 o2) ty (.lit (.pointer (some ⟨b, i.toNat, none⟩))) := Ev.pure fun a w hs hg => by
  obtain ⟨hi0, hi1⟩ := hi hg
  simp [execOp, h1.lit hg hs, h2.lit hg hs, Instr.indexAt, Instr.sureAddr, asIntOf, run_underlying hT, hi0, hi1, hE.size, Addr.add_lit]
/-- the i-th cell of an array -/
theorem Ev.arrat {E len : Nat} {cs : List AV} {c : AV} {i : Int} {ki : IntKind} (h1 : Ov g L o1 (.agg cs)) (h2 : Ov g L o2 (.lit (.int ki i))) (hT : x.P.underlying T = some (.array len E)) (hE : x.P.underlying E = some (.int .i64))
    (hi : g = true → 0 ≤ i ∧ i < len ∧ cs[i.toNat]? = some c) (hz : Ty x.P E 1 8 (.int .i64 0)) : Ev x g L M (.index T o1 o2) ty c := fun a w hs hg => by
  obtain ⟨hi0, hi1, hc⟩ := hi hg
  obtain ⟨us, e1, hr⟩ := (h1.rep hg hs).agg_inv
  obtain ⟨v, hv, hrep⟩ := RepL.get hr hc
  refine ⟨v, ?_, hrep⟩
  have hv' : us[i.toNat]? = some v := by simpa using hv
  have hp : (part E us i.toNat).run x.P w = .ok v w := by
    have hag : (isAgg E).run x.P w = .ok false w := IsAgg.run ⟨_, hE, rfl⟩ w
    have hsz := hz.size w
    simp only [part, Sem.run_bind, hag, Result.andThen_ok]
    simp [hv']
  simp only [execOp, e1, h2.lit hg hs, Instr.index, asIntOf, Sem.run_bind, run_underlying hT, Result.andThen_ok, Sem.run_pure, hi0, hi1, hz.size w]
  simp [hi0, hi1, hp, Sem.run_bind, hz.size w]
end arrv
end Go.Vl
end

section
set_option linter.unusedVariables false
set_option linter.unusedSimpArgs false
namespace Go.Vl
namespace Au
def lives (w : Au) (i : Nat) : Prop := ∃ u, w.acc (i : Int) u
/-- the class that a letter leads to -/
def cto (w : Au) (out : Nat → Int) (i c : Nat) : Int := if 0 ≤ w.to (i : Int) (c : Int) then out (w.to (i : Int) (c : Int)).toNat else -1
/-- classes that are yet to be divided: so many -/
structure Moore (w : Au) (out : Nat → Int) (many : Nat) : Prop where
  neg : ∀ i, i < w.next.length → (out i < 0 ↔ ¬ w.lives i)
  same : ∀ i j, i < w.next.length → j < w.next.length → w.lives i → (∀ u, w.acc (i : Int) u ↔ w.acc (j : Int) u) → out i = out j
  fin : ∀ i j, i < w.next.length → j < w.next.length → 0 ≤ out i → out i = out j → w.final.getD i false = w.final.getD j false
  cnt : many ≠ 0 → (∀ i, i < w.next.length → out i < (many : Int)) ∧ ∀ v : Nat, v < many → ∃ i, i < w.next.length ∧ out i = (v : Int)
/-- they are divided once more, into m -/
structure Div (w : Au) (out next : Nat → Int) (m : Nat) : Prop where
  neg : ∀ i, i < w.next.length → (next i < 0 ↔ out i < 0)
  eq : ∀ i j, i < w.next.length → j < w.next.length → 0 ≤ out i → 0 ≤ out j → (next i = next j ↔ (out i = out j ∧ ∀ c : Nat, c < 8 → w.cto out i c = w.cto out j c))
  lt : ∀ i, i < w.next.length → next i < (m : Int)
  hit : ∀ v : Nat, v < m → ∃ i, i < w.next.length ∧ next i = (v : Int)
theorem to_state {w : Au} (hs : w.Shape) {i c : Nat} (hi : i < w.next.length) (hc : c < 8) : w.to (i : Int) (c : Int) < 0 ∨ ∃ j : Nat, j < w.next.length ∧ w.to (i : Int) (c : Int) = (j : Int) := by
  have := to_range hs (i := (i : Int)) (c := (c : Int)) (by omega) (by omega) (by omega) (by omega)
  rcases Int.lt_or_le (w.to (i : Int) (c : Int)) 0 with h | h
  · exact .inl h
  · exact .inr ⟨(w.to (i : Int) (c : Int)).toNat, by omega, by omega⟩
theorem cto_neg {w : Au} {out : Nat → Int} {i c : Nat} (h : w.to (i : Int) (c : Int) < 0) : w.cto out i c = -1 := by
  unfold cto; rw [if_neg (by omega)]
theorem cto_nat {w : Au} {out : Nat → Int} {i c j : Nat} (h : w.to (i : Int) (c : Int) = (j : Int)) : w.cto out i c = out j := by
  unfold cto; rw [h, if_pos (by omega)]; rfl
theorem acc_step {w : Au} (i : Nat) (c : Nat) (hc : c < 8) (u : List Int) : w.acc (i : Int) ((c : Int) :: u) ↔ w.acc (w.to (i : Int) (c : Int)) u := acc_cons (by omega) (by omega) (by omega)
section div
variable {w : Au} {out next : Nat → Int} {many m : Nat}
/-- what means the same leads to the same class -/
theorem Moore.step (hs : w.Shape) (h : w.Moore out many) {i j : Nat} (hi : i < w.next.length) (hj : j < w.next.length) (hl : ∀ u, w.acc (i : Int) u ↔ w.acc (j : Int) u) {c : Nat} (hc : c < 8) (hneg1 : ∀ k, k < w.next.length → out k < 0 → out k = -1) : w.cto out i c = w.cto out j c := by
  have hl2 : ∀ u, w.acc (w.to (i : Int) (c : Int)) u ↔ w.acc (w.to (j : Int) (c : Int)) u := fun u => by
    rw [← acc_step i c hc, ← acc_step j c hc]; exact hl _
  rcases to_state hs hi hc with h1 | ⟨a, ha, h1⟩ <;> rcases to_state hs hj hc with h2 | ⟨b, hb, h2⟩
  · rw [cto_neg h1, cto_neg h2]
  · rw [cto_neg h1, cto_nat h2]
    rw [h2] at hl2
    have : out b < 0 := (h.neg b hb).2 fun ⟨u, hu⟩ => acc_neg h1 u ((hl2 u).2 hu)
    rw [hneg1 b hb this]
  · rw [cto_nat h1, cto_neg h2]
    rw [h1] at hl2
    have : out a < 0 := (h.neg a ha).2 fun ⟨u, hu⟩ => acc_neg h2 u ((hl2 u).1 hu)
    rw [hneg1 a ha this]
  · rw [cto_nat h1, cto_nat h2]
    rw [h1, h2] at hl2
    by_cases hlv : w.lives a
    · exact h.same a b ha hb hlv hl2
    · have h3 := (h.neg a ha).2 hlv
      have h4 : out b < 0 := (h.neg b hb).2 fun ⟨u, hu⟩ => hlv ⟨u, (hl2 u).2 hu⟩
      rw [hneg1 a ha h3, hneg1 b hb h4]
theorem Moore.div (hs : w.Shape) (h : w.Moore out many) (hn : ∀ k, k < w.next.length → out k < 0 → out k = -1) (hd : w.Div out next m) : w.Moore next m := by
  refine ⟨fun i hi => (hd.neg i hi).trans (h.neg i hi), fun i j hi hj hl he => ?_, fun i j hi hj h0 he => ?_, fun _ => ⟨hd.lt, hd.hit⟩⟩
  · have hi0 : 0 ≤ out i := Int.not_lt.1 fun h' => ((h.neg i hi).1 h') hl
    have hlj : w.lives j := by obtain ⟨u, hu⟩ := hl; exact ⟨u, (he u).1 hu⟩
    have hj0 : 0 ≤ out j := Int.not_lt.1 fun h' => ((h.neg j hj).1 h') hlj
    exact (hd.eq i j hi hj hi0 hj0).2 ⟨h.same i j hi hj hl he, fun c hc => h.step hs hi hj he hc hn⟩
  · have hi0 : 0 ≤ out i := Int.not_lt.1 fun h' => by have := (hd.neg i hi).2 h'; omega
    have hj0 : 0 ≤ out j := Int.not_lt.1 fun h' => by have := (hd.neg j hj).2 h'; omega
    exact h.fin i j hi hj hi0 ((hd.eq i j hi hj hi0 hj0).1 he).1
/-- not fewer than there were -/
theorem Moore.grows (h : w.Moore out many) (hd : w.Div out next m) : many ≤ m := by
  classical
  rcases Nat.eq_zero_or_pos many with h0 | h0
  · omega
  · obtain ⟨_, hh⟩ := h.cnt (by omega)
    let g : Nat → Nat := fun v => if hv : v < many then (next (Classical.choose (hh v hv))).toNat else 0
    refine pigeon m many g (fun v hv => ?_) (fun v u hv hu e => ?_)
    · simp only [g, dif_pos hv]
      obtain ⟨h1, h2⟩ := Classical.choose_spec (hh v hv)
      have h3 := hd.lt _ h1
      have h4 : ¬ next (Classical.choose (hh v hv)) < 0 := fun h' => by have := (hd.neg _ h1).1 h'; omega
      omega
    · simp only [g, dif_pos hv, dif_pos hu] at e
      obtain ⟨h1, h2⟩ := Classical.choose_spec (hh v hv)
      obtain ⟨h3, h4⟩ := Classical.choose_spec (hh u hu)
      have h5 : ¬ next (Classical.choose (hh v hv)) < 0 := fun h' => by have := (hd.neg _ h1).1 h'; omega
      have h6 : ¬ next (Classical.choose (hh u hu)) < 0 := fun h' => by have := (hd.neg _ h3).1 h'; omega
      have := ((hd.eq _ _ h1 h3 (by omega) (by omega)).1 (by omega)).1
      omega
/-- not more than there are states -/
theorem Div.most (hd : w.Div out next m) : m ≤ w.next.length := by
  classical
  let g : Nat → Nat := fun v => if hv : v < m then Classical.choose (hd.hit v hv) else 0
  refine pigeon w.next.length m g (fun v hv => ?_) (fun v u hv hu e => ?_)
  · simp only [g, dif_pos hv]; exact (Classical.choose_spec (hd.hit v hv)).1
  · simp only [g, dif_pos hv, dif_pos hu] at e
    have h1 := (Classical.choose_spec (hd.hit v hv)).2
    have h2 := (Classical.choose_spec (hd.hit u hu)).2
    rw [e] at h1
    omega
/-- as_ many as_ before: the same ones -/
theorem Moore.still (h : w.Moore out many) (hd : w.Div out next many) {i j : Nat} (hi : i < w.next.length) (hj : j < w.next.length) (hi0 : 0 ≤ out i) (he : out i = out j) : next i = next j := by
  classical
  by_cases hne : next i = next j
  · exact hne
  exfalso
  have hj0 : 0 ≤ out j := by omega
  have ni : 0 ≤ next i := Int.not_lt.1 fun h' => by have := (hd.neg i hi).1 h'; omega
  have nj : 0 ≤ next j := Int.not_lt.1 fun h' => by have := (hd.neg j hj).1 h'; omega
  have hm : many ≠ 0 := fun h0 => by have := hd.lt i hi; omega
  obtain ⟨hlt, hh⟩ := h.cnt hm
  -- a state of each class; that of i's class is i
  let rep : Nat → Nat := fun v => if (v : Int) = out i then i else if hv : v < many then Classical.choose (hh v hv) else 0
  have hrep : ∀ v, v < many → rep v < w.next.length ∧ out (rep v) = (v : Int) := fun v hv => by
    by_cases e : (v : Int) = out i
    · have : rep v = i := if_pos e
      rw [this]; exact ⟨hi, e.symm⟩
    · have : rep v = Classical.choose (hh v hv) := by simp only [rep]; rw [if_neg e, dif_pos hv]
      rw [this]; exact Classical.choose_spec (hh v hv)
  have hnot : ∀ v, v < many → next (rep v) ≠ next j := fun v hv e => by
    obtain ⟨h1, h2⟩ := hrep v hv
    have h3 : out (rep v) = out j := ((hd.eq _ _ h1 hj (by omega) hj0).1 e).1
    have h4 : rep v = i := by simp only [rep]; rw [if_pos (by omega)]
    rw [h4] at e
    exact hne e
  have hpos : ∀ v, v < many → 0 ≤ next (rep v) := fun v hv => by
    obtain ⟨h1, h2⟩ := hrep v hv
    exact Int.not_lt.1 fun h' => by have := (hd.neg _ h1).1 h'; omega
  have := pigeon (many - 1) many (fun v => if next (rep v) < next j then (next (rep v)).toNat else (next (rep v)).toNat - 1) (fun v hv => by
      have h1 := hnot v hv; have h2 := hpos v hv; have h3 := hd.lt _ (hrep v hv).1; have h4 := hd.lt j hj
      show (if next (rep v) < next j then (next (rep v)).toNat else (next (rep v)).toNat - 1) < many - 1
      split <;> omega) (fun v u hv hu e => by
      have h1 := hnot v hv; have h2 := hpos v hv
      have g1 := hnot u hu; have g2 := hpos u hu
      have e : next (rep v) = next (rep u) := by
        have e : (if next (rep v) < next j then (next (rep v)).toNat else (next (rep v)).toNat - 1) = (if next (rep u) < next j then (next (rep u)).toNat else (next (rep u)).toNat - 1) := e
        split at e <;> split at e <;> omega
      obtain ⟨a1, a2⟩ := hrep v hv
      obtain ⟨b1, b2⟩ := hrep u hu
      have := ((hd.eq _ _ a1 b1 (by omega) (by omega)).1 e).1
      omega)
  omega
/-- as_ many as_ before: those of one class mean the same -/
theorem Moore.done (hs : w.Shape) (h : w.Moore out many) (hd : w.Div out next many) (hn : ∀ k, k < w.next.length → out k < 0 → out k = -1) :
    ∀ (u : List Int) (i j : Nat), i < w.next.length → j < w.next.length → 0 ≤ next i → next i = next j → (w.acc (i : Int) u ↔ w.acc (j : Int) u) := by
  intro u
  induction u with
  | nil =>
    intro i j hi hj h0 he
    have hi0 : 0 ≤ out i := Int.not_lt.1 fun h' => by have := (hd.neg i hi).2 h'; omega
    have hj0 : 0 ≤ out j := Int.not_lt.1 fun h' => by have := (hd.neg j hj).2 h'; omega
    have := h.fin i j hi hj hi0 ((hd.eq i j hi hj hi0 hj0).1 he).1
    simp only [acc, Int.toNat_natCast, this]
    exact ⟨fun h => ⟨by omega, h.2⟩, fun h => ⟨by omega, h.2⟩⟩
  | cons c u ih =>
    intro i j hi hj h0 he
    have hi0 : 0 ≤ out i := Int.not_lt.1 fun h' => by have := (hd.neg i hi).2 h'; omega
    have hj0 : 0 ≤ out j := Int.not_lt.1 fun h' => by have := (hd.neg j hj).2 h'; omega
    by_cases hc : 0 ≤ c ∧ c < 8
    · obtain ⟨c, rfl⟩ : ∃ k : Nat, c = (k : Int) := ⟨c.toNat, by omega⟩
      rw [acc_step i c (by omega), acc_step j c (by omega)]
      have hct := ((hd.eq i j hi hj hi0 hj0).1 he).2 c (by omega)
      rcases to_state hs hi (c := c) (by omega) with h1 | ⟨a, ha, h1⟩ <;> rcases to_state hs hj (c := c) (by omega) with h2 | ⟨b, hb, h2⟩
      · exact ⟨fun h => absurd h (acc_neg h1 _), fun h => absurd h (acc_neg h2 _)⟩
      · rw [cto_neg h1, cto_nat h2] at hct
        have hnl := (h.neg b hb).1 (by omega)
        rw [h2]
        exact ⟨fun h => absurd h (acc_neg h1 _), fun h => absurd ⟨u, h⟩ hnl⟩
      · rw [cto_nat h1, cto_neg h2] at hct
        have hnl := (h.neg a ha).1 (by omega)
        rw [h1]
        exact ⟨fun h => absurd ⟨u, h⟩ hnl, fun h => absurd h (acc_neg h2 _)⟩
      · rw [cto_nat h1, cto_nat h2] at hct
        rw [h1, h2]
        rcases Int.lt_or_le (out a) 0 with h3 | h3
        · have n1 := (h.neg a ha).1 h3
          have n2 := (h.neg b hb).1 (by omega)
          exact ⟨fun h => absurd ⟨u, h⟩ n1, fun h => absurd ⟨u, h⟩ n2⟩
        · have h4 := h.still hd ha hb h3 hct
          refine ih a b ha hb (Int.not_lt.1 fun h' => by have := (hd.neg a ha).1 h'; omega) h4
    · simp only [acc]
      exact ⟨fun h => absurd ⟨h.2.1, h.2.2.1⟩ hc, fun h => absurd ⟨h.2.1, h.2.2.1⟩ hc⟩
end div
/-- CLASSES OF STATES: those of one class mean the same; -1: they lead nowhere. -/
structure Cls (w : Au) (cl : Nat → Int) : Prop where
  neg : ∀ i, i < w.next.length → (cl i < 0 ↔ ¬ w.lives i)
  eq : ∀ i j, i < w.next.length → j < w.next.length → 0 ≤ cl i → (cl i = cl j ↔ ∀ u, w.acc (i : Int) u ↔ w.acc (j : Int) u)
theorem Moore.cls {w : Au} {out next : Nat → Int} {many : Nat} (hs : w.Shape) (h : w.Moore out many) (hn : ∀ k, k < w.next.length → out k < 0 → out k = -1) (hd : w.Div out next many) : w.Cls next := by
  have h2 := h.div hs hn hd
  refine ⟨h2.neg, fun i j hi hj h0 => ⟨fun he u => h.done hs hd hn u i j hi hj h0 he, fun he => h2.same i j hi hj ?_ he⟩⟩
  exact Classical.byContradiction fun h' => by have := (h2.neg i hi).2 h'; omega

/-! ### a machine in order -/
/-- states (of the wide machine) that are met, and rows: all entries ahead of (i, c) -/
structure Bfs (w : Au) (cl : Nat → Int) (S : List Nat) (T : Nat → Nat → Int) (i c : Nat) : Prop where
  zero : S.getD 0 0 = 0 ∧ 0 < S.length
  lt : ∀ k, k < S.length → S.getD k 0 < w.next.length ∧ 0 ≤ cl (S.getD k 0)
  apart : ∀ j k, j < S.length → k < S.length → cl (S.getD j 0) = cl (S.getD k 0) → j = k
  ent : ∀ i' c', (i' < i ∨ i' = i ∧ c' < c) → c' < 8 → i' < S.length → (T i' c' = -1 ∧ w.cto cl (S.getD i' 0) c' < 0) ∨ ∃ k : Nat, k < S.length ∧ T i' c' = (k : Int) ∧ cl (S.getD k 0) = w.cto cl (S.getD i' 0) c'
  first : ∀ k, 0 < k → k < S.length → ∃ i' c', (i' < i ∨ i' = i ∧ c' < c) ∧ i' < k ∧ c' < 8 ∧ T i' c' = (k : Int) ∧ ∀ i2 c2, (i2 < i' ∨ i2 = i' ∧ c2 < c') → c2 < 8 → T i2 c2 < (k : Int)
theorem Bfs.congr {w : Au} {cl : Nat → Int} {S : List Nat} {T T' : Nat → Nat → Int} {i c : Nat} (h : Bfs w cl S T i c) (hT : ∀ i' c', (i' < i ∨ i' = i ∧ c' < c) → c' < 8 → T' i' c' = T i' c') : Bfs w cl S T' i c := by
  refine ⟨h.zero, h.lt, h.apart, fun i' c' hp hc hi => ?_, fun k h0 hk => ?_⟩
  · rw [hT i' c' hp hc]; exact h.ent i' c' hp hc hi
  · obtain ⟨i', c', hp, h1, h2, h3, h4⟩ := h.first k h0 hk
    refine ⟨i', c', hp, h1, h2, by rw [hT i' c' hp h2]; exact h3, fun i2 c2 hp2 hc2 => ?_⟩
    rw [hT i2 c2 (by omega) hc2]; exact h4 i2 c2 hp2 hc2
theorem Bfs.start {w : Au} {cl : Nat → Int} (T : Nat → Nat → Int) (hs : w.Shape) (h : 0 ≤ cl 0) : Bfs w cl [0] T 0 0 := by
  refine ⟨⟨rfl, by simp⟩, fun k hk => ?_, fun j k hj hk _ => ?_, fun i' c' hp _ _ => by omega, fun k h0 hk => ?_⟩
  · obtain rfl : k = 0 := by simpa using hk
    exact ⟨hs.pos, h⟩
  · simp only [List.length_singleton] at hj hk; omega
  · simp only [List.length_singleton] at hk; omega
/-- a row is done -/
theorem Bfs.row {w : Au} {cl : Nat → Int} {S : List Nat} {T : Nat → Nat → Int} {i : Nat} (h : Bfs w cl S T i 8) : Bfs w cl S T (i + 1) 0 := by
  refine ⟨h.zero, h.lt, h.apart, fun i' c' hp hc hi => h.ent i' c' (by omega) hc hi, fun k h0 hk => ?_⟩
  obtain ⟨i', c', hp, h1, h2, h3, h4⟩ := h.first k h0 hk
  exact ⟨i', c', by omega, h1, h2, h3, h4⟩
section bfs
variable {w : Au} {cl : Nat → Int} {S : List Nat} {T : Nat → Nat → Int} {i c : Nat}
/-- a letter that leads nowhere -/
theorem Bfs.none (h : Bfs w cl S T i c) (hT : T i c = -1) (hn : w.cto cl (S.getD i 0) c < 0) : Bfs w cl S T i (c + 1) := by
  refine ⟨h.zero, h.lt, h.apart, fun i' c' hp hc hi => ?_, fun k h0 hk => ?_⟩
  · by_cases hh : i' < i ∨ i' = i ∧ c' < c
    · exact h.ent i' c' hh hc hi
    · obtain ⟨rfl, rfl⟩ : i' = i ∧ c' = c := by omega
      exact .inl ⟨hT, hn⟩
  · obtain ⟨i', c', hp, h1, h2, h3, h4⟩ := h.first k h0 hk
    exact ⟨i', c', by omega, h1, h2, h3, h4⟩
/-- to a state that was met -/
theorem Bfs.old (h : Bfs w cl S T i c) {k : Nat} (hT : T i c = (k : Int)) (hk : k < S.length) (he : cl (S.getD k 0) = w.cto cl (S.getD i 0) c) : Bfs w cl S T i (c + 1) := by
  refine ⟨h.zero, h.lt, h.apart, fun i' c' hp hc hi => ?_, fun k h0 hk => ?_⟩
  · by_cases hh : i' < i ∨ i' = i ∧ c' < c
    · exact h.ent i' c' hh hc hi
    · obtain ⟨rfl, rfl⟩ : i' = i ∧ c' = c := by omega
      exact .inr ⟨k, hk, hT, he⟩
  · obtain ⟨i', c', hp, h1, h2, h3, h4⟩ := h.first k h0 hk
    exact ⟨i', c', by omega, h1, h2, h3, h4⟩
theorem getD_snoc_lt {α : Type} (z : α) (l : List α) (x : α) (k : Nat) (h : k < l.length) : (l ++ [x]).getD k z = l.getD k z := by
  rw [List.getD_eq_getElem?_getD, List.getD_eq_getElem?_getD, List.getElem?_append_left h]
theorem getD_snoc_eq {α : Type} (z : α) (l : List α) (x : α) : (l ++ [x]).getD l.length z = x := by
  rw [List.getD_eq_getElem?_getD, List.getElem?_append_right (Nat.le_refl _)]; simp
/-- to a new one -/
theorem Bfs.new (h : Bfs w cl S T i c) {t : Nat} (hT : T i c = (S.length : Int)) (hi : i < S.length) (hc : c < 8) (ht : t < w.next.length) (hto : w.to ((S.getD i 0 : Nat) : Int) (c : Int) = (t : Int)) (h0 : 0 ≤ cl t) (hnew : ∀ k, k < S.length → cl (S.getD k 0) ≠ cl t) :
    Bfs w cl (S ++ [t]) T i (c + 1) := by
  have hl : (S ++ [t]).length = S.length + 1 := by simp
  refine ⟨⟨by rw [getD_snoc_lt 0 S t 0 h.zero.2]; exact h.zero.1, by omega⟩, fun k hk => ?_, fun j k hj hk e => ?_, fun i' c' hp hc' hi' => ?_, fun k hk0 hk => ?_⟩
  · rcases Nat.lt_or_ge k S.length with h1 | h1
    · rw [getD_snoc_lt 0 S t k h1]; exact h.lt k h1
    · obtain rfl : k = S.length := by omega
      rw [getD_snoc_eq]; exact ⟨ht, h0⟩
  · rcases Nat.lt_or_ge k S.length with h1 | h1 <;> rcases Nat.lt_or_ge j S.length with h2 | h2
    · rw [getD_snoc_lt 0 S t k h1, getD_snoc_lt 0 S t j h2] at e; exact h.apart j k h2 h1 e
    · obtain rfl : j = S.length := by omega
      rw [getD_snoc_lt 0 S t k h1, getD_snoc_eq] at e; exact absurd e.symm (hnew k h1)
    · obtain rfl : k = S.length := by omega
      rw [getD_snoc_lt 0 S t j h2, getD_snoc_eq] at e; exact absurd e (hnew j h2)
    · omega
  · by_cases hh : i' < i ∨ i' = i ∧ c' < c
    · have hi2 : i' < S.length := by omega
      rw [getD_snoc_lt 0 S t i' hi2]
      rcases h.ent i' c' hh hc' hi2 with h1 | ⟨k, h1, h2, h3⟩
      · exact .inl h1
      · exact .inr ⟨k, by omega, h2, by rw [getD_snoc_lt 0 S t k h1]; exact h3⟩
    · obtain ⟨rfl, rfl⟩ : i' = i ∧ c' = c := by omega
      refine .inr ⟨S.length, by omega, hT, ?_⟩
      rw [getD_snoc_eq, getD_snoc_lt 0 S t i' hi, cto_nat hto]
  · rcases Nat.lt_or_ge k S.length with h1 | h1
    · obtain ⟨i', c', hp, h2, h3, h4, h5⟩ := h.first k hk0 h1
      exact ⟨i', c', by omega, h2, h3, h4, h5⟩
    · obtain rfl : k = S.length := by omega
      refine ⟨i, c, by omega, hi, hc, hT, fun i2 c2 hp2 hc2 => ?_⟩
      rcases h.ent i2 c2 (by omega) hc2 (by omega) with ⟨h2, _⟩ | ⟨k, h2, h3, _⟩ <;> omega
/-- A MACHINE IN ORDER that means what the wide one means. -/
theorem Bfs.canon {a : Au} (hs : w.Shape) (hc : w.Cls cl) (h : Bfs w cl S T S.length 0) (hn : a.next.length = S.length) (hf : a.final = S.map fun k => w.final.getD k false)
    (hrow : ∀ k, k < S.length → (a.next.getD k []).length = 8) (ha : ∀ k c : Nat, k < S.length → c < 8 → a.to (k : Int) (c : Int) = T k c) : a.Canon ∧ ∀ u, a.acc 0 u ↔ w.acc 0 u := by
  have hfin : ∀ k, k < S.length → a.final.getD k false = w.final.getD (S.getD k 0) false := fun k hk => by
    rw [hf, List.getD_eq_getElem?_getD, List.getElem?_map, List.getD_eq_getElem?_getD (l := S), List.getElem?_eq_getElem hk]; rfl
  have hent : ∀ k c, k < S.length → c < 8 → (T k c = -1 ∧ w.cto cl (S.getD k 0) c < 0) ∨ ∃ j : Nat, j < S.length ∧ T k c = (j : Int) ∧ cl (S.getD j 0) = w.cto cl (S.getD k 0) c := fun k c hk hc => h.ent k c (.inl hk) hc hk
  have hacc : ∀ (u : List Int) (k : Nat), k < S.length → (a.acc (k : Int) u ↔ w.acc ((S.getD k 0 : Nat) : Int) u) := by
    intro u
    induction u with
    | nil =>
      intro k hk
      simp only [acc, Int.toNat_natCast, hfin k hk]
      exact ⟨fun h => ⟨by omega, h.2⟩, fun h => ⟨by omega, h.2⟩⟩
    | cons c u ih =>
      intro k hk
      by_cases hcc : 0 ≤ c ∧ c < 8
      · obtain ⟨c, rfl⟩ : ∃ k : Nat, c = (k : Int) := ⟨c.toNat, by omega⟩
        rw [acc_step k c (by omega), acc_step _ c (by omega), ha k c hk (by omega)]
        obtain ⟨hlt, hcl⟩ := h.lt k hk
        rcases hent k c hk (by omega) with ⟨h1, h2⟩ | ⟨j, h1, h2, h3⟩
        · rw [h1]
          refine ⟨fun h => absurd h (acc_neg (by decide) _), fun h => ?_⟩
          rcases to_state hs hlt (c := c) (by omega) with h4 | ⟨b, hb, h4⟩
          · exact absurd h (acc_neg h4 _)
          · rw [cto_nat h4] at h2
            rw [h4] at h
            exact absurd ⟨u, h⟩ ((hc.neg b hb).1 h2)
        · rw [h2, ih j h1]
          obtain ⟨jlt, jcl⟩ := h.lt j h1
          rcases to_state hs hlt (c := c) (by omega) with h4 | ⟨b, hb, h4⟩
          · rw [cto_neg h4] at h3; omega
          · rw [cto_nat h4] at h3
            rw [h4]
            exact (hc.eq _ b jlt hb jcl).1 h3 u
      · simp only [acc]
        exact ⟨fun h => absurd ⟨h.2.1, h.2.2.1⟩ hcc, fun h => absurd ⟨h.2.1, h.2.2.1⟩ hcc⟩
  have hz : ((S.getD 0 0 : Nat) : Int) = 0 := by rw [h.zero.1]; rfl
  refine ⟨⟨⟨by rw [hn]; exact h.zero.2, by rw [hf, List.length_map, hn], fun k hk => hrow k (by omega), fun k hk c hc8 => ?_⟩, fun k hk => ?_, fun j k hj hk he => ?_, fun k hk0 hk => ?_⟩, fun u => ?_⟩
  · have h1 := ha k c (by omega) hc8
    simp only [to, Int.toNat_natCast] at h1
    rw [h1, hn]
    rcases hent k c (by omega) hc8 with ⟨h2, _⟩ | ⟨j, h2, h3, _⟩ <;> omega
  · obtain ⟨hlt, hcl⟩ := h.lt k (by omega)
    have : w.lives (S.getD k 0) := Classical.byContradiction fun h' => by have := (hc.neg _ hlt).2 h'; omega
    obtain ⟨u, hu⟩ := this
    exact ⟨u, (hacc u k (by omega)).2 hu⟩
  · obtain ⟨jlt, jcl⟩ := h.lt j (by omega)
    obtain ⟨klt, kcl⟩ := h.lt k (by omega)
    exact h.apart j k (by omega) (by omega) ((hc.eq _ _ jlt klt jcl).2 fun u => (hacc u j (by omega)).symm.trans ((he u).trans (hacc u k (by omega))))
  · obtain ⟨i', c', hp, h1, h2, h3, h4⟩ := h.first k hk0 (by omega)
    refine ⟨i', c', h1, h2, by rw [ha i' c' (by omega) h2]; exact h3, fun i2 c2 hp2 hc2 => ?_⟩
    rw [ha i2 c2 (by omega) hc2]; exact h4 i2 c2 hp2 hc2
  · have := hacc u 0 h.zero.2
    rw [hz] at this
    exact this
end bfs
end Au
end Go.Vl
end

section
set_option linter.unusedVariables false
set_option linter.unusedSimpArgs false
namespace Go.Vl
namespace Au
/-- is a state an end? -/
def fin (a : Au) (i : Int) : Bool := decide (0 ≤ i) && a.final.getD i.toNat false
theorem acc_nil (a : Au) (i : Int) : a.acc i [] ↔ a.fin i = true := by simp [acc, fin]
def stp (a b : Au) (p : Int × Int) (c : Nat) : Int × Int := (if 0 ≤ p.1 then a.to p.1 (c : Int) else -1, if 0 ≤ p.2 then b.to p.2 (c : Int) else -1)
structure PIn (a b : Au) (p : Int × Int) : Prop where
  l1 : -1 ≤ p.1
  u1 : p.1 < a.next.length
  l2 : -1 ≤ p.2
  u2 : p.2 < b.next.length
theorem PIn.stp {a b : Au} (ha : a.Shape) (hb : b.Shape) {p : Int × Int} (h : PIn a b p) {c : Nat} (hc : c < 8) : PIn a b (stp a b p c) := by
  have pa := ha.pos
  have pb := hb.pos
  refine ⟨?_, ?_, ?_, ?_⟩ <;> simp only [Au.stp]
  · split
    · rename_i h0; exact (to_range ha h0 h.u1 (by omega) (by omega)).1
    · omega
  · split
    · rename_i h0; exact (to_range ha h0 h.u1 (by omega) (by omega)).2
    · omega
  · split
    · rename_i h0; exact (to_range hb h0 h.u2 (by omega) (by omega)).1
    · omega
  · split
    · rename_i h0; exact (to_range hb h0 h.u2 (by omega) (by omega)).2
    · omega
/-- both read the words behind a pair -/
theorem acc_stp1 {a b : Au} {p : Int × Int} {c : Nat} (hc : c < 8) (u : List Int) : a.acc p.1 ((c : Int) :: u) ↔ a.acc (stp a b p c).1 u := by
  simp only [stp]
  split
  · rename_i h; exact acc_cons h (by omega) (by omega)
  · rename_i h; exact ⟨fun h' => absurd h' (acc_neg (by omega) _), fun h' => absurd h' (acc_neg (by decide) _)⟩
theorem acc_stp2 {a b : Au} {p : Int × Int} {c : Nat} (hc : c < 8) (u : List Int) : b.acc p.2 ((c : Int) :: u) ↔ b.acc (stp a b p c).2 u := by
  simp only [stp]
  split
  · rename_i h; exact acc_cons h (by omega) (by omega)
  · rename_i h; exact ⟨fun h' => absurd h' (acc_neg (by omega) _), fun h' => absurd h' (acc_neg (by decide) _)⟩
/-- all pairs that are met -/
structure Prs (a b : Au) (all : List (Int × Int)) (T : Nat → Nat → Nat) : Prop where
  zero : all.getD 0 (0, 0) = (0, 0) ∧ 0 < all.length
  rng : ∀ p ∈ all, PIn a b p
  ent : ∀ k c, k < all.length → c < 8 → T k c < all.length ∧ all.getD (T k c) (0, 0) = stp a b (all.getD k (0, 0)) c
  met : ∀ p ∈ all, ∃ u : List Nat, (∀ c ∈ u, c < 8) ∧ p = u.foldl (stp a b) (0, 0)
/-- the same words are read from a pair -/
def psame (a b : Au) (p : Int × Int) : Prop := ∀ u, a.acc p.1 u ↔ b.acc p.2 u
theorem foldl_same {a b : Au} : ∀ (u : List Nat) (p : Int × Int), (∀ c ∈ u, c < 8) → psame a b p → psame a b (u.foldl (stp a b) p)
  | [], p, _, h => h
  | c :: u, p, hu, h => by
    refine foldl_same u _ (fun d hd => hu d (List.mem_cons_of_mem _ hd)) fun v => ?_
    have hc := hu c List.mem_cons_self
    rw [← acc_stp1 hc, ← acc_stp2 hc]; exact h _
theorem Prs.same {a b : Au} {all : List (Int × Int)} {T : Nat → Nat → Nat} (h : Prs a b all T) : (∀ p ∈ all, a.fin p.1 = b.fin p.2) ↔ ∀ u, a.acc 0 u ↔ b.acc 0 u := by
  constructor
  · intro hf
    have key : ∀ (u : List Int) (k : Nat), k < all.length → (a.acc (all.getD k (0, 0)).1 u ↔ b.acc (all.getD k (0, 0)).2 u) := by
      intro u
      induction u with
      | nil =>
        intro k hk
        rw [acc_nil, acc_nil, hf _ (getD_memG (0, 0) all k hk)]
      | cons c u ih =>
        intro k hk
        by_cases hc : 0 ≤ c ∧ c < 8
        · obtain ⟨c, rfl⟩ : ∃ k : Nat, c = (k : Int) := ⟨c.toNat, by omega⟩
          have h1 := h.ent k c hk (by omega)
          rw [acc_stp1 (b := b) (by omega), acc_stp2 (a := a) (by omega), ← h1.2]
          exact ih _ h1.1
        · simp only [acc]
          exact ⟨fun h => absurd ⟨h.2.1, h.2.2.1⟩ hc, fun h => absurd ⟨h.2.1, h.2.2.1⟩ hc⟩
    intro u
    have := key u 0 h.zero.2
    rw [h.zero.1] at this
    exact this
  · intro hs p hp
    obtain ⟨u, hu, rfl⟩ := h.met p hp
    have := foldl_same u (0, 0) hu hs []
    rw [acc_nil, acc_nil] at this
    exact Bool.eq_iff_iff.2 this
/-- THE MACHINE OF BOTH. -/
theorem Prs.both {a b w : Au} {all : List (Int × Int)} {T : Nat → Nat → Nat} (h : Prs a b all T) (hn : w.next.length = all.length) (hf : w.final = all.map fun p => a.fin p.1 && b.fin p.2)
    (hrow : ∀ k, k < all.length → (w.next.getD k []).length = 8) (hw : ∀ k c : Nat, k < all.length → c < 8 → w.to (k : Int) (c : Int) = (T k c : Int)) : w.Shape ∧ ∀ u, w.acc 0 u ↔ a.acc 0 u ∧ b.acc 0 u := by
  refine ⟨⟨by rw [hn]; exact h.zero.2, by rw [hf, List.length_map, hn], fun k hk => hrow k (by omega), fun k hk c hc => ?_⟩, ?_⟩
  · have h1 := hw k c (by omega) hc
    simp only [to, Int.toNat_natCast] at h1
    have := (h.ent k c (by omega) hc).1
    rw [h1]; omega
  · have key : ∀ (u : List Int) (k : Nat), k < all.length → (w.acc (k : Int) u ↔ a.acc (all.getD k (0, 0)).1 u ∧ b.acc (all.getD k (0, 0)).2 u) := by
      intro u
      induction u with
      | nil =>
        intro k hk
        rw [acc_nil, acc_nil, acc_nil]
        have : w.fin (k : Int) = (a.fin (all.getD k (0, 0)).1 && b.fin (all.getD k (0, 0)).2) := by
          rw [fin, hf]
          simp only [Int.toNat_natCast, List.getD_eq_getElem?_getD, List.getElem?_map, List.getElem?_eq_getElem hk]
          simp
        rw [this, Bool.and_eq_true]
      | cons c u ih =>
        intro k hk
        by_cases hc : 0 ≤ c ∧ c < 8
        · obtain ⟨c, rfl⟩ : ∃ k : Nat, c = (k : Int) := ⟨c.toNat, by omega⟩
          have h1 := h.ent k c hk (by omega)
          rw [acc_step k c (by omega), hw k c hk (by omega), acc_stp1 (b := b) (by omega), acc_stp2 (a := a) (by omega), ← h1.2]
          exact ih _ h1.1
        · simp only [acc]
          exact ⟨fun h => absurd ⟨h.2.1, h.2.2.1⟩ hc, fun h => absurd ⟨h.1.2.1, h.1.2.2.1⟩ hc⟩
    intro u
    have := key u 0 h.zero.2
    rw [h.zero.1] at this
    exact this

/-! ### how many words -/
def sum8 (f : Nat → Nat) : Nat := f 0 + f 1 + f 2 + f 3 + f 4 + f 5 + f 6 + f 7
/-- how many words of so many letters are read from a state on -/
def cnt (a : Au) : Nat → Int → Nat
  | 0, i => if a.fin i = true then 1 else 0
  | n + 1, i => if 0 ≤ i then sum8 fun c => cnt a n (a.to i (c : Int)) else 0
theorem sum8_le {f g : Nat → Nat} (h : ∀ c, c < 8 → f c ≤ g c) : sum8 f ≤ sum8 g := by
  have h0 := h 0 (by decide); have h1 := h 1 (by decide); have h2 := h 2 (by decide); have h3 := h 3 (by decide)
  have h4 := h 4 (by decide); have h5 := h 5 (by decide); have h6 := h 6 (by decide); have h7 := h 7 (by decide)
  simp only [sum8]; omega
theorem cnt_neg {a : Au} {i : Int} (h : i < 0) (n : Nat) : cnt a n i = 0 := by
  cases n with
  | zero => rw [cnt, if_neg]; simp [fin]; omega
  | succ n => rw [cnt, if_neg (by omega)]
theorem cnt_le (a : Au) : ∀ (n : Nat) (i : Int), cnt a n i ≤ 8 ^ n
  | 0, i => by rw [cnt]; split <;> simp
  | n + 1, i => by
    rw [cnt]
    split
    · have h : sum8 (fun c => cnt a n (a.to i (c : Int))) ≤ sum8 (fun _ => 8 ^ n) := sum8_le fun c _ => cnt_le a n _
      have h2 : sum8 (fun _ => 8 ^ n) = 8 * 8 ^ n := by simp only [sum8]; omega
      rw [Nat.pow_succ]; omega
    · exact Nat.zero_le _
/-- words of three letters, one by one -/
def dig : Nat → Nat → List Int
  | 0, _ => []
  | n + 1, x => ((x % 3 : Nat) : Int) :: dig n (x / 3)
def found (a : Au) (n : Nat) (i : Int) (m : Nat) : Nat := ((List.range m).filter fun x => a.fin (a.run i (dig n x))).length
/-- pairs that are known while rows are made: rows ahead of i are done, and of row i the letters ahead of c -/
structure Prb (a b : Au) (all : List (Int × Int)) (T : Nat → Nat → Nat) (i c : Nat) : Prop where
  zero : all.getD 0 (0, 0) = (0, 0) ∧ 0 < all.length
  nodup : all.Nodup
  rng : ∀ p ∈ all, PIn a b p
  ent : ∀ k d, k < all.length → d < 8 → (k < i ∨ (k = i ∧ d < c)) → T k d < all.length ∧ all.getD (T k d) (0, 0) = stp a b (all.getD k (0, 0)) d
  met : ∀ p ∈ all, ∃ u : List Nat, (∀ d ∈ u, d < 8) ∧ p = u.foldl (stp a b) (0, 0)
theorem Prb.start {a b : Au} (ha : a.Shape) (hb : b.Shape) (T : Nat → Nat → Nat) : Prb a b [(0, 0)] T 0 0 := by
  have pa := ha.pos
  have pb := hb.pos
  refine ⟨⟨rfl, by simp⟩, by simp, fun p hp => ?_, fun k d _ _ h => by rcases h with h | ⟨_, h⟩ <;> exact absurd h (Nat.not_lt_zero _), fun p hp => ?_⟩
  · rw [List.mem_singleton.1 hp]
    exact ⟨by show (-1 : Int) ≤ 0; omega, by show (0 : Int) < _; omega, by show (-1 : Int) ≤ 0; omega, by show (0 : Int) < _; omega⟩
  · rw [List.mem_singleton.1 hp]
    exact ⟨[], by simp, rfl⟩
theorem Prb.row {a b : Au} {all : List (Int × Int)} {T : Nat → Nat → Nat} {i : Nat} (h : Prb a b all T i 8) : Prb a b all T (i + 1) 0 :=
  ⟨h.zero, h.nodup, h.rng, fun k d hk hd he => h.ent k d hk hd (by omega), h.met⟩
theorem Prb.congr {a b : Au} {all : List (Int × Int)} {T T' : Nat → Nat → Nat} {i c : Nat} (h : Prb a b all T i c) (hT : ∀ k d, (k < i ∨ (k = i ∧ d < c)) → T' k d = T k d) : Prb a b all T' i c :=
  ⟨h.zero, h.nodup, h.rng, fun k d hk hd he => by rw [hT k d he]; exact h.ent k d hk hd he, h.met⟩
theorem Prb.old {a b : Au} {all : List (Int × Int)} {T : Nat → Nat → Nat} {i c : Nat} (h : Prb a b all T i c) (hk : T i c < all.length) (he : all.getD (T i c) (0, 0) = stp a b (all.getD i (0, 0)) c) : Prb a b all T i (c + 1) := by
  refine ⟨h.zero, h.nodup, h.rng, fun k d hk' hd hx => ?_, h.met⟩
  by_cases h1 : k < i ∨ (k = i ∧ d < c)
  · exact h.ent k d hk' hd h1
  · obtain ⟨rfl, rfl⟩ : k = i ∧ d = c := by omega
    exact ⟨hk, he⟩
theorem Prb.new {a b : Au} (ha : a.Shape) (hb : b.Shape) {all : List (Int × Int)} {T : Nat → Nat → Nat} {i c : Nat} (h : Prb a b all T i c) (hi : i < all.length) (hc : c < 8) (hT : T i c = all.length) (hn : stp a b (all.getD i (0, 0)) c ∉ all) :
    Prb a b (all ++ [stp a b (all.getD i (0, 0)) c]) T i (c + 1) := by
  have hm : all.getD i (0, 0) ∈ all := getD_memG _ _ _ hi
  have g1 : ∀ k, k < all.length → (all ++ [stp a b (all.getD i (0, 0)) c]).getD k (0, 0) = all.getD k (0, 0) := fun k hk => by
    rw [List.getD_eq_getElem?_getD, List.getElem?_append_left hk, List.getD_eq_getElem?_getD]
  have g2 : (all ++ [stp a b (all.getD i (0, 0)) c]).getD all.length (0, 0) = stp a b (all.getD i (0, 0)) c := by
    rw [List.getD_eq_getElem?_getD, List.getElem?_append_right (Nat.le_refl _), Nat.sub_self]; rfl
  refine ⟨⟨by rw [g1 0 h.zero.2]; exact h.zero.1, by rw [List.length_append]; have := h.zero.2; omega⟩, ?_, ?_, ?_, ?_⟩
  · rw [List.nodup_append]
    exact ⟨h.nodup, by simp, fun p hp q hq e => hn (by rw [← List.mem_singleton.1 hq, ← e]; exact hp)⟩
  · intro p hp
    rcases List.mem_append.1 hp with hp | hp
    · exact h.rng p hp
    · rw [List.mem_singleton.1 hp]; exact (h.rng _ hm).stp ha hb hc
  · intro k d hk hd hx
    rw [List.length_append, List.length_singleton] at hk ⊢
    by_cases h1 : k < i ∨ (k = i ∧ d < c)
    · obtain ⟨h2, h3⟩ := h.ent k d (by omega) hd h1
      exact ⟨by omega, by rw [g1 _ h2, g1 k (by omega)]; exact h3⟩
    · obtain ⟨rfl, rfl⟩ : k = i ∧ d = c := by omega
      rw [hT, g2, g1 k hi]
      exact ⟨by omega, rfl⟩
  · intro p hp
    rcases List.mem_append.1 hp with hp | hp
    · exact h.met p hp
    · obtain ⟨u, h1, h2⟩ := h.met _ hm
      refine ⟨u ++ [c], fun d hd => ?_, ?_⟩
      · rcases List.mem_append.1 hd with hd | hd
        · exact h1 d hd
        · rw [List.mem_singleton.1 hd]; exact hc
      · rw [List.mem_singleton.1 hp, List.foldl_append, ← h2]; rfl
theorem Prb.done {a b : Au} {all : List (Int × Int)} {T : Nat → Nat → Nat} {i c : Nat} (h : Prb a b all T i c) (hi : all.length ≤ i) : Prs a b all T :=
  ⟨h.zero, h.rng, fun k d hk hd => h.ent k d hk hd (.inl (by omega)), h.met⟩
end Au
end Go.Vl
end

section
set_option linter.unusedVariables false
set_option linter.unusedSimpArgs false
namespace Go.Vl
namespace Au
abbrev Qe := Nat × List Int
/-- the queue: words of h letters, then those of h + 1; D: what was looked at; letters ahead of c of the first one are done -/
structure Lst (a : Au) (sn : Nat → Bool) (Q1 Q2 : List Qe) (D : Nat → Prop) (h c : Nat) : Prop where
  ne : Q1 ≠ []
  seen : ∀ s, s < a.next.length → (sn s = true ↔ D s ∨ ∃ q, q ∈ Q1 ++ Q2 ∧ q.1 = s)
  ok : ∀ q ∈ Q1 ++ Q2, q.1 < a.next.length ∧ a.run 0 q.2 = (q.1 : Int) ∧ ∀ x ∈ q.2, 0 ≤ x ∧ x < 8
  l1 : ∀ q ∈ Q1, q.2.length = h
  l2 : ∀ q ∈ Q2, q.2.length = h + 1
  less : ∀ (u : List Int) (s : Nat), (∀ x ∈ u, 0 ≤ x ∧ x < 8) → a.run 0 u = (s : Int) → u.length < h → D s
  eq : ∀ (u : List Int) (s : Nat), (∀ x ∈ u, 0 ≤ x ∧ x < 8) → a.run 0 u = (s : Int) → u.length = h → D s ∨ ∃ q, q ∈ Q1 ∧ q.1 = s
  done : ∀ s, D s → a.fin (s : Int) = false ∧ ∀ x t : Nat, x < 8 → a.to (s : Int) (x : Int) = (t : Int) → sn t = true
  head : ∀ x t : Nat, x < c → a.to (((Q1.getD 0 (0, [])).1 : Nat) : Int) (x : Int) = (t : Int) → sn t = true
variable {a : Au} {seen : Nat → Bool} {Q1 Q2 : List Qe} {D : Nat → Prop} {h c : Nat}
theorem Lst.start (hs : a.Shape) : Lst a (fun s => decide (s = 0)) [(0, [])] [] (fun _ => False) 0 0 := by
  refine ⟨by simp, fun s _ => ?_, fun q hq => ?_, fun q hq => ?_, fun q hq => (by cases hq), fun u s _ _ h => absurd h (Nat.not_lt_zero _), fun u s _ he hl => ?_, fun s h => False.elim h, fun x t hx => absurd hx (Nat.not_lt_zero _)⟩
  · simp only [decide_eq_true_eq, List.append_nil, List.mem_singleton, false_or]
    exact ⟨fun h => ⟨_, rfl, h.symm⟩, by rintro ⟨q, rfl, h⟩; exact h.symm⟩
  · obtain rfl : q = (0, []) := by simpa using hq
    exact ⟨hs.pos, rfl, by simp⟩
  · obtain rfl : q = (0, []) := by simpa using hq
    rfl
  · obtain rfl : u = [] := List.eq_nil_of_length_eq_zero hl
    have : (0 : Int) = (s : Int) := he
    exact .inr ⟨(0, []), List.mem_singleton.2 rfl, by show 0 = s; omega⟩
/-- the first one is an end: no word is shorter -/
theorem Lst.found (hs : a.Shape) (H : Lst a seen Q1 Q2 D h c) (hf : a.fin (((Q1.getD 0 (0, [])).1 : Nat) : Int) = true) : a.acc 0 (Q1.getD 0 (0, [])).2 ∧ ∀ u, u.length < (Q1.getD 0 (0, [])).2.length → ¬ a.acc 0 u := by
  have hm : Q1.getD 0 (0, []) ∈ Q1 := getD_memG _ _ _ (List.length_pos_iff.2 H.ne)
  obtain ⟨h1, h2, h3⟩ := H.ok _ (List.mem_append_left _ hm)
  refine ⟨?_, fun u hu hacc => ?_⟩
  · rw [acc_run _ _ h3, h2]
    simpa [fin] using hf
  · have ho := acc_over hacc
    obtain ⟨h4, h5⟩ := (acc_run u 0 ho).1 hacc
    rw [H.l1 _ hm] at hu
    have h6 := (H.done _ (H.less u (a.run 0 u).toNat ho (by omega) hu)).1
    rw [show (((a.run 0 u).toNat : Nat) : Int) = a.run 0 u from by omega] at h6
    simp only [fin, h4, h5, decide_true, Bool.and_self, Bool.true_and, Bool.true_eq_false] at h6
/-- a letter that leads to nothing new -/
theorem Lst.skip (H : Lst a seen Q1 Q2 D h c) (hn : ∀ t : Nat, a.to (((Q1.getD 0 (0, [])).1 : Nat) : Int) (c : Int) = (t : Int) → seen t = true) : Lst a seen Q1 Q2 D h (c + 1) := by
  refine ⟨H.ne, H.seen, H.ok, H.l1, H.l2, H.less, H.eq, H.done, fun x t hx e => ?_⟩
  rcases Nat.lt_or_ge x c with h1 | h1
  · exact H.head x t h1 e
  · obtain rfl : x = c := by omega
    exact hn t e
/-- a new one -/
theorem Lst.push (H : Lst a seen Q1 Q2 D h c) (hc : c < 8) {t : Nat} (ht : t < a.next.length) (he : a.to (((Q1.getD 0 (0, [])).1 : Nat) : Int) (c : Int) = (t : Int)) :
    Lst a (fun s => if s = t then true else seen s) Q1 (Q2 ++ [(t, (Q1.getD 0 (0, [])).2 ++ [(c : Int)])]) D h (c + 1) := by
  have hm : Q1.getD 0 (0, []) ∈ Q1 := getD_memG _ _ _ (List.length_pos_iff.2 H.ne)
  obtain ⟨h1, h2, h3⟩ := H.ok _ (List.mem_append_left _ hm)
  have hup : ∀ s, seen s = true → (if s = t then true else seen s) = true := fun s hs => by split <;> simp_all
  refine ⟨H.ne, fun s hs => ?_, fun q hq => ?_, H.l1, fun q hq => ?_, H.less, H.eq, fun s hs => ⟨(H.done s hs).1, fun x t' hx e => hup _ ((H.done s hs).2 x t' hx e)⟩, fun x t' hx e => ?_⟩
  · by_cases hst : s = t
    · subst hst
      rw [if_pos rfl]
      exact ⟨fun _ => .inr ⟨_, List.mem_append_right _ (List.mem_append_right _ (List.mem_singleton.2 rfl)), rfl⟩, fun _ => rfl⟩
    · rw [if_neg hst, H.seen s hs]
      constructor
      · rintro (h' | ⟨q, hq, e⟩)
        · exact .inl h'
        · rw [← List.append_assoc]; exact .inr ⟨q, List.mem_append_left _ hq, e⟩
      · rintro (h' | ⟨q, hq, e⟩)
        · exact .inl h'
        · rw [← List.append_assoc] at hq
          rcases List.mem_append.1 hq with hq | hq
          · exact .inr ⟨q, hq, e⟩
          · rw [List.mem_singleton.1 hq] at e
            exact absurd e.symm hst
  · rw [← List.append_assoc] at hq
    rcases List.mem_append.1 hq with hq | hq
    · exact H.ok q hq
    · rw [List.mem_singleton.1 hq]
      refine ⟨ht, ?_, fun x hx => ?_⟩
      · show a.run 0 (_ ++ _) = _
        rw [run_snoc, h2, if_pos (by omega)]; exact he
      · rcases List.mem_append.1 hx with hx | hx
        · exact h3 x hx
        · rw [List.mem_singleton.1 hx]; omega
  · rcases List.mem_append.1 hq with hq | hq
    · exact H.l2 q hq
    · rw [List.mem_singleton.1 hq]
      show (_ ++ _ : List Int).length = _
      rw [List.length_append, H.l1 _ hm]; rfl
  · rcases Nat.lt_or_ge x c with h4 | h4
    · exact hup _ (H.head x t' h4 e)
    · obtain rfl : x = c := by omega
      rw [he] at e
      have : t = t' := by omega
      subst this
      show (if t = t then true else seen t) = true
      rw [if_pos rfl]
end Au
end Go.Vl
end

section
set_option linter.unusedVariables false
set_option linter.unusedSimpArgs false
namespace Go.Vl
def row8 (f : Nat → Int) : List AV := [.int (f 0), .int (f 1), .int (f 2), .int (f 3), .int (f 4), .int (f 5), .int (f 6), .int (f 7)]
theorem row8_congr {f g : Nat → Int} (h : ∀ c, c < 8 → f c = g c) : row8 f = row8 g := by
  unfold row8
  rw [h 0 (by decide), h 1 (by decide), h 2 (by decide), h 3 (by decide), h 4 (by decide), h 5 (by decide), h 6 (by decide), h 7 (by decide)]
theorem row8_splice (f : Nat → Int) (c : Nat) (hc : c < 8) (x : Int) : splice (row8 f) c [.int x] = row8 (fun d => if d = c then x else f d) := by
  rcases (show c = 0 ∨ c = 1 ∨ c = 2 ∨ c = 3 ∨ c = 4 ∨ c = 5 ∨ c = 6 ∨ c = 7 from by omega) with rfl | rfl | rfl | rfl | rfl | rfl | rfl | rfl <;> rfl
theorem row8_get (f : Nat → Int) (c : Nat) (hc : c < 8) : (row8 f)[c]? = some (.int (f c)) := by
  rcases (show c = 0 ∨ c = 1 ∨ c = 2 ∨ c = 3 ∨ c = 4 ∨ c = 5 ∨ c = 6 ∨ c = 7 from by omega) with rfl | rfl | rfl | rfl | rfl | rfl | rfl | rfl <;> rfl
abbrev r8av (f : Nat → Int) : AV := .agg (row8 f)
theorem rows_snoc (n : Nat) (T : Nat → Nat → Int) : ((List.range n).map fun k => r8av (T k)) ++ [r8av (T n)] = (List.range (n + 1)).map fun k => r8av (T k) := by
  rw [List.range_succ, List.map_append]; rfl
theorem rows_congr (n : Nat) {T T' : Nat → Nat → Int} (h : ∀ k, k < n → ∀ c, c < 8 → T k c = T' k c) : ((List.range n).map fun k => r8av (T k)) = (List.range n).map fun k => r8av (T' k) :=
  List.map_congr_left fun k hk => congrArg AV.agg (row8_congr (h k (List.mem_range.1 hk)))
abbrev prav (p : Int × Int) : AV := .agg [.int p.1, .int p.2]
theorem prav_snoc (l : List (Int × Int)) (p : Int × Int) : l.map prav ++ [.agg [.int p.1, .int p.2]] = (l ++ [p]).map prav := by rw [List.map_append]; rfl
namespace Au
/-- not more pairs than there are -/
theorem Prb.len {a b : Au} {all : List (Int × Int)} {T : Nat → Nat → Nat} {i c : Nat} (h : Prb a b all T i c) : all.length ≤ (a.next.length + 1) * (b.next.length + 1) := by
  refine pigeon _ all.length (fun k => ((all.getD k (0, 0)).1 + 1).toNat * (b.next.length + 1) + ((all.getD k (0, 0)).2 + 1).toNat) (fun k hk => ?_) (fun j k hj hk e => ?_)
  · have hr := h.rng _ (getD_memG (0, 0) all k hk)
    have h1 := hr.l1; have h2 := hr.u1; have h3 := hr.l2; have h4 := hr.u2
    have h5 : ((all.getD k (0, 0)).1 + 1).toNat ≤ a.next.length := by omega
    have h6 : ((all.getD k (0, 0)).2 + 1).toNat < b.next.length + 1 := by omega
    calc ((all.getD k (0, 0)).1 + 1).toNat * (b.next.length + 1) + ((all.getD k (0, 0)).2 + 1).toNat
        < ((all.getD k (0, 0)).1 + 1).toNat * (b.next.length + 1) + (b.next.length + 1) := by omega
      _ = (((all.getD k (0, 0)).1 + 1).toNat + 1) * (b.next.length + 1) := by rw [Nat.add_mul, Nat.one_mul]
      _ ≤ (a.next.length + 1) * (b.next.length + 1) := Nat.mul_le_mul_right _ (by omega)
  · have rj := h.rng _ (getD_memG (0, 0) all j hj)
    have rk := h.rng _ (getD_memG (0, 0) all k hk)
    have hj6 : ((all.getD j (0, 0)).2 + 1).toNat < b.next.length + 1 := by have := rj.l2; have := rj.u2; omega
    have hk6 : ((all.getD k (0, 0)).2 + 1).toNat < b.next.length + 1 := by have := rk.l2; have := rk.u2; omega
    have hd := congrArg (· / (b.next.length + 1)) e
    have hm := congrArg (· % (b.next.length + 1)) e
    rw [Nat.mul_comm, Nat.mul_add_div (by omega), Nat.div_eq_of_lt hj6, Nat.mul_comm, Nat.mul_add_div (by omega), Nat.div_eq_of_lt hk6] at hd
    rw [Nat.mul_comm, Nat.mul_add_mod, Nat.mod_eq_of_lt hj6, Nat.mul_comm, Nat.mul_add_mod, Nat.mod_eq_of_lt hk6] at hm
    have e2 : all.getD j (0, 0) = all.getD k (0, 0) := by
      have := rj.l1; have := rk.l1; have := rj.l2; have := rk.l2
      exact Prod.ext (by omega) (by omega)
    rw [List.getD_eq_getElem?_getD, List.getD_eq_getElem?_getD, List.getElem?_eq_getElem hj, List.getElem?_eq_getElem hk] at e2
    exact (List.getElem_inj h.nodup).1 e2
theorem Prb.len40 {a b : Au} {all : List (Int × Int)} {T : Nat → Nat → Nat} {i c : Nat} (h : Prb a b all T i c) (ha : a.next.length ≤ 40) (hb : b.next.length ≤ 40) : all.length ≤ 1681 := by
  have h1 := h.len
  have h2 : (a.next.length + 1) * (b.next.length + 1) ≤ 41 * 41 := Nat.mul_le_mul (by omega) (by omega)
  omega
/-- an entry is written -/
def setT (T : Nat → Nat → Nat) (i c x : Nat) : Nat → Nat → Nat := fun k d => if k = i ∧ d = c then x else T k d
theorem setT_at (T : Nat → Nat → Nat) (i c x : Nat) : setT T i c x i c = x := if_pos ⟨rfl, rfl⟩
theorem setT_ne (T : Nat → Nat → Nat) (i c x : Nat) {k d : Nat} (h : ¬ (k = i ∧ d = c)) : setT T i c x k d = T k d := if_neg h
theorem Prb.entd {a b : Au} {all : List (Int × Int)} {T : Nat → Nat → Nat} {i c : Nat} (h : Prb a b all T i c) (x : Nat) : Prb a b all (setT T i c x) i c :=
  h.congr fun k d hkd => setT_ne T i c x (by omega)
theorem rows_set (T : Nat → Nat → Nat) (i c x : Nat) : ((List.range i).map fun k => r8av (fun d => (setT T i c x k d : Int))) = (List.range i).map fun k => r8av (fun d => (T k d : Int)) :=
  rows_congr i (T := fun k d => (setT T i c x k d : Int)) (T' := fun k d => (T k d : Int)) fun k hk d _ => by rw [setT_ne T i c x (by omega)]
/-- a row's cells, so far -/
def rowU (T : Nat → Nat → Nat) (i c : Nat) : List AV := row8 fun d => if d < c then (T i d : Int) else 0
theorem rowU_step (T : Nat → Nat → Nat) (i c x : Nat) (hc : c < 8) : splice (rowU T i c) c [.int (x : Int)] = rowU (setT T i c x) i (c + 1) := by
  unfold rowU
  rw [row8_splice _ c hc]
  refine row8_congr fun d _ => ?_
  by_cases h : d = c
  · subst h
    rw [if_pos rfl, if_pos (by omega), setT_at]
  · rw [if_neg h, setT_ne T i c x (by omega)]
    by_cases h2 : d < c
    · rw [if_pos h2, if_pos (by omega)]
    · rw [if_neg h2, if_neg (by omega)]
theorem rowU_done (T : Nat → Nat → Nat) (i : Nat) : rowU T i 8 = row8 fun d => (T i d : Int) := rfl
end Au
end Go.Vl
end

section
set_option linter.unusedVariables false
set_option linter.unusedSimpArgs false
namespace Go.Vl
/-- a number's digits: -1 .. 99 -/
def dgt (n : Nat) : UInt8 := 48 + UInt8.ofNat n
def itoa (n : Int) : List UInt8 := if n < 0 then [45, 49] else if n < 10 then [dgt n.toNat] else [dgt (n.toNat / 10), dgt (n.toNat % 10)]
def keyL (l : List Int) : List UInt8 := l.flatMap fun n => itoa n ++ [32]
theorem keyL_cons (n : Int) (l : List Int) : keyL (n :: l) = itoa n ++ 32 :: keyL l := by simp [keyL]
theorem keyL_append (l m : List Int) : keyL (l ++ m) = keyL l ++ keyL m := by simp [keyL]
theorem keyL_snoc (l : List Int) (i : Nat) (h : i < l.length) : keyL (l.take (i + 1)) = keyL (l.take i) ++ (itoa (l.getD i 0) ++ [32]) := by
  rw [take_getDG 0 l i h, keyL_append]; simp [keyL]
def sml (l : List Int) : Prop := ∀ n ∈ l, -1 ≤ n ∧ n < 100
theorem dgt_ne (n : Nat) (h : n < 10) : dgt n ≠ 32 ∧ dgt n ≠ 45 := by
  unfold dgt
  rcases (show n = 0 ∨ n = 1 ∨ n = 2 ∨ n = 3 ∨ n = 4 ∨ n = 5 ∨ n = 6 ∨ n = 7 ∨ n = 8 ∨ n = 9 from by omega) with rfl | rfl | rfl | rfl | rfl | rfl | rfl | rfl | rfl | rfl <;> decide
theorem dgt_nat (n : Nat) (h : n < 10) : (dgt n).toNat = 48 + n := by
  unfold dgt
  rcases (show n = 0 ∨ n = 1 ∨ n = 2 ∨ n = 3 ∨ n = 4 ∨ n = 5 ∨ n = 6 ∨ n = 7 ∨ n = 8 ∨ n = 9 from by omega) with rfl | rfl | rfl | rfl | rfl | rfl | rfl | rfl | rfl | rfl <;> rfl
theorem dgt_inj {m n : Nat} (hm : m < 10) (hn : n < 10) (h : dgt m = dgt n) : m = n := by
  have := congrArg UInt8.toNat h
  rw [dgt_nat m hm, dgt_nat n hn] at this; omega
/-- a number's text ends where the space stands -/
theorem itoa_split {m n : Int} (hm : -1 ≤ m ∧ m < 100) (hn : -1 ≤ n ∧ n < 100) {r s : List UInt8} (h : itoa m ++ 32 :: r = itoa n ++ 32 :: s) : m = n ∧ r = s := by
  unfold itoa at h
  by_cases m0 : m < 0
  · rw [if_pos m0] at h
    by_cases n0 : n < 0
    · rw [if_pos n0] at h
      exact ⟨by omega, by simpa using h⟩
    · exfalso
      rw [if_neg n0] at h
      by_cases n1 : n < 10
      · rw [if_pos n1] at h
        have := (List.cons.inj h).1
        exact (dgt_ne n.toNat (by omega)).2 this.symm
      · rw [if_neg n1] at h
        have := (List.cons.inj h).1
        exact (dgt_ne (n.toNat / 10) (by omega)).2 this.symm
  · rw [if_neg m0] at h
    by_cases n0 : n < 0
    · exfalso
      rw [if_pos n0] at h
      by_cases m1 : m < 10
      · rw [if_pos m1] at h
        exact (dgt_ne m.toNat (by omega)).2 (List.cons.inj h).1
      · rw [if_neg m1] at h
        exact (dgt_ne (m.toNat / 10) (by omega)).2 (List.cons.inj h).1
    · rw [if_neg n0] at h
      by_cases m1 : m < 10 <;> by_cases n1 : n < 10
      · rw [if_pos m1, if_pos n1] at h
        obtain ⟨h1, h2⟩ := List.cons.inj h
        have := dgt_inj (by omega) (by omega) h1
        exact ⟨by omega, by simpa using h2⟩
      · exfalso
        rw [if_pos m1, if_neg n1] at h
        obtain ⟨h1, h2⟩ := List.cons.inj h
        exact (dgt_ne (n.toNat % 10) (by omega)).1 (List.cons.inj h2).1.symm
      · exfalso
        rw [if_neg m1, if_pos n1] at h
        obtain ⟨h1, h2⟩ := List.cons.inj h
        exact (dgt_ne (m.toNat % 10) (by omega)).1 (List.cons.inj h2).1
      · rw [if_neg m1, if_neg n1] at h
        obtain ⟨h1, h2⟩ := List.cons.inj h
        obtain ⟨h3, h4⟩ := List.cons.inj h2
        have e1 := dgt_inj (by omega) (by omega) h1
        have e2 := dgt_inj (by omega) (by omega) h3
        exact ⟨by omega, by simpa using h4⟩
theorem itoa_head (n : Int) (hn : -1 ≤ n ∧ n < 100) : ∃ c r, itoa n = c :: r ∧ (c.toNat = 45 ∨ (48 ≤ c.toNat ∧ c.toNat ≤ 57)) := by
  unfold itoa
  split
  · exact ⟨_, _, rfl, .inl rfl⟩
  · split
    · exact ⟨_, _, rfl, .inr (by rw [dgt_nat _ (by omega)]; omega)⟩
    · exact ⟨_, _, rfl, .inr (by rw [dgt_nat _ (by omega)]; omega)⟩
/-- rows of numbers, and a text behind that begins with no number -/
theorem keyL_inj : ∀ {l m : List Int} {r s : List UInt8}, sml l → sml m → (∀ c t, r = c :: t → 57 < c.toNat) → (∀ c t, s = c :: t → 57 < c.toNat) → keyL l ++ r = keyL m ++ s → l = m ∧ r = s
  | [], [], r, s, _, _, _, _, h => ⟨rfl, h⟩
  | [], n :: m, r, s, _, hm, hr, _, h => by
    exfalso
    rw [keyL_cons] at h
    obtain ⟨c, t, e, hc⟩ := itoa_head n (hm n List.mem_cons_self)
    rw [e] at h
    have h : r = c :: (t ++ 32 :: keyL m ++ s) := by simpa [keyL] using h
    have := hr _ _ h
    omega
  | n :: l, [], r, s, hl, _, _, hs, h => by
    exfalso
    rw [keyL_cons] at h
    obtain ⟨c, t, e, hc⟩ := itoa_head n (hl n List.mem_cons_self)
    rw [e] at h
    have h : s = c :: (t ++ 32 :: keyL l ++ r) := by simpa [keyL] using h.symm
    have := hs _ _ h
    omega
  | n :: l, k :: m, r, s, hl, hm, hr, hs, h => by
    rw [keyL_cons, keyL_cons, List.append_assoc, List.append_assoc, List.cons_append, List.cons_append] at h
    obtain ⟨e1, e2⟩ := itoa_split (hl n List.mem_cons_self) (hm k List.mem_cons_self) h
    obtain ⟨e3, e4⟩ := keyL_inj (fun x hx => hl x (List.mem_cons_of_mem _ hx)) (fun x hx => hm x (List.mem_cons_of_mem _ hx)) hr hs e2
    exact ⟨by rw [e1, e3], e4⟩
theorem keyL_inj' {l m : List Int} (hl : sml l) (hm : sml m) (h : keyL l = keyL m) : l = m :=
  (keyL_inj (r := []) (s := []) hl hm (by intro c t h; cases h) (by intro c t h; cases h) (by rw [h])).1
theorem itoa_len (n : Int) : 1 ≤ (itoa n).length ∧ (itoa n).length ≤ 2 := by
  unfold itoa; split
  · exact ⟨by decide, by decide⟩
  · split <;> exact ⟨by simp, by simp⟩
theorem keyL_len (l : List Int) : (keyL l).length ≤ 3 * l.length := by
  induction l with
  | nil => exact Nat.le_refl _
  | cons n l ih => rw [keyL_cons, List.length_append, List.length_cons, List.length_cons]; have := itoa_len n; omega
def fmtB (b : Bool) : List UInt8 := if b then [116, 114, 117, 101] else [102, 97, 108, 115, 101]
theorem fmtB_inj {a b : Bool} (h : fmtB a = fmtB b) : a = b := by cases a <;> cases b <;> first | rfl | (simp [fmtB] at h)
theorem fmtB_head (b : Bool) : ∀ c t, fmtB b = c :: t → 57 < c.toNat := by
  intro c t h
  cases b
  · have h : [102, 97, 108, 115, 101] = c :: t := h
    cases h; decide
  · have h : [116, 114, 117, 101] = c :: t := h
    cases h; decide
theorem keyB_inj {l m : List Int} {a b : Bool} (hl : sml l) (hm : sml m) (h : keyL l ++ fmtB a = keyL m ++ fmtB b) : l = m ∧ a = b := by
  obtain ⟨h1, h2⟩ := keyL_inj hl hm (fmtB_head a) (fmtB_head b) h
  exact ⟨h1, fmtB_inj h2⟩
/-- where a key stands: by what it is the key of -/
theorem place_map {α β : Type} [DecidableEq α] [DecidableEq β] {f : α → β} {k : α} : ∀ {ks : List α}, (∀ q ∈ ks, f k = f q → k = q) → place (f k) (ks.map f) = place k ks
  | [], _ => rfl
  | q :: ks, h => by
    simp only [List.map_cons, place]
    by_cases e : k = q
    · rw [if_pos e, if_pos (by rw [e])]
    · rw [if_neg e, if_neg (fun e' => e (h q List.mem_cons_self e')), place_map fun q hq => h q (List.mem_cons_of_mem _ hq)]
end Go.Vl
end

section
set_option linter.unusedVariables false
set_option linter.unusedSimpArgs false
namespace Go.Vl
open Go.RowKit (Below)
open Go.Sort
theorem MOk.below {w w' : World} {M : List ME} {F : List Nat} (h : MOk w M F) (hb : Below w.heap.size w w') (hF : ∀ b ∈ F, b < w.heap.size) : MOk w' M F := by
  refine ⟨h.nodup, h.apart, fun m hm => ME.holds_keep (w := w) (N := bl M ++ F) ?_ (fun b hb' => ?_) (h.holds m hm)⟩
  · intro b c T fr hn hc
    exact ⟨hn, (hb.block b (heap_lt hc)).trans hc⟩
  · exact hb.block b (bl_lt h b (List.mem_flatMap.2 ⟨m, hm, hb'⟩))
theorem Fr.below {w w' : World} {N : List Nat} (h : Below w.heap.size w w') : Fr w N w' N :=
  ⟨h.os, h.tape, h.output, h.size, fun k hk hn => ⟨h.block k hk, hn⟩⟩
/-- nothing that was turns; the result is known -/
theorem FnC.belowM {P : Program} {f : FuncId} {args : List AV} {M0 : List ME} {r : AV} (hc : CallOk P f)
    (h : ∀ (w : World) (F : List Nat) (vs : List Value), MOk w M0 F → RepT w (bl M0 ++ F) args vs → Calls P f vs.toArray w fun e w' => ∃ v, e = .returned v ∧ Rep w' (bl M0 ++ F) r v ∧ Below w.heap.size w w') : FnC P f args M0 (fun r' M => r' = r ∧ M = M0) :=
  ⟨hc, fun w F vs hF hm ha => (h w F vs hm ha).mono fun e w' ⟨v, he, hr, hb⟩ => ⟨v, r, M0, he, ⟨rfl, rfl⟩, hm.below hb hF, hr, Fr.below hb⟩⟩
theorem RepE.ints {w : World} {N : List Nat} : ∀ {l : List Int} {row : List Value}, row.take l.length = l.map (Value.int .i64) → RepE w N 1 (l.map AV.int) row
  | [], row, _ => by simp only [List.map_nil, RepE]
  | n :: l, row, h => by
    cases row with
    | nil => simp at h
    | cons x row =>
      simp only [List.length_cons, List.take_succ_cons, List.map_cons, List.cons.injEq] at h
      simp only [List.map_cons, RepE]
      refine ⟨by simp, ?_, RepE.ints h.2⟩
      rw [h.1]
      simp only [RepC]; rfl
theorem RepE.toInts {w : World} {N : List Nat} : ∀ {l : List Int} {row : List Value}, RepE w N 1 (l.map AV.int) row → row.take l.length = l.map (Value.int .i64)
  | [], row, _ => by simp
  | n :: l, row, h => by
    simp only [List.map_cons, RepE] at h
    obtain ⟨h1, h2, h3⟩ := h
    cases row with
    | nil => simp at h1
    | cons x row =>
      have h2 : [x] = (Value.int .i64 n).cells.toList := by simpa [RepC] using h2
      have hx : x = .int .i64 n := by simpa [Value.cells] using h2
      rw [List.length_cons, List.take_succ_cons, List.map_cons, hx]
      congr 1
      exact RepE.toInts (w := w) (N := N) h3
theorem lit_cell {w : World} {N : List Nat} {v u : Value} (h1 : (AV.lit v).sh = 0) (h3 : RepC w N (.lit v) [u]) : u = v := by
  simp only [RepC] at h3
  have e : v.cells.toList = [v] := by cases v <;> simp_all [AV.sh, shV, Value.cells]
  rw [e] at h3
  exact (List.cons.inj h3).1
/-- a new own row -/
theorem FnC.belowRow {P : Program} {f : FuncId} {args : List AV} {M0 : List ME} {I : TypeId} {l : List Int} (hc : CallOk P f)
    (h : ∀ (w : World) (F : List Nat) (vs : List Value), (∀ b ∈ F, b < w.heap.size) → MOk w M0 F → RepT w (bl M0 ++ F) args vs → Calls P f vs.toArray w fun e w' => ∃ v, e = .returned v ∧ w'.ownsRow w.heap.size I 1 v l.length (l.map (Value.int .i64)) ∧ Below w.heap.size w w') :
    FnC P f args M0 (fun r M => ∃ v, r = .lit v ∧ M = .arr v I 1 (l.map AV.int) :: M0) := by
  refine ⟨hc, fun w F vs hF hm ha => (h w F vs hF hm ha).mono fun e w' ⟨v, he, hr, hb⟩ => ?_⟩
  have hm' := hm.below hb hF
  refine ⟨v, .lit v, .arr v I 1 (l.map AV.int) :: M0, he, ⟨v, rfl, rfl⟩, ?_, Rep.lit v, ?_⟩
  · rcases hr.2 with ⟨rfl, h0⟩ | ⟨g, cap, cur, rfl, hbase, hg, h1, h2, h3, h4⟩
    · have : l = [] := List.eq_nil_of_length_eq_zero h0
      subst this
      refine ⟨hm'.nodup, hm'.apart, fun m hmm => ?_⟩
      rcases List.mem_cons.1 hmm with rfl | hmm
      · exact ⟨none, 0, rfl, Nat.le_refl _, by simp [maxLen], .inl ⟨rfl, rfl⟩⟩
      · exact hm'.holds m hmm
    · have hgn : g ∉ bl M0 ++ F := fun hg' => by
        rcases List.mem_append.1 hg' with h' | h'
        · have := bl_lt hm g h'; omega
        · have := hF g h'; omega
      have hbl : bl (.arr (.slice (some ⟨g, 0, none⟩) l.length cap) I 1 (l.map AV.int) :: M0) = g :: bl M0 := rfl
      refine ⟨?_, ?_, ?_⟩
      · rw [hbl]
        exact List.nodup_cons.2 ⟨fun h' => hgn (List.mem_append_left _ h'), hm'.nodup⟩
      · rw [hbl]
        intro b hb'
        rcases List.mem_cons.1 hb' with rfl | hb'
        · exact fun h' => hgn (List.mem_append_right _ h')
        · exact hm'.apart b hb'
      · intro m hmm
        rw [hbl]
        rcases List.mem_cons.1 hmm with rfl | hmm
        · refine ⟨some ⟨g, 0, none⟩, cap, by rw [List.length_map], by rw [List.length_map]; exact h1, h2, .inr ⟨g, 0, cur, 0, 0, rfl, hg, by omega, .inl (Nat.le_refl _), ?_⟩⟩
          rw [List.drop_zero]
          exact RepE.ints (by rw [Nat.mul_one] at h4; exact h4)
        · have h5 := hm.holds m hmm
          refine ME.holds_keep (w := w) (N := bl M0 ++ F) ?_ (fun b hb' => hb.block b (bl_lt hm b (List.mem_flatMap.2 ⟨m, hmm, hb'⟩))) h5
          intro b c T fr hn hcc
          refine ⟨fun h' => ?_, (hb.block b (heap_lt hcc)).trans hcc⟩
          rcases List.mem_cons.1 h' with rfl | h'
          · have := heap_lt hcc; omega
          · exact hn h'
  · have hF2 := Fr.below (N := bl M0) hb
    refine ⟨hF2.os, hF2.tape, hF2.output, hF2.size, fun k hk hn => ⟨(hF2.block k hk hn).1, fun h' => ?_⟩⟩
    rcases hr.2 with ⟨rfl, h0⟩ | ⟨g, cap, cur, rfl, hbase, _⟩
    · exact hn h'
    · have h' : k ∈ g :: bl M0 := h'
      rcases List.mem_cons.1 h' with rfl | h'
      · omega
      · exact hn h'
theorem take_putCells (cur : Array Value) (off : Nat) (ts : List Int) (h : off + ts.length ≤ cur.size) : ((putCells (Value.int .i64) off ts.toArray cur).toList.drop off).take ts.length = ts.map (Value.int .i64) := by
  apply List.ext_getElem?
  intro j
  by_cases hj : j < ts.length
  · rw [List.getElem?_take_of_lt hj, List.getElem?_drop, Array.getElem?_toList]
    simp [putCells, hj, show off + j < cur.size by omega]
  · rw [List.getElem?_take_eq_none (by omega), List.getElem?_eq_none (by simp; omega)]
/-- an own row is written by the library; the call hands back a value that its place and length fix -/
theorem FnC.row {P : Program} {f : FuncId} {I : TypeId} {v : Value} {l : List Int} (hc : CallOk P f) (new : List Int) (hn : new.length = l.length) (m : Nat) (hm : m ≤ l.length) (rv : Option Addr → Nat → Value)
    (h0 : l = [] → ∀ (ad : Option Addr) (cap : Nat) (w : World), Calls P f #[.slice ad 0 cap] w fun e w' => e = .returned (rv ad cap) ∧ w' = w)
    (h1 : l ≠ [] → ∀ (g off cap : Nat) (w : World), Holds (Value.int .i64) w g off l.toArray → g < w.heap.size → l.length ≤ cap → cap ≤ maxLen → Calls P f #[.slice (some ⟨g, off, none⟩) l.length cap] w fun e w' => e = .returned (rv (some ⟨g, off, none⟩) cap) ∧ ∃ n os, w' = grow (putRow (Value.int .i64) (Sort.ahead w n) g off new.toArray) os) :
    FnC P f [.lit v] [.arr v I 1 (l.map AV.int)] (fun r M => ∃ ad cap, v = .slice ad l.length cap ∧ r = .lit (rv ad cap) ∧ M = [.arr (.slice ad m cap) I 1 ((new.take m).map AV.int)]) := by
  refine ⟨hc, fun w F vs hF hmk ha => ?_⟩
  simp only [RepT] at ha
  obtain ⟨v0, _, rfl, ⟨hs0, hr0⟩, rfl⟩ := ha
  have e0 : v0 = v := Rep.lit_iff.1 (show Rep w (bl [.arr v I 1 (l.map AV.int)] ++ F) (.lit v) v0 from ⟨hs0, hr0⟩)
  subst e0
  obtain ⟨ad, cap, rfl, hl1, hl2, h3⟩ := hmk.holds _ List.mem_cons_self
  rw [List.length_map] at *
  by_cases hl : l = []
  · subst hl
    refine (h0 rfl ad cap w).mono fun e w' ⟨he, hw⟩ => ?_
    subst hw
    obtain rfl : m = 0 := by simpa using hm
    have hnew : new = [] := List.eq_nil_of_length_eq_zero hn
    subst hnew
    exact ⟨_, _, _, he, ⟨ad, cap, rfl, rfl, rfl⟩, hmk, Rep.lit _, Fr.refl _ _⟩
  · rcases h3 with ⟨_, h3⟩ | ⟨g, off, cur, lo, hi, rfl, hg, hsz, hfr, he⟩
    · have : l.length ≠ 0 := fun h => hl (List.eq_nil_of_length_eq_zero h)
      omega
    · have hti := RepE.toInts he
      have hle : off + l.length ≤ cur.size := by omega
      have hH : Holds (Value.int .i64) w g off l.toArray := by
        intro j hj
        have hj' : j < l.length := by simpa using hj
        refine ⟨?_, ?_⟩
        · rw [cell_of hg]
          have h5 : ((cur.toList.drop off).take l.length)[j]? = (l.map (Value.int .i64))[j]? := by rw [hti]
          rw [List.getElem?_take_of_lt hj', List.getElem?_drop, Array.getElem?_toList] at h5
          rw [h5]; simp [hj']
        · simp only [World.frozen?, hg]
          rcases hfr with h5 | h5
          · simp; omega
          · simp; omega
      refine (h1 hl g off cap w hH (heap_lt hg) hl1 hl2).mono fun e w' ⟨he', n, os, hw⟩ => ?_
      subst hw
      have hg' : (grow (putRow (Value.int .i64) (Sort.ahead w n) g off new.toArray) os).heap[g]? = some (.cells (putCells (Value.int .i64) off new.toArray cur) I (lo, hi)) := by
        rw [heap_grow_old _ _ (by simpa using heap_lt hg)]
        simp [putRow, mapBlock, Sort.ahead, Array.getElem?_modify, hg, onCells]
      have hother : ∀ k, k < w.heap.size → k ≠ g → (grow (putRow (Value.int .i64) (Sort.ahead w n) g off new.toArray) os).heap[k]? = w.heap[k]? := fun k hk hne => by
        rw [heap_grow_old _ _ (by simpa using hk)]
        have hne' : ¬ g = k := fun e => hne e.symm
        simp [putRow, mapBlock, Sort.ahead, Array.getElem?_modify, hne']
      have htl : (new.take m).length = m := by rw [List.length_take]; omega
      refine ⟨_, _, [.arr (.slice (some ⟨g, off, none⟩) m cap) I 1 ((new.take m).map AV.int)], he', ⟨_, cap, rfl, rfl, rfl⟩, ⟨?_, ?_, ?_⟩, Rep.lit _, ?_⟩
      · exact hmk.nodup
      · exact hmk.apart
      · intro q hq
        rw [List.mem_singleton.1 hq]
        refine ⟨some ⟨g, off, none⟩, cap, by rw [List.length_map, htl], by rw [List.length_map, htl]; omega, hl2, .inr ⟨g, off, _, lo, hi, rfl, hg', by simpa [putCells] using hsz, hfr, ?_⟩⟩
        refine RepE.ints ?_
        rw [htl]
        have := take_putCells cur off new (by omega)
        have h6 := congrArg (List.take m) this
        rw [List.take_take, Nat.min_eq_left (by omega), ← List.map_take] at h6
        exact h6
      · refine ⟨rfl, rfl, rfl, by simp [grow, Sort.ahead], fun k hk hkn => ?_⟩
        have hne : k ≠ g := fun e => hkn (by rw [e]; exact List.mem_cons_self)
        exact ⟨hother k hk hne, hkn⟩
end Go.Vl
end

section
set_option linter.unusedVariables false
set_option linter.unusedSimpArgs false
namespace Go.Vl
open Go.Lib
def srt (l : List Int) : List Int := l.mergeSort fun x y => decide (x ≤ y)
def norm (l : List Int) : List Int := compact (srt l)
theorem srt_len (l : List Int) : (srt l).length = l.length := by simp [srt]
theorem srt_mem (l : List Int) (x : Int) : x ∈ srt l ↔ x ∈ l := (List.mergeSort_perm l _).mem_iff
theorem srt_asc (l : List Int) : (srt l).Pairwise (· ≤ ·) := by
  have h := List.pairwise_mergeSort (le := fun x y : Int => decide (x ≤ y)) (fun a b c h1 h2 => by simp at h1 h2 ⊢; omega) (fun a b => by simp; omega) l
  exact h.imp fun h => by simpa using h
theorem compact_all' (zs : List Int) (hs : zs.Pairwise (· ≤ ·)) : ∀ m, m ≤ zs.length → (compactUpTo zs.toArray m).Pairwise (· < ·) ∧ (∀ x, x ∈ compactUpTo zs.toArray m ↔ ∃ j, j < m ∧ zs.toArray[j]! = x) ∧ (compactUpTo zs.toArray m).length ≤ m := by
  have hle : ∀ i j, i ≤ j → j < zs.length → zs.toArray[i]! ≤ zs.toArray[j]! := fun i j hij hj => by
    have hi : i < zs.length := by omega
    have e : ∀ k, (hk : k < zs.length) → zs.toArray[k]! = zs[k] := fun k hk => by simp [hk]
    rw [e i hi, e j hj]
    rcases Nat.lt_or_ge i j with h | h
    · exact List.pairwise_iff_getElem.1 hs i j hi hj h
    · obtain rfl : i = j := by omega
      exact Int.le_refl _
  intro m
  induction m with
  | zero => intro _; exact ⟨by simp [compactUpTo], by simp [compactUpTo], by simp [compactUpTo]⟩
  | succ m ih =>
    intro hm
    obtain ⟨h1, h2, h3⟩ := ih (by omega)
    rw [compactUpTo_succ]
    by_cases hk : keeps zs.toArray m = true
    · rw [if_pos hk]
      refine ⟨?_, fun x => ?_, by simp; omega⟩
      · refine List.pairwise_append.2 ⟨h1, by simp, fun x hx y hy => ?_⟩
        rw [List.mem_singleton.1 hy]
        obtain ⟨j, hj, rfl⟩ := (h2 x).1 hx
        have hkk : m = 0 ∨ zs.toArray[m]! ≠ zs.toArray[m - 1]! := by simpa [keeps] using hk
        have a1 := hle j (m - 1) (by omega) (by omega)
        have a2 := hle (m - 1) m (by omega) (by omega)
        rcases hkk with h | h
        · omega
        · have : zs.toArray[m]! ≠ zs.toArray[m - 1]! := h
          omega
      · rw [List.mem_append, List.mem_singleton, h2]
        constructor
        · rintro (⟨j, hj, e⟩ | e)
          · exact ⟨j, by omega, e⟩
          · exact ⟨m, by omega, e.symm⟩
        · rintro ⟨j, hj, e⟩
          rcases Nat.lt_or_ge j m with h | h
          · exact .inl ⟨j, h, e⟩
          · obtain rfl : j = m := by omega
            exact .inr e.symm
    · rw [if_neg hk, List.append_nil]
      have hkk : m ≠ 0 ∧ zs.toArray[m]! = zs.toArray[m - 1]! := by
        have : ¬ (m = 0 ∨ zs.toArray[m]! ≠ zs.toArray[m - 1]!) := by simpa [keeps] using hk
        exact ⟨fun h => this (.inl h), Classical.byContradiction fun h => this (.inr h)⟩
      refine ⟨h1, fun x => ?_, by omega⟩
      rw [h2]
      constructor
      · rintro ⟨j, hj, e⟩; exact ⟨j, by omega, e⟩
      · rintro ⟨j, hj, e⟩
        rcases Nat.lt_or_ge j m with h | h
        · exact ⟨j, h, e⟩
        · obtain rfl : j = m := by omega
          exact ⟨j - 1, by omega, by rw [← hkk.2]; exact e⟩
theorem norm_all (l : List Int) : (norm l).Pairwise (· < ·) ∧ (∀ x, x ∈ norm l ↔ x ∈ l) ∧ (norm l).length ≤ l.length := by
  obtain ⟨h1, h2, h3⟩ := compact_all' (srt l) (srt_asc l) (srt l).length (Nat.le_refl _)
  refine ⟨h1, fun x => ?_, by rw [← srt_len l]; exact h3⟩
  rw [← srt_mem l x]
  refine (h2 x).trans ⟨?_, fun hx => ?_⟩
  · rintro ⟨j, hj, e⟩
    rw [← e]
    simp [hj]
  · obtain ⟨j, hj, rfl⟩ := List.mem_iff_getElem.1 hx
    exact ⟨j, hj, by simp [hj]⟩
theorem norm_mem (l : List Int) (x : Int) : x ∈ norm l ↔ x ∈ l := (norm_all l).2.1 x
theorem norm_len (l : List Int) : (norm l).length ≤ l.length := (norm_all l).2.2
theorem compact_len (l : List Int) (hs : l.Pairwise (· ≤ ·)) : (compact l).length ≤ l.length := (compact_all' l hs l.length (Nat.le_refl _)).2.2
/-- rows that ascend and hold the same are the same -/
theorem asc_ext : ∀ {l m : List Int}, l.Pairwise (· < ·) → m.Pairwise (· < ·) → (∀ x, x ∈ l ↔ x ∈ m) → l = m
  | [], [], _, _, _ => rfl
  | [], b :: m, _, _, h => absurd ((h b).2 List.mem_cons_self) (by simp)
  | a :: l, [], _, _, h => absurd ((h a).1 List.mem_cons_self) (by simp)
  | a :: l, b :: m, hl, hm, h => by
    obtain ⟨l1, l2⟩ := List.pairwise_cons.1 hl
    obtain ⟨m1, m2⟩ := List.pairwise_cons.1 hm
    have hab : a = b := by
      rcases List.mem_cons.1 ((h a).1 List.mem_cons_self) with e | e
      · exact e
      · rcases List.mem_cons.1 ((h b).2 List.mem_cons_self) with e' | e'
        · exact e'.symm
        · have := m1 a e; have := l1 b e'; omega
    subst hab
    congr 1
    refine asc_ext l2 m2 fun x => ?_
    constructor
    · intro hx
      rcases List.mem_cons.1 ((h x).1 (List.mem_cons_of_mem _ hx)) with e | e
      · have := l1 x hx; omega
      · exact e
    · intro hx
      rcases List.mem_cons.1 ((h x).2 (List.mem_cons_of_mem _ hx)) with e | e
      · have := m1 x hx; omega
      · exact e
theorem norm_ext {l m : List Int} (h : ∀ x, x ∈ l ↔ x ∈ m) : norm l = norm m :=
  asc_ext (norm_all l).1 (norm_all m).1 fun x => (norm_mem l x).trans ((h x).trans (norm_mem m x).symm)
/-- digits as_ the library says them -/
theorem itoa_lib (n : Int) (h0 : -1 ≤ n) (h1 : n < 100) : Lib.itoa n = itoa n := by
  unfold Lib.itoa itoa
  by_cases h : n < 0
  · obtain rfl : n = -1 := by omega
    rw [if_pos h, if_pos h, Lib.decDigits, dif_pos (by decide)]; rfl
  · rw [if_neg h, if_neg h]
    by_cases h9 : n < 10
    · rw [if_pos h9, Lib.decDigits, dif_pos (by omega), dgt]
      congr 1
      rw [UInt8.ofNat_add]; rfl
    · rw [if_neg h9, Lib.decDigits, dif_neg (by omega), Lib.decDigits, dif_pos (by omega)]
      show [_, _] = [_, _]
      unfold dgt
      rw [UInt8.ofNat_add, UInt8.ofNat_add]; rfl
end Go.Vl
end
