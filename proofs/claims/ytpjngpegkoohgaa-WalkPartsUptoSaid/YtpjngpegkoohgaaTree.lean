/-
  Trees of nodes as values.
-/
import Derived.Test.YtpjngpegkoohgaaStyle
import Derived.Test.YtpjngpegkoohgaaBld
import Derived.Laws.Cover3
set_option linter.unusedVariables false
set_option linter.unusedSimpArgs false
namespace Go.Vl
open Go Go.Sem
inductive Nd where
  | mk (name : List UInt8) (attrs : List Dc) (text : List UInt8) (parts : List Nd)
namespace Nd
def name : Nd → List UInt8 | mk n _ _ _ => n
def attrs : Nd → List Dc | mk _ a _ _ => a
def text : Nd → List UInt8 | mk _ _ t _ => t
def parts : Nd → List Nd | mk _ _ _ p => p
mutual
def av : Nd → AV
  | mk n a t p => .agg [.str n, .sl 2 (a.map dav), .str t, .sl 4 (avs p)]
def avs : List Nd → List AV
  | [] => []
  | d :: l => av d :: avs l
end
mutual
def sz : Nd → Nat
  | mk _ a _ p => 1 + a.length + szs p
def szs : List Nd → Nat
  | [] => 0
  | d :: l => sz d + szs l
end
theorem avs_map (l : List Nd) : avs l = l.map av := by
  induction l with
  | nil => rfl
  | cons d l ih => rw [avs, ih]; rfl
abbrev avx (d : Nd) : AV := .agg [.str d.name, .sl 2 (d.attrs.map dav), .str d.text, .sl 4 (d.parts.map av)]
theorem av_eq (d : Nd) : d.av = avx d := by
  cases d with | mk n a t p => rw [av, avs_map]; rfl
theorem sz_eq (d : Nd) : d.sz = 1 + d.attrs.length + szs d.parts := by cases d; rfl
theorem szs_append (l m : List Nd) : szs (l ++ m) = szs l + szs m := by
  induction l with
  | nil => simp [szs]
  | cons d l ih => rw [List.cons_append, szs, szs, ih]; omega
theorem szs_one (d : Nd) : szs [d] = d.sz := by simp [szs]
theorem szs_len (l : List Nd) : l.length ≤ szs l := by
  induction l with
  | nil => simp [szs]
  | cons d l ih => rw [szs, List.length_cons, sz_eq]; omega
theorem szs_mem {l : List Nd} {d : Nd} (h : d ∈ l) : d.sz ≤ szs l := by
  induction l with
  | nil => cases h
  | cons e l ih =>
    rw [szs]
    rcases List.mem_cons.1 h with rfl | h
    · omega
    · have := ih h; omega
mutual
def cnt : Nd → Nat
  | mk _ _ _ p => 1 + cnts p
def cnts : List Nd → Nat
  | [] => 0
  | d :: l => cnt d + cnts l
end
theorem cnt_eq (d : Nd) : d.cnt = 1 + cnts d.parts := by cases d; rfl
theorem cnts_append (l m : List Nd) : cnts (l ++ m) = cnts l + cnts m := by
  induction l with
  | nil => simp [cnts]
  | cons d l ih => rw [List.cons_append, cnts, cnts, ih]; omega
mutual
theorem cnt_le : ∀ d : Nd, d.cnt ≤ d.sz
  | mk _ a _ p => by have := cnts_le p; simp only [cnt, sz]; omega
theorem cnts_le : ∀ l : List Nd, cnts l ≤ szs l
  | [] => Nat.le_refl _
  | d :: l => by have := cnt_le d; have := cnts_le l; simp only [cnts, szs]; omega
end
mutual
def pths : Nd → List (List Int)
  | mk _ _ _ p => pthsFrom 0 p
def pthsFrom : Nat → List Nd → List (List Int)
  | _, [] => []
  | k, d :: l => [(k : Int)] :: ((pths d).map ((k : Int) :: ·) ++ pthsFrom (k + 1) l)
end
theorem pths_eq (d : Nd) : d.pths = pthsFrom 0 d.parts := by cases d; rfl
theorem pthsFrom_append (l m : List Nd) : ∀ k, pthsFrom k (l ++ m) = pthsFrom k l ++ pthsFrom (k + l.length) m := by
  induction l with
  | nil => intro k; simp [pthsFrom]
  | cons d l ih => intro k; rw [List.cons_append, pthsFrom, pthsFrom, ih]; simp [Nat.add_assoc, Nat.add_comm 1]
mutual
theorem pths_len : ∀ d : Nd, d.pths.length + 1 = d.cnt
  | mk _ _ _ p => by have := pthsFrom_len p 0; simp only [pths, cnt]; omega
theorem pthsFrom_len : ∀ (l : List Nd) (k : Nat), (pthsFrom k l).length = cnts l
  | [], _ => rfl
  | d :: l, k => by have h1 := pths_len d; have h2 := pthsFrom_len l (k + 1); simp only [pthsFrom, cnts, List.length_cons, List.length_append, List.length_map]; omega
end
mutual
theorem pths_deep : ∀ (d : Nd) (p : List Int), p ∈ d.pths → p.length < d.sz
  | mk _ a _ q, p, h => by have := pthsFrom_deep q 0 p h; simp only [sz]; omega
theorem pthsFrom_deep : ∀ (l : List Nd) (k : Nat) (p : List Int), p ∈ pthsFrom k l → p.length ≤ szs l
  | [], _, _, h => by simp [pthsFrom] at h
  | d :: l, k, p, h => by
    simp only [pthsFrom, List.mem_cons, List.mem_append, List.mem_map] at h
    have h1 := sz_eq d
    rcases h with rfl | ⟨q, hq, rfl⟩ | h
    · simp only [szs, List.length_singleton]; omega
    · have := pths_deep d q hq; simp only [szs, List.length_cons]; omega
    · have := pthsFrom_deep l (k + 1) p h; simp only [szs]; omega
end
def dflt : Nd := mk [] [] [] []
theorem at_av (l : List Nd) (i : Nat) (h : i < l.length) : (l.map av)[i]? = some (avx (l.getD i dflt)) := by
  rw [← av_eq]; exact getD_mapG av dflt l i h
theorem at_sz (l : List Nd) (i : Nat) (h : i < l.length) : (l.getD i dflt).sz ≤ szs l := szs_mem (getD_memG dflt l i h)
theorem map_snoc (l : List Nd) (d : Nd) : (l ++ [d]).map av = l.map av ++ [avx d] := by rw [List.map_append, ← av_eq]; rfl
theorem take_snoc (l : List Nd) (i : Nat) (h : i < l.length) : (l.take (i + 1)).map av = (l.take i).map av ++ [avx (l.getD i dflt)] := by
  rw [take_getDG dflt l i h, map_snoc]
theorem okc_avs (l : List Nd) : ∀ e ∈ l.map av, e.okc = true ∧ e.cells.length = 4 := by
  intro e he
  obtain ⟨d, _, rfl⟩ := List.mem_map.1 he
  rw [av_eq]; exact ⟨rfl, rfl⟩
theorem cnts_snoc (l : List Nd) (i : Nat) (h : i < l.length) : cnts (l.take (i + 1)) = cnts (l.take i) + (cnts (l.getD i dflt).parts + 1) := by
  rw [take_getDG dflt l i h, cnts_append, cnts, cnts, cnt_eq]; omega
theorem paths_snoc (l : List Nd) (i : Nat) (h : i < l.length) : pthsFrom 0 (l.take (i + 1)) = pthsFrom 0 (l.take i) ++ ([(i : Int)] :: (pthsFrom 0 (l.getD i dflt).parts).map ((i : Int) :: ·)) := by
  rw [take_getDG dflt l i h, pthsFrom_append, pthsFrom, pthsFrom, List.append_nil, pths_eq]
  have : (l.take i).length = i := by rw [List.length_take]; omega
  rw [this, Nat.zero_add]
end Nd
abbrev pav (p : List Int) : AV := .sl 1 (p.map AV.int)
theorem okc_davs (l : List Dc) : ∀ e ∈ l.map dav, e.okc = true := by
  intro e he
  obtain ⟨d, _, rfl⟩ := List.mem_map.1 he
  rfl
theorem Ev.lda1g {x : Cx} {g : Bool} {L : List (Tmp × Bool × AV)} {M : List ME} {ty T : TypeId} {o1 : Operand} (i q o : Nat) {v : Value} {U k j : Nat} {es : List AV} {e c : AV} (h1 : Ov g L o1 (.aptr v j)) (hM : M[i]? = some (ME.arr v U k es)) (hq : g = true → es[q]? = some e) (hj : g = true → j = q * k + o) (ho : e.okc = true) (hk : e.cells.length = k) (hc : e.cells[o]? = some c)
    (hT : IsAgg x.P T false) : Ev x g L M (.load T o1) ty c := fun a w hs hg => Ev.lda1 i q o h1 hM (hq hg) (hj hg) ho hk hc hT a w hs hg
/-- a slice held against nil: not known, but what is nil has no element -/
theorem W.slnil {x : Cx} {L : List (Tmp × Bool × AV)} {M : List ME} {ops : Array Oper} {Q : Exit → Act → World → Prop} {rest : List Oper} {ty : TypeId} {pos : String} {aft : Array Edge} {d : Tmp} {T T' E k : TypeId} {o1 : Operand} {es : List AV}
    (h1 : Ov true L o1 (.sl k es)) (hT : x.P.underlying T = some (.slice E)) (hd : Nat.blt d x.n = true) (next : ∀ q : Bool, (q = true → es = []) → W x ((d, true, .lit (.bool q)) :: L) M (wpList x.P ops Q rest)) :
    W x L M (wpList x.P ops Q (⟨some d, .binOp .eql T o1 (.const (.slice none 0 0)) T', ty, pos, aft, none⟩ :: rest)) := by
  refine W.opv (ι := { q : Bool // q = true → es = [] }) (fun _ => M) (fun q => .lit (.bool q.1)) hd ?_ (fun q => next q.1 q.2)
  intro a w hs
  obtain ⟨ad, cap, ev, h3, h4, h5⟩ := (h1.rep rfl hs).sl_inv
  have hv : a.eval (.const (.slice none 0 0)) = .slice none 0 0 := rfl
  refine ⟨.bool ad.isNone, w, ⟨ad.isNone, fun hq => ?_⟩, ?_, hs, Rep.lit _⟩
  · rcases h5 with h5 | ⟨b, off, cur, U, fr, rfl, _⟩
    · exact h5
    · cases hq
  · simp only [execOp, ev, hv, eqGuard_at_slice, Sem.run_bind, Sem.run_pure, Result.andThen_ok]
    simp [binOp, Op.equal, Op.maxDepth, run_equalIn_slice_nil w 9999 T E ad es.length cap hT]
end Go.Vl
