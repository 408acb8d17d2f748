/-
  A slice of structs of two numbers and a slice of numbers, from what the reading of the arguments gives.
-/
import Derived.Test.YtpjngpegkoohgaaInts
import Derived.Test.YtpjngpegkoohgaaUndo
import Derived.ChangeArms
set_option linter.unusedVariables false
set_option linter.unusedSimpArgs false
namespace Go.Proofs.Ytpjngpegkoohgaa.Turns
open Go.Vl
variable {H : Type} {P : Program} {enc : TypeId × Value → H} {w : World} {base : Nat} {spare : Nat → Bool} {held : Bool}
theorem cells3 {b off T : Nat} {fr : Nat × Nat} {cur : Array Value} {cs : List Value} (hc : w.heap[b]? = some (.cells cur T fr)) (h : w.cells? base ⟨b, off, none⟩ 3 = some cs) : 3 ≤ (cur.toList.drop off).length ∧ (cur.toList.drop off).take 3 = cs := by
  unfold World.cells? at h
  split at h
  · rw [show List.range 3 = [0, 1, 2] from rfl] at h
    simp only [List.mapM_cons, List.mapM_nil, Option.bind_eq_bind, Option.pure_def, Option.bind_eq_some_iff, Option.some.injEq] at h
    obtain ⟨v0, h0, r0, ⟨v1, h1, r1, ⟨v2, h2, r2, rfl, rfl⟩, rfl⟩, rfl⟩ := h
    rw [Addr.add_lit, cell_of hc] at h0 h1 h2
    have g : ∀ q v, cur[off + q]? = some v → (cur.toList.drop off)[q]? = some v := fun q v hq => by rw [List.getElem?_drop, Array.getElem?_toList]; exact hq
    replace h0 := g _ _ h0; replace h1 := g _ _ h1; replace h2 := g _ _ h2
    generalize cur.toList.drop off = S at h0 h1 h2
    match S, h0, h1, h2 with
    | [], h0, _, _ => simp at h0
    | [a], _, h1, _ => simp at h1
    | [a, b], _, _, h2 => simp at h2
    | a :: b :: c :: r, h0, h1, h2 => simp at h0 h1 h2; subst h0; subst h1; subst h2; simp
  · cases h
theorem one {E I S fuel : Nat} {fs : Array Field} {f0 f1 f2 : Field} {b off T : Nat} {fr : Nat × Nat} {cur : Array Value} {cs : List Value} {y : DataW H × List MemPlace}
    (hE : P.underlying E = some (.struct fs)) (h0 : fs[0]? = some f0) (h1 : fs[1]? = some f1) (h2 : fs[2]? = some f2) (hf0 : f0.type = I ∧ f0.offset = 0) (hf1 : f1.type = I ∧ f1.offset = 1) (hf2 : f2.type = S ∧ f2.offset = 2) (hsz : fs.size = 3)
    (hI : P.underlying I = some (.int .i64)) (hS : P.underlying S = some (.slice I)) (cI : P.cellsOf I = 1) (cS : P.cellsOf S = 1)
    (hc : w.heap[b]? = some (.cells cur T fr)) (hcs : w.cells? base ⟨b, off, none⟩ 3 = some cs) (h : DataW.trod enc P w base spare held fuel E cs = some y) :
    ∃ t : Tn, 3 ≤ (cur.toList.drop off).length ∧ RepC w [] (tnv t) ((cur.toList.drop off).take 3) ∧ t.node.length + 1 ≤ Rows.uptoBulk y.1 := by
  obtain ⟨hl, ht⟩ := cells3 hc hcs
  obtain ⟨xs, n, rfl, rfl, hlen, hxl, hf⟩ := DataW.trod_struct hE h
  have g0 := hf 0 f0 h0; have g1 := hf 1 f1 h1; have g2 := hf 2 f2 h2
  rw [hf0.1, hf0.2, cI] at g0; rw [hf1.1, hf1.2, cI] at g1; rw [hf2.1, hf2.2, cS] at g2
  rw [ht]
  have hl3 : cs.length = 3 := by rw [← ht, List.length_take]; omega
  match cs, hl3 with
  | [a0, a1, a2], _ =>
    match xs, hxl.trans hsz with
    | [x0, x1, x2], _ =>
      simp only [List.drop_zero, List.take_succ_cons, List.take_zero, List.drop_succ_cons, List.getElem?_cons_zero, List.getElem?_cons_succ] at g0 g1 g2
      obtain ⟨z0, e0, rfl, _⟩ := DataW.trod_int hI g0
      obtain ⟨z1, e1, rfl, _⟩ := DataW.trod_int hI g1
      cases e0; cases e1
      have hsl : ∃ a len cap, a2 = .slice a len cap := by
        rcases DataW.trod_slice hS g2 with ⟨e, _⟩ | ⟨a, len, cap, _, _, _, _, e, _⟩
        · cases e; exact ⟨_, _, _, rfl⟩
        · cases e; exact ⟨_, _, _, rfl⟩
      obtain ⟨a, len, cap, rfl⟩ := hsl
      obtain ⟨l, h3, h4, _⟩ := Ints.ints_rep hS hI cI g2
      refine ⟨⟨z0, z1, l⟩, hl, ?_, ?_⟩
      · simp only [RepC, RepL]
        exact ⟨_, _, rfl, ⟨rfl, rfl, by simp [RepC, Value.cells]⟩, _, _, rfl, ⟨rfl, rfl, by simp [RepC, Value.cells]⟩, _, _, rfl, ⟨h4.1, rfl, h4.2⟩, rfl⟩
      · simp only [List.map_cons, List.map_nil, Rows.uptoBulk, Rows.uptoBulkAll]
        omega
theorem many {E I S fuel : Nat} {fs : Array Field} {f0 f1 f2 : Field} {b T : Nat} {fr : Nat × Nat} {cur : Array Value}
    (hE : P.underlying E = some (.struct fs)) (h0 : fs[0]? = some f0) (h1 : fs[1]? = some f1) (h2 : fs[2]? = some f2) (hf0 : f0.type = I ∧ f0.offset = 0) (hf1 : f1.type = I ∧ f1.offset = 1) (hf2 : f2.type = S ∧ f2.offset = 2) (hsz : fs.size = 3)
    (hI : P.underlying I = some (.int .i64)) (hS : P.underlying S = some (.slice I)) (cI : P.cellsOf I = 1) (cS : P.cellsOf S = 1)
    (hc : w.heap[b]? = some (.cells cur T fr)) : ∀ (elems : List (DataW H × List MemPlace)) (off : Nat), (∀ i, i < elems.length → (w.cells? base ⟨b, off + i * 3, none⟩ 3).bind (DataW.trod enc P w base spare held fuel E) = elems[i]?) →
    ∃ ts : List Tn, ts.length = elems.length ∧ RepE w [] 3 (ts.map tnv) (cur.toList.drop off) ∧ (ts.map fun t => t.node.length).sum + ts.length ≤ Rows.uptoBulkAll (elems.map (·.1))
  | [], off, _ => ⟨[], rfl, by simp [RepE], by simp⟩
  | y :: elems, off, h => by
    have g := h 0 (by simp)
    rw [Nat.zero_mul, Nat.add_zero, List.getElem?_cons_zero, Option.bind_eq_some_iff] at g
    obtain ⟨cs, g1, g2⟩ := g
    obtain ⟨t, t1, t2, t3⟩ := one hE h0 h1 h2 hf0 hf1 hf2 hsz hI hS cI cS hc g1 g2
    obtain ⟨ts, u1, u2, u3⟩ := many hE h0 h1 h2 hf0 hf1 hf2 hsz hI hS cI cS hc elems (off + 3) (fun i hi => by
      have := h (i + 1) (by simpa using hi)
      rw [List.getElem?_cons_succ, show off + (i + 1) * 3 = off + 3 + i * 3 from by omega] at this
      exact this)
    refine ⟨t :: ts, by simp [u1], ?_, ?_⟩
    · simp only [List.map_cons, RepE]
      refine ⟨t1, t2, ?_⟩
      rw [List.drop_drop]; exact u2
    · simp only [List.map_cons, List.sum_cons, List.length_cons, Rows.uptoBulkAll]
      omega
theorem rep {T E I S fuel : Nat} {fs : Array Field} {f0 f1 f2 : Field} {a : Option Addr} {len cap : Nat} {d : DataW H} {p : List MemPlace} (hT : P.underlying T = some (.slice E)) (cE : P.cellsOf E = 3)
    (hE : P.underlying E = some (.struct fs)) (h0 : fs[0]? = some f0) (h1 : fs[1]? = some f1) (h2 : fs[2]? = some f2) (hf0 : f0.type = I ∧ f0.offset = 0) (hf1 : f1.type = I ∧ f1.offset = 1) (hf2 : f2.type = S ∧ f2.offset = 2) (hsz : fs.size = 3)
    (hI : P.underlying I = some (.int .i64)) (hS : P.underlying S = some (.slice I)) (cI : P.cellsOf I = 1) (cS : P.cellsOf S = 1) (h : DataW.trod enc P w base spare held fuel T [.slice a len cap] = some (d, p)) :
    ∃ ts : List Tn, (ts.map fun t => t.node.length).sum + ts.length < Rows.uptoBulk d ∧ Rep w [] (.sl 3 (ts.map tnv)) (.slice a len cap) := by
  rcases DataW.trod_slice hT h with ⟨hcs, hx⟩ | ⟨a', len', cap', elems, rest, n, rfl, hcs, hx, hb, hl, hm, hlen, hel, _, _⟩
  · cases hcs
    exact ⟨[], Bulk.pos _, Rep.slI (es := []) (Nat.le_refl _) (by simp [maxLen]) (.inl rfl)⟩
  · cases hcs
    cases hx
    by_cases hz : len = 0
    · subst hz
      refine ⟨[], by have := Bulk.pos (DataW.slice (elems.map (·.1)) (rest.map (·.1))); simpa using this, ?_⟩
      exact Rep.slI (es := []) hl hm (.inl rfl)
    · obtain ⟨b, off, spot⟩ := a'
      rw [cE] at hel
      have hbl : spot = none ∧ ∃ cur T fr, w.heap[b]? = some (.cells cur T fr) := by
        have h9 := hel 0 (by omega)
        rw [List.getElem?_eq_getElem (show 0 < elems.length by omega), Option.bind_eq_some_iff] at h9
        obtain ⟨cs, h9, _⟩ := h9
        unfold World.cells? at h9
        split at h9
        · rw [show List.range 3 = [0, 1, 2] from rfl] at h9
          simp only [List.mapM_cons, List.mapM_nil, Option.bind_eq_bind, Option.pure_def, Option.bind_eq_some_iff, Option.some.injEq] at h9
          obtain ⟨v0, hv0, _⟩ := h9
          simp only [Nat.zero_mul, Addr.add, if_true] at hv0
          unfold World.cell? at hv0
          split at hv0
          · rename_i c T fr hh
            split at hv0
            · cases hv0
            · rename_i hs; exact ⟨by simpa using hs, c, T, fr, hh⟩
          · cases hv0
        · cases h9
      obtain ⟨rfl, cur, T', fr, hc⟩ := hbl
      obtain ⟨ts, u1, u2, u3⟩ := many hE h0 h1 h2 hf0 hf1 hf2 hsz hI hS cI cS hc elems off (fun i hi => by
        have := hel i (by omega)
        rw [Addr.add_lit] at this
        exact this)
      refine ⟨ts, by rw [Bulk.slice]; omega, ?_⟩
      have hlt : (ts.map tnv).length = len := by rw [List.length_map, u1, hlen]
      rw [← hlt]
      exact Rep.slI (by rw [hlt]; exact hl) hm (.inr ⟨b, off, cur, T', fr, rfl, by simp, hc, u2⟩)
end Go.Proofs.Ytpjngpegkoohgaa.Turns
