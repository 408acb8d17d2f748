/-
  A slice of numbers, from what the reading of the arguments gives.
-/
import Derived.Test.YtpjngpegkoohgaaLaw
import Derived.Test.YtpjngpegkoohgaaBulk
import Derived.ChangeSlices
set_option linter.unusedVariables false
set_option linter.unusedSimpArgs false
namespace Go.Proofs.Ytpjngpegkoohgaa.Ints
open Go.Vl
theorem ints_rep {H : Type} {P : Program} {enc : TypeId × Value → H} {w : World} {base : Nat} {spare : Nat → Bool} {held : Bool} {T E fuel : Nat} {a : Option Addr} {len cap : Nat} {d : DataW H} {p : List MemPlace}
    (hT : P.underlying T = some (.slice E)) (hE : P.underlying E = some (.int .i64)) (hc : P.cellsOf E = 1) (h : DataW.trod enc P w base spare held fuel T [.slice a len cap] = some (d, p)) :
    ∃ l : List Int, l.length < Rows.uptoBulk d ∧ Rep w [] (.sl 1 (l.map AV.int)) (.slice a len cap) ∧ ∀ z ∈ l, -9223372036854775808 ≤ z ∧ z ≤ 9223372036854775807 := by
  rcases ChangeShapes.open_ints hT hE hc h with ⟨hcs, hx⟩ | ⟨a', len', cap', zs, hcs, hb, hl, hm, hlen, hx, hcell, hwf⟩
  · cases hcs
    exact ⟨[], Bulk.pos _, Rep.slice1 rfl (Nat.zero_le _) (Nat.zero_le _) (.inl rfl), by simp⟩
  · cases hcs
    cases hx
    have hz : len ≤ zs.length := by rw [hlen]; split <;> omega
    have hll : (zs.take len).length = len := by rw [List.length_take]; omega
    refine ⟨zs.take len, ?_, Rep.slice1 (by rw [List.length_map, hll]) hl hm (.inr ⟨a', rfl, by simp, fun i hi => ?_⟩), fun z hz => ?_⟩
    · have h1 := Bulk.count (ChangeShapes.lits (H := H) .i64 (zs.take len))
      rw [ChangeShapes.lits, List.length_map] at h1
      rw [Bulk.slice]
      unfold ChangeShapes.lits at *
      omega
    · refine ⟨_, hcell i (by omega), rfl, AV.int (zs.getD i 0), ?_, rfl, by simp only [RepC]; rfl⟩
      rw [List.getElem?_map, List.getElem?_take, if_pos hi, List.getD_eq_getElem?_getD, List.getElem?_eq_getElem (by omega)]; rfl
    · have := hwf z (List.mem_of_mem_take hz)
      simpa [Lit.wf, IntKind.min, IntKind.max, IntKind.signed, IntKind.bits] using this
end Go.Proofs.Ytpjngpegkoohgaa.Ints
