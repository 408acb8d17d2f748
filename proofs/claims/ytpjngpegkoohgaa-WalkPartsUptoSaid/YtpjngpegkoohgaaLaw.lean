/-
  From a contract to a law's statement.
-/
import Derived.Test.YtpjngpegkoohgaaFn
import Derived.Test.YtpjngpegkoohgaaEv
import Derived.ProofKit
import Derived.OpenShut
import Derived.ShutString
import Derived.ChangeOld
import Derived.Below
import Derived.JoinedCond
set_option linter.unusedVariables false
set_option linter.unusedSimpArgs false
namespace Go.Vl
open Go.RowKit (Below)

theorem MOk.nil (w : World) (F : List Nat) : MOk w [] F := ⟨by simp [bl], by simp [bl], by simp⟩

theorem law_calls {P : Program} {f : FuncId} {avs : List AV} {W : World} {vs : List Value} (h : FnP P f avs (.lit (.bool true))) (ha : RepT W [] avs vs) :
    Calls P f vs.toArray W fun e W' => e = .returned (.bool true) ∧ Below W.heap.size W W' := by
  refine (h.2 W [] vs (by simp) (MOk.nil W []) (by simpa [bl] using ha)).mono ?_
  rintro e W' ⟨v, r, M', rfl, ⟨rfl, rfl⟩, _, hr, hf⟩
  have hv := Rep.lit_iff.1 hr
  subst hv
  exact ⟨rfl, hf.os, hf.tape, hf.output, hf.size, fun k hk => (hf.block k hk (by simp [bl])).1⟩

theorem RepT.one {W : World} {N : List Nat} {a : AV} {as : List AV} {v : Value} {vs : List Value} (h : Rep W N a v) (h' : RepT W N as vs) : RepT W N (a :: as) (v :: vs) := by
  simp only [RepT]
  exact ⟨v, vs, rfl, h, h'⟩
theorem RepT.zero {W : World} {N : List Nat} : RepT W N [] [] := by simp [RepT]
theorem Rep.str {W : World} {N : List Nat} (s : ByteArray) : Rep W N (.str s.data.toList) (.string s) := Rep.lit (.string s)

/-- a row of single cells that are known, from what the reading of a slice gives -/
theorem Rep.slice1 {W : World} {N : List Nat} {a : Option Addr} {len cap : Nat} {es : List AV} (hlen : es.length = len) (hlc : len ≤ cap) (hcm : cap ≤ maxLen)
    (h : len = 0 ∨ ∃ x : Addr, a = some x ∧ x.block ∉ N ∧ ∀ i, i < len → ∃ v, W.cell? (x.add i) = some v ∧ shV v = 0 ∧ ∃ e, es[i]? = some e ∧ e.sh = 0 ∧ RepC W N e [v]) : Rep W N (.sl 1 es) (.slice a len cap) := by
  subst hlen
  refine Rep.slI hlc hcm ?_
  rcases h with h | ⟨⟨b, off, spot⟩, rfl, hb, hc⟩
  · exact .inl (List.eq_nil_of_length_eq_zero h)
  · by_cases h0 : es.length = 0
    · exact .inl (List.eq_nil_of_length_eq_zero h0)
    · right
      obtain ⟨v0, hv0, _⟩ := hc 0 (by omega)
      have hsp : spot = none := by
        simp only [Addr.add, if_true] at hv0
        unfold World.cell? at hv0
        split at hv0
        · split at hv0
          · cases hv0
          · rename_i hs; simpa using hs
        · cases hv0
      subst hsp
      have hblk : ∃ cur T fr, W.heap[b]? = some (.cells cur T fr) := by
        simp only [Addr.add, if_true] at hv0
        unfold World.cell? at hv0
        split at hv0
        · rename_i c T fr hh; exact ⟨c, T, fr, hh⟩
        · cases hv0
      obtain ⟨cur, T, fr, hcur⟩ := hblk
      refine ⟨b, off, cur, T, fr, rfl, hb, hcur, ?_⟩
      have key : ∀ (n : Nat) (es' : List AV), es'.length = n → (∃ k, es' = es.drop k ∧ k + n = es.length) → ∀ k, k + n = es.length → es' = es.drop k → RepE W N 1 es' (cur.toList.drop (off + k)) := by
        intro n
        induction n with
        | zero => intro es' hl _ k _ _; have := List.eq_nil_of_length_eq_zero hl; subst this; simp [RepE]
        | succ n ih =>
          intro es' hl _ k hk he
          obtain ⟨v, hv, hsv, e, hee, hse, hr⟩ := hc k (by omega)
          rw [Addr.add_lit, cell_of hcur] at hv
          have hlt : off + k < cur.toList.length := by
            rcases Nat.lt_or_ge (off + k) cur.size with h' | h'
            · simpa using h'
            · rw [Array.getElem?_eq_none h'] at hv; cases hv
          have hke : k < es.length := by omega
          have hd : es.drop k = e :: es.drop (k + 1) := by
            rw [List.drop_eq_getElem_cons hke]
            rw [List.getElem?_eq_getElem hke] at hee
            cases hee; rfl
          have hrow : cur.toList.drop (off + k) = v :: cur.toList.drop (off + (k + 1)) := by
            rw [List.drop_eq_getElem_cons hlt, ← Nat.add_assoc]
            congr 1
            have : cur.toList[off + k]? = some v := by simpa using hv
            rw [List.getElem?_eq_getElem hlt] at this
            exact Option.some.inj this
          rw [he, hd, hrow]
          simp only [RepE]
          refine ⟨by simp, by simpa using hr, ?_⟩
          exact ih _ (by rw [List.length_drop]; omega) ⟨k + 1, rfl, by omega⟩ (k + 1) (by omega) rfl
      have := key es.length es rfl ⟨0, by simp, by omega⟩ 0 (by omega) (by simp)
      simpa using this
end Go.Vl
