/-
  From a contract of the library's (it turns nothing that was) to one of the logic Vl.
-/
import Derived.Test.YthhkionhimbekaaLaw
import Derived.Test.YthhkionhimbekaaArr
import Derived.Test.YthhkionhimbekaaBld
import Derived.Below
import Derived.Lib.Join
set_option linter.unusedVariables false
set_option linter.unusedSimpArgs false
namespace Go.Vl
open Go.RowKit (Below)
theorem Fr.of_below {w w' : World} (h : Below w.heap.size w w') : Fr w [] w' [] :=
  ⟨h.os, h.tape, h.output, h.size, fun k hk _ => ⟨h.block k hk, by simp⟩⟩
theorem FnP.of_below {P : Program} {f : FuncId} {args : List AV} {r : AV} (hc : CallOk P f)
    (h : ∀ (w : World) (F : List Nat) (vs : List Value), RepT w F args vs → Calls P f vs.toArray w fun e w' => ∃ v, e = .returned v ∧ Rep w' F r v ∧ Below w.heap.size w w') : FnP P f args r :=
  ⟨hc, fun w F vs hF hm ha => (h w F vs (by simpa [bl] using ha)).mono fun e w' ⟨v, he, hr, hb⟩ => ⟨v, r, [], he, ⟨rfl, rfl⟩, MOk.nil w' F, by simpa [bl] using hr, by simpa [bl] using Fr.of_below hb⟩⟩
theorem CallOk.of {P : Program} {f : FuncId} {fn : Func} (h1 : P.funcs[f]? = some fn) (h2 : (fn.name == "runtime.NumGoroutine") = false) (h3 : fn.body.isNone = false) : CallOk P f := ⟨fn, h1, h2, h3⟩
theorem RepE.strs {w : World} {N : List Nat} {l : List (List UInt8)} {row : List Value} (h : RepE w N 1 (l.map AV.str) row) (j : Nat) (x : List UInt8) (hj : l[j]? = some x) : row[j]? = some (.string ⟨x.toArray⟩) := by
  obtain ⟨h1, h2⟩ := RepE.get (i := j) (e := AV.str x) h (by rw [List.getElem?_map, hj]; rfl)
  simp only [RepC, Nat.mul_one] at h2
  have h3 : (List.take 1 (List.drop j row)) = [Value.string ⟨x.toArray⟩] := h2
  have : (List.take 1 (List.drop j row))[0]? = row[j]? := by simp [List.getElem?_take, List.getElem?_drop]
  rw [← this, h3]; rfl
theorem joinP {P : Program} {f : FuncId} (hc : CallOk P f)
    (h0 : ∀ (a : Option Addr) (c : Nat) (sep : ByteArray) (w : World), Calls P f #[.slice a 0 c, .string sep] w fun e w' => e = .returned (.string ⟨#[]⟩) ∧ w' = w)
    (h1 : ∀ (bk o c : Nat) (xs : List ByteArray) (sep : ByteArray) (w : World), (∀ (j : Nat) x, xs[j]? = some x → w.cell? ⟨bk, o + j, none⟩ = some (.string x)) → bk < w.heap.size → xs.length ≤ 140737488355328 → xs.length ≤ c →
      (Lib.join (xs.map (·.data.toList)) sep.data.toList).length ≤ 140737488355328 → Calls P f #[.slice (some ⟨bk, o, none⟩) xs.length c, .string sep] w fun e w' => e = .returned (.string ⟨(Lib.join (xs.map (·.data.toList)) sep.data.toList).toArray⟩) ∧ Below w.heap.size w w')
    (l : List (List UInt8)) (sep : List UInt8) (hl : l.length ≤ 140737488355328) (hj : (Lib.join l sep).length ≤ 140737488355328) : FnP P f [.sl 1 (l.map AV.str), .str sep] (.str (Lib.join l sep)) := by
  refine FnP.of_below hc fun w F vs ha => ?_
  simp only [RepT] at ha
  obtain ⟨v0, _, rfl, ⟨hs0, h2⟩, v1, _, rfl, ⟨hs1, h3⟩, rfl⟩ := ha
  have e1 : v1 = .string ⟨sep.toArray⟩ := Rep.lit_iff.1 (show Rep w F (.str sep) v1 from ⟨hs1, h3⟩)
  subst e1
  obtain ⟨a, cap, rfl, h4, h5, h6⟩ := Rep.sl_inv (show Rep w F (.sl 1 (l.map AV.str)) v0 from ⟨hs0, h2⟩)
  rw [List.length_map] at h4
  rcases h6 with h6 | ⟨b, off, cur, T, fr, rfl, hb, hcur, he⟩
  · obtain rfl : l = [] := by simpa using h6
    refine (h0 a cap ⟨sep.toArray⟩ w).mono fun e w' ⟨e1, e2⟩ => ?_
    subst e2
    exact ⟨_, e1, Rep.lit _, Below.refl _ _⟩
  · have hx : (l.map fun x => (⟨x.toArray⟩ : ByteArray)).map (·.data.toList) = l := by rw [List.map_map]; exact List.map_id' _
    have key := h1 b off cap (l.map fun x => (⟨x.toArray⟩ : ByteArray)) ⟨sep.toArray⟩ w (fun j x hjx => by
      rw [List.getElem?_map] at hjx
      obtain ⟨y, hy, rfl⟩ := Option.map_eq_some_iff.1 hjx
      have := RepE.strs he j y hy
      rw [cell_of hcur]
      rw [List.getElem?_drop, Array.getElem?_toList] at this
      exact this) (heap_lt hcur) (by rw [List.length_map]; exact hl) (by rw [List.length_map]; exact h4) (by rw [hx]; exact hj)
    rw [hx, List.length_map] at key
    rw [List.length_map]
    exact key.mono fun e w' ⟨e1, e2⟩ => ⟨_, e1, Rep.lit _, e2⟩
end Go.Vl
