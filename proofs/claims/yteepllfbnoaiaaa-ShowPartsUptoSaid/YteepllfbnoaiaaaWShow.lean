/-
  Trees as text that may be.
-/
import Derived.Test.YteepllfbnoaiaaaWFault
import Derived.Test.YteepllfbnoaiaaaWShowOf
set_option linter.unusedVariables false
set_option linter.unusedSimpArgs false
set_option maxRecDepth 100000
namespace Go.Proofs.Yteepllfbnoaiaaa
open Go.Vl

namespace WShow

theorem c_Text (l : List Nd) (hl : Nd.szs l ≤ 16777216) (k : Nat) (hk : k ≤ 10) (hs : Nd.sks k false l) (hc : Nd.cnts l ≤ 150) : FnP Try.prog 36 [.sl 4 (l.map Nd.av)] (.tup [.str (if (Nd.shs l).length ≤ 600 then Nd.shs l else []), .int (if (Nd.shs l).length ≤ 600 then 0 else 1)]) :=  by
  refine FnC.mk Try.func36 (by kernel_rfl) rfl Try.ntmps36 rfl (fun w0 F => ?_)
  refine W.seq ?_
  refine W.region ?_
  refine W.q (Ev.assign .k) rfl ?_
  refine W.q (Ev.assign .k) rfl ?_
  refine W.nil ?_
  refine W.then ?_
  refine W.seq ?_
  refine W.seq ?_
  refine W.region ?_
  refine W.q (Ev.move (.t rfl)) rfl ?_
  refine W.callp (WFault.c_Check l hl k hk hs hc) ⟨(.t rfl), trivial⟩ rfl ?_
  refine W.q (Ev.assign (.t rfl)) rfl ?_
  refine W.nil ?_
  refine W.then ?_
  refine W.seq ?_
  refine W.region ?_
  refine W.q (Ev.move (.t rfl)) rfl ?_
  refine W.q (Ev.nei (.t rfl) .k) rfl ?_
  refine W.nil ?_
  refine W.then ?_
  refine W.is (t := 9) (g := true) (av' := .lit (.bool false)) rfl (congrArg (fun b => AV.lit (.bool b)) (by rfl)) ?_
  refine W.condF (.t rfl) ?_
  refine W.skip ?_
  refine W.then ?_
  refine W.seq ?_
  refine W.region ?_
  refine W.q (Ev.move (.t rfl)) rfl ?_
  refine W.callp (WShowOf.c_Of l hl k hs) ⟨(.t rfl), trivial⟩ rfl ?_
  refine W.q (Ev.assign (.t rfl)) rfl ?_
  refine W.nil ?_
  refine W.then ?_
  refine W.seq ?_
  refine W.seq ?_
  refine W.region ?_
  refine W.q (Ev.move (.t rfl)) rfl ?_
  refine W.q (Ev.lens (.t rfl) Try.underlying9) rfl ?_
  refine W.q (Ev.gti (.t rfl) .k) rfl ?_
  refine W.nil ?_
  refine W.then ?_
  refine W.cond (.t rfl) (fun hc_t15 => ?_) (fun hc_t15 => ?_)
  · have h15 := of_decide_eq_true hc_t15
    have hq : ¬ (Nd.shs l).length ≤ 600 := by omega
    refine W.seq ?_
    refine W.region ?_
    refine W.q (Ev.assign .k) rfl ?_
    refine W.q (Ev.assign .k) rfl ?_
    refine W.nil ?_
    refine W.then ?_
    refine W.ret ?_
    refine W.then_ret ?_
    refine W.retn (M' := []) (rs := [.tmp 2, .tmp 3]) (avs := [_, _]) Try.results36 ⟨rfl, rfl, trivial⟩ rfl (.refl _) ?_
    first | (refine ⟨?_, rfl⟩; rw [if_neg hq, if_neg hq]; rfl) | (refine ⟨?_, rfl⟩; rw [if_pos hq, if_pos hq]; rfl)
  · have h15 := of_decide_eq_false hc_t15
    have hq : (Nd.shs l).length ≤ 600 := by omega
    refine W.skip ?_
    refine W.then ?_
    refine W.seq ?_
    refine W.region ?_
    refine W.q (Ev.move (.t rfl)) rfl ?_
    refine W.q (Ev.assign (.t rfl)) rfl ?_
    refine W.q (Ev.assign .k) rfl ?_
    refine W.nil ?_
    refine W.then ?_
    refine W.ret ?_
    refine W.retn (M' := []) (rs := [.tmp 2, .tmp 3]) (avs := [_, _]) Try.results36 ⟨rfl, rfl, trivial⟩ rfl (.refl _) ?_
    first | (refine ⟨?_, rfl⟩; rw [if_neg hq, if_neg hq]; rfl) | (refine ⟨?_, rfl⟩; rw [if_pos hq, if_pos hq]; rfl)

end WShow

end Go.Proofs.Yteepllfbnoaiaaa
