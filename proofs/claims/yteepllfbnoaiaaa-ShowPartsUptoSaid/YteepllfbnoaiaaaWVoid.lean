/-
  Elements that never hold parts.
-/
import Derived.Test.YteepllfbnoaiaaaShow
import Derived.Test.YteepllfbnoaiaaaBase
import Derived.Test.YteepllfbnoaiaaaWLib
set_option linter.unusedVariables false
set_option linter.unusedSimpArgs false
set_option maxRecDepth 100000
namespace Go.Proofs.Yteepllfbnoaiaaa
open Go.Vl

namespace WVoid
theorem ty9 : Ty Try.prog 9 1 16 (.string ⟨#[]⟩) := Ty.of (by kernel_rfl)
theorem c_Void (s : List UInt8) : FnP Try.prog 64 [.str s] (.bool (Nd.voidB s)) :=  by
  refine FnC.mk Try.func64 (by kernel_rfl) rfl Try.ntmps64 rfl (fun w0 F => ?_)
  refine W.seq ?_
  refine W.region ?_
  refine W.q (Ev.assign .k) rfl ?_
  refine W.nil ?_
  refine W.then ?_
  refine W.seq ?_
  refine W.region ?_
  refine W.bs (es := [_, _, _, _]) Try.underlying40 ty9 ⟨rfl, .k, rfl, rfl, rfl, .k, rfl, rfl, rfl, .k, rfl, rfl, rfl, .k, rfl, rfl, trivial⟩ rfl (by decide) rfl rfl ?_
  refine W.q (Ev.move (.t rfl)) rfl ?_
  refine W.callp (WLib.c_Contains Nd.vd4 s (by decide)) ⟨(.t rfl), (.t rfl), trivial⟩ rfl ?_
  refine W.q (Ev.assign (.t rfl)) rfl ?_
  refine W.nil ?_
  refine W.then ?_
  refine W.ret ?_
  refine W.retn (M' := []) (rs := [.tmp 2]) (avs := [_]) Try.results64 ⟨rfl, trivial⟩ rfl (.refl _) ?_
  exact ⟨rfl, rfl⟩

theorem c_shut (s : List UInt8) : FnP Try.prog 65 [.str s] (.bool (Nd.shutB s)) :=  by
  refine FnC.mk Try.func65 (by kernel_rfl) rfl Try.ntmps65 rfl (fun w0 F => ?_)
  refine W.seq ?_
  refine W.region ?_
  refine W.q (Ev.assign .k) rfl ?_
  refine W.nil ?_
  refine W.then ?_
  refine W.seq ?_
  refine W.region ?_
  refine W.bs (es := [_, _, _, _]) Try.underlying40 ty9 ⟨rfl, .k, rfl, rfl, rfl, .k, rfl, rfl, rfl, .k, rfl, rfl, rfl, .k, rfl, rfl, trivial⟩ rfl (by decide) rfl rfl ?_
  refine W.q (Ev.move (.t rfl)) rfl ?_
  refine W.callp (WLib.c_Contains Tk.raws s (by decide)) ⟨(.t rfl), (.t rfl), trivial⟩ rfl ?_
  refine W.q (Ev.assign (.t rfl)) rfl ?_
  refine W.nil ?_
  refine W.then ?_
  refine W.ret ?_
  refine W.retn (M' := []) (rs := [.tmp 2]) (avs := [_]) Try.results65 ⟨rfl, trivial⟩ rfl (.refl _) ?_
  exact ⟨rfl, rfl⟩

end WVoid

end Go.Proofs.Yteepllfbnoaiaaa
