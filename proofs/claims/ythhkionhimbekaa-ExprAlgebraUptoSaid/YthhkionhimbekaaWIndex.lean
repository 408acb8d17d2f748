/-
  Where a byte is.
-/
import Derived.Test.YthhkionhimbekaaRef
import Derived.Test.YthhkionhimbekaaBase
set_option linter.unusedVariables false
set_option linter.unusedSimpArgs false
set_option maxRecDepth 100000
namespace Go.Proofs.Ythhkionhimbekaa
open Go.Vl

namespace WIndex

theorem c_IndexByte0 (l : List UInt8) (c : UInt8) : FnP Try.prog 44 [.str l, .lit (.int .u8 (c.toNat : Int))] (.int (idxI (fun b => b == c) l)) :=  by
  refine FnC.mk Try.func44 (by kernel_rfl) rfl Try.ntmps44 rfl (fun w0 F => ?_)
  refine W.seq ?_
  refine W.region ?_
  refine W.q (Ev.assign .k) rfl ?_
  refine W.nil ?_
  refine W.then ?_
  refine W.seq ?_
  refine W.region ?_
  refine W.q (Ev.move (.t rfl)) rfl ?_
  refine W.q (Ev.move (.t rfl)) rfl ?_
  refine W.q (Ev.ixb (fn := Try.f45) Try.func45 rfl rfl rfl rfl (.t rfl) (.t rfl)) rfl ?_
  refine W.q (Ev.assign (.t rfl)) rfl ?_
  refine W.nil ?_
  refine W.then ?_
  refine W.ret ?_
  refine W.retn (M' := []) (rs := [.tmp 4]) (avs := [_]) Try.results44 ⟨rfl, trivial⟩ rfl (.refl _) ?_
  exact ⟨rfl, rfl⟩

theorem c_IndexByte (l : List UInt8) (c : UInt8) : FnP Try.prog 41 [.str l, .lit (.int .u8 (c.toNat : Int))] (.int (idxI (fun b => b == c) l)) :=  by
  refine FnC.mk Try.func41 (by kernel_rfl) rfl Try.ntmps41 rfl (fun w0 F => ?_)
  refine W.seq ?_
  refine W.region ?_
  refine W.q (Ev.assign .k) rfl ?_
  refine W.nil ?_
  refine W.then ?_
  refine W.seq ?_
  refine W.region ?_
  refine W.q (Ev.move (.t rfl)) rfl ?_
  refine W.q (Ev.move (.t rfl)) rfl ?_
  refine W.callp (c_IndexByte0 l c) ⟨(.t rfl), (.t rfl), trivial⟩ rfl ?_
  refine W.q (Ev.assign (.t rfl)) rfl ?_
  refine W.nil ?_
  refine W.then ?_
  refine W.ret ?_
  refine W.retn (M' := []) (rs := [.tmp 4]) (avs := [_]) Try.results41 ⟨rfl, trivial⟩ rfl (.refl _) ?_
  exact ⟨rfl, rfl⟩

end WIndex

end Go.Proofs.Ythhkionhimbekaa
