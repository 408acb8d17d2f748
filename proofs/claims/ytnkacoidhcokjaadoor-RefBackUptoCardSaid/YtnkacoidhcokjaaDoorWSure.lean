/-
  Two texts that are told.
-/
import Derived.Test.YtnkacoidhcokjaaDoorRef
import Derived.Test.YtnkacoidhcokjaaDoorBase
import Derived.Test.YtnkacoidhcokjaaDoorWUnesc
import Derived.Test.YtnkacoidhcokjaaDoorWEsc
set_option linter.unusedVariables false
set_option linter.unusedSimpArgs false
set_option maxRecDepth 100000
namespace Go.Proofs.YtnkacoidhcokjaaDoor
open Go.Vl

namespace WSure

theorem c_sure : FnP Tryd.prog 15 [] (.bool true) :=  by
  refine FnC.mk Tryd.func15 (by kernel_rfl) rfl Tryd.ntmps15 rfl (fun w0 F => ?_)
  have cU : FnP Tryd.prog 16 [.str [38, 108, 116, 59, 97]] (.str [60, 97]) := WUnesc.c_Unescape [(60, true), (97, false)] (by
    intro q hq
    simp only [List.mem_cons, List.not_mem_nil, or_false] at hq
    rcases hq with rfl | rfl <;> simp [Pc.ok]) (by decide) (by decide)
  refine W.seq ?_
  refine W.region ?_
  refine W.q (Ev.assign .k) rfl ?_
  refine W.nil ?_
  refine W.then ?_
  refine W.seq ?_
  refine W.region ?_
  refine W.callp (WEsc.c_Escape [60, 97] true (by decide)) ⟨.k, .k, trivial⟩ rfl ?_
  refine W.q (Ev.eqs (.t rfl) .k) rfl ?_
  refine W.q (Ev.move (.t rfl)) rfl ?_
  refine W.is (t := 3) (g := true) (av' := .bool true) rfl (congrArg AV.bool (by decide)) ?_
  refine W.gyes rfl rfl ?_
  refine W.callp (cU) ⟨.k, trivial⟩ rfl ?_
  refine W.gyes rfl rfl ?_
  refine W.q (Ev.eqs (.t rfl) .k) rfl ?_
  refine W.q (Ev.and (.t rfl) ⟨_, _, rfl, rfl, by first | (simp; done) | (intro hg_ hp_; simp [hp_]; done) | (simp <;> omega; done) | (simp_all; done) | grind⟩) rfl ?_
  refine W.q (Ev.assign (.t rfl)) rfl ?_
  refine W.nil ?_
  refine W.then ?_
  refine W.ret ?_
  refine W.retn (M' := []) (D := _) (rs := [.tmp 0]) (avs := [_]) Tryd.results15 ⟨rfl, trivial⟩ rfl (.refl _) ?_
  exact ⟨rfl, rfl⟩

end WSure

end Go.Proofs.YtnkacoidhcokjaaDoor
