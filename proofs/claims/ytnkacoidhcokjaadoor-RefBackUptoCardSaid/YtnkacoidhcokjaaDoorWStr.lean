/-
  The Builder: strings.
-/
import Derived.Test.YtnkacoidhcokjaaDoorWBld
set_option linter.unusedVariables false
set_option linter.unusedSimpArgs false
set_option maxRecDepth 100000
namespace Go.Proofs.YtnkacoidhcokjaaDoor
open Go.Vl

namespace WStr
theorem ty5 : Ty Tryd.prog 5 1 1 (.int .u8 0) := Ty.of (by kernel_rfl)
theorem ty48 : Ty Tryd.prog 48 1 24 (.slice none 0 0) := Ty.of (by kernel_rfl)
theorem ag48 : IsAgg Tryd.prog 48 false := ⟨_, Tryd.underlying48, rfl⟩
theorem fa50_1 : FieldAt Tryd.prog 50 1 1 1 false := ⟨_, _, Tryd.underlying50, rfl, rfl, ty48.size, ag48, by decide⟩
theorem ni9 : NotInt Tryd.prog 9 := .inr Tryd.underlying9
theorem c_WriteString (b : Nat) (p : Option Addr) (v : Value) (l : List UInt8) (hp : p = none ∨ p = some ⟨b, 0, none⟩) (s : List UInt8) (hl : l.length + s.length ≤ 17592186044416) : FnC Tryd.prog 25 [.lit (.pointer (some ⟨b, 0, none⟩)), .str s] [.box b 50 [.lit (.pointer p), .lit v], .arr v 5 1 (l.map AV.u8)] (fun r M => r = .tup [.int (s.length : Int), .lit .nilIface] ∧ ∃ v', M = [.box b 50 [.lit (.pointer (some ⟨b, 0, none⟩)), .lit v'], .arr v' 5 1 ((l ++ s).map AV.u8)]) :=  by
  refine FnC.mk Tryd.func25 (by kernel_rfl) rfl Tryd.ntmps25 rfl (fun w0 F => ?_)
  have hlm : (l.map AV.u8).length = l.length := List.length_map ..
  have hsm : (s.map AV.u8).length = s.length := List.length_map ..
  refine W.seq ?_
  refine W.region ?_
  refine W.q (Ev.assign .k) rfl ?_
  refine W.q (Ev.assign .k) rfl ?_
  refine W.nil ?_
  refine W.then ?_
  refine W.seq ?_
  refine W.region ?_
  refine W.q (Ev.move (.t rfl)) rfl ?_
  refine W.call (WBld.c_copyCheck b v p hp) ⟨(.t rfl), trivial⟩ (.refl _) rfl ?_
  rintro _ _ ⟨rfl, rfl⟩
  refine W.nil ?_
  refine W.then ?_
  refine W.seq ?_
  refine W.region ?_
  refine W.q (Ev.move (.t rfl)) rfl ?_
  refine W.q (Ev.move (.t rfl)) rfl ?_
  refine W.q (Ev.nilc (.t rfl)) rfl ?_
  first | refine W.q (Ev.fae (.t rfl) fa50_1 rfl) rfl ?_ | refine W.q (Ev.fab (.t rfl) fa50_1) rfl ?_ | refine W.q (Ev.faa (.t rfl) fa50_1) rfl ?_
  first | refine W.q (Ev.lde1 (.t rfl) ag48) rfl ?_ | refine W.q (Ev.ldb1 0 (.t rfl) rfl ag48 rfl) rfl ?_ | refine W.q (Ev.ldb1 1 (.t rfl) rfl ag48 rfl) rfl ?_ | refine W.q (Ev.ldb1 2 (.t rfl) rfl ag48 rfl) rfl ?_ | refine W.q (Ev.ldb1 3 (.t rfl) rfl ag48 rfl) rfl ?_
  refine W.q (Ev.move (.t rfl)) rfl ?_
  first | refine W.app 0 (.t rfl) rfl (.str (.t rfl)) Tryd.underlying48 ni9 ty5 rfl rfl (by rw [hlm, hsm]; omega) rfl ?_ | refine W.app 1 (.t rfl) rfl (.str (.t rfl)) Tryd.underlying48 ni9 ty5 rfl rfl (by rw [hlm, hsm]; omega) rfl ?_ | refine W.app 2 (.t rfl) rfl (.str (.t rfl)) Tryd.underlying48 ni9 ty5 rfl rfl (by rw [hlm, hsm]; omega) rfl ?_ | refine W.app 3 (.t rfl) rfl (.str (.t rfl)) Tryd.underlying48 ni9 ty5 rfl rfl (by rw [hlm, hsm]; omega) rfl ?_
  intro v14
  refine W.arr_inv 1 rfl (fun a14 n14 c14 h14 => ?_)
  subst h14
  refine W.q (Ev.nilc (.t rfl)) rfl ?_
  first | refine W.q (Ev.fae (.t rfl) fa50_1 rfl) rfl ?_ | refine W.q (Ev.fab (.t rfl) fa50_1) rfl ?_ | refine W.q (Ev.faa (.t rfl) fa50_1) rfl ?_
  first | refine W.stb 0 (.t rfl) (.t rfl) rfl ty48 rfl rfl rfl ?_ | refine W.stb 1 (.t rfl) (.t rfl) rfl ty48 rfl rfl rfl ?_ | refine W.stb 2 (.t rfl) (.t rfl) rfl ty48 rfl rfl rfl ?_ | refine W.stb 3 (.t rfl) (.t rfl) rfl ty48 rfl rfl rfl ?_
  refine W.nil ?_
  refine W.then ?_
  refine W.seq ?_
  refine W.region ?_
  refine W.q (Ev.move (.t rfl)) rfl ?_
  refine W.q (Ev.lens (.t rfl) Tryd.underlying9) rfl ?_
  refine W.q (Ev.assign (.t rfl)) rfl ?_
  refine W.q (Ev.assign .k) rfl ?_
  refine W.nil ?_
  refine W.then ?_
  refine W.ret ?_
  refine W.retn (M' := [.box b 50 _, .arr _ 5 1 _]) (rs := [.tmp 4, .tmp 5]) (avs := [_, _]) Tryd.results25 ⟨rfl, rfl, trivial⟩ rfl (.refl _) ?_
  exact ⟨rfl, _, by rw [List.map_append]; rfl⟩

end WStr

end Go.Proofs.YtnkacoidhcokjaaDoor
