/-
  The Builder: strings.
-/
import Derived.Test.YteepllfbnoaiaaaWBld
set_option linter.unusedVariables false
set_option linter.unusedSimpArgs false
set_option maxRecDepth 100000
namespace Go.Proofs.Yteepllfbnoaiaaa
open Go.Vl

namespace WStr
theorem ty5 : Ty Try.prog 5 1 1 (.int .u8 0) := Ty.of (by kernel_rfl)
theorem ty87 : Ty Try.prog 87 1 24 (.slice none 0 0) := Ty.of (by kernel_rfl)
theorem ag87 : IsAgg Try.prog 87 false := ⟨_, Try.underlying87, rfl⟩
theorem fa89_1 : FieldAt Try.prog 89 1 1 1 false := ⟨_, _, Try.underlying89, rfl, rfl, ty87.size, ag87, by decide⟩
theorem ni9 : NotInt Try.prog 9 := .inr Try.underlying9
theorem c_WriteString (b : Nat) (p : Option Addr) (v : Value) (l : List UInt8) (hp : p = none ∨ p = some ⟨b, 0, none⟩) (s : List UInt8) (hl : l.length + s.length ≤ 17592186044416) : FnC Try.prog 44 [.lit (.pointer (some ⟨b, 0, none⟩)), .str s] [.box b 89 [.lit (.pointer p), .lit v], .arr v 5 1 (l.map AV.u8)] (fun r M => r = .tup [.int (s.length : Int), .lit .nilIface] ∧ ∃ v', M = [.box b 89 [.lit (.pointer (some ⟨b, 0, none⟩)), .lit v'], .arr v' 5 1 ((l ++ s).map AV.u8)]) :=  by
  refine FnC.mk Try.func44 (by kernel_rfl) rfl Try.ntmps44 rfl (fun w0 F => ?_)
  have hlm : (l.map AV.u8).length = l.length := List.length_map ..
  have hsm : (s.map AV.u8).length = s.length := List.length_map ..
  refine W.seq ?_
  refine W.region ?_
  refine W.q (Ev.assign .k) rfl ?_
  refine W.q (Ev.assign .k) rfl ?_
  refine W.nil ?_
  refine W.then ?_
  refine W.seq ?_
  refine W.region ?_
  refine W.q (Ev.move (.t rfl)) rfl ?_
  refine W.call (WBld.c_copyCheck b v p hp) ⟨(.t rfl), trivial⟩ (.refl _) rfl ?_
  rintro _ _ ⟨rfl, rfl⟩
  refine W.nil ?_
  refine W.then ?_
  refine W.seq ?_
  refine W.region ?_
  refine W.q (Ev.move (.t rfl)) rfl ?_
  refine W.q (Ev.move (.t rfl)) rfl ?_
  refine W.q (Ev.nilc (.t rfl)) rfl ?_
  first | refine W.q (Ev.fae (.t rfl) fa89_1 rfl) rfl ?_ | refine W.q (Ev.fab (.t rfl) fa89_1) rfl ?_ | refine W.q (Ev.faa (.t rfl) fa89_1) rfl ?_
  first | refine W.q (Ev.lde1 (.t rfl) ag87) rfl ?_ | refine W.q (Ev.ldb1 0 (.t rfl) rfl ag87 rfl) rfl ?_ | refine W.q (Ev.ldb1 1 (.t rfl) rfl ag87 rfl) rfl ?_ | refine W.q (Ev.ldb1 2 (.t rfl) rfl ag87 rfl) rfl ?_ | refine W.q (Ev.ldb1 3 (.t rfl) rfl ag87 rfl) rfl ?_
  refine W.q (Ev.move (.t rfl)) rfl ?_
  first | refine W.app 0 (.t rfl) rfl (.str (.t rfl)) Try.underlying87 ni9 ty5 rfl rfl (by rw [hlm, hsm]; omega) rfl ?_ | refine W.app 1 (.t rfl) rfl (.str (.t rfl)) Try.underlying87 ni9 ty5 rfl rfl (by rw [hlm, hsm]; omega) rfl ?_ | refine W.app 2 (.t rfl) rfl (.str (.t rfl)) Try.underlying87 ni9 ty5 rfl rfl (by rw [hlm, hsm]; omega) rfl ?_ | refine W.app 3 (.t rfl) rfl (.str (.t rfl)) Try.underlying87 ni9 ty5 rfl rfl (by rw [hlm, hsm]; omega) rfl ?_
  intro v14
  refine W.arr_inv 1 rfl (fun a14 n14 c14 h14 => ?_)
  subst h14
  refine W.q (Ev.nilc (.t rfl)) rfl ?_
  first | refine W.q (Ev.fae (.t rfl) fa89_1 rfl) rfl ?_ | refine W.q (Ev.fab (.t rfl) fa89_1) rfl ?_ | refine W.q (Ev.faa (.t rfl) fa89_1) rfl ?_
  first | refine W.stb 0 (.t rfl) (.t rfl) rfl ty87 rfl rfl rfl ?_ | refine W.stb 1 (.t rfl) (.t rfl) rfl ty87 rfl rfl rfl ?_ | refine W.stb 2 (.t rfl) (.t rfl) rfl ty87 rfl rfl rfl ?_ | refine W.stb 3 (.t rfl) (.t rfl) rfl ty87 rfl rfl rfl ?_
  refine W.nil ?_
  refine W.then ?_
  refine W.seq ?_
  refine W.region ?_
  refine W.q (Ev.move (.t rfl)) rfl ?_
  refine W.q (Ev.lens (.t rfl) Try.underlying9) rfl ?_
  refine W.q (Ev.assign (.t rfl)) rfl ?_
  refine W.q (Ev.assign .k) rfl ?_
  refine W.nil ?_
  refine W.then ?_
  refine W.ret ?_
  refine W.retn (M' := [.box b 89 _, .arr _ 5 1 _]) (rs := [.tmp 4, .tmp 5]) (avs := [_, _]) Try.results44 ⟨rfl, rfl, trivial⟩ rfl (.refl _) ?_
  exact ⟨rfl, _, by rw [List.map_append]; rfl⟩

theorem c_Len (b : Nat) (p : Option Addr) (v : Value) (l : List UInt8) : FnC Try.prog 47 [.lit (.pointer (some ⟨b, 0, none⟩))] [.box b 89 [.lit (.pointer p), .lit v], .arr v 5 1 (l.map AV.u8)] (fun r M => r = .int (l.length : Int) ∧ M = [.box b 89 [.lit (.pointer p), .lit v], .arr v 5 1 (l.map AV.u8)]) :=  by
  refine FnC.mk Try.func47 (by kernel_rfl) rfl Try.ntmps47 rfl (fun w0 F => ?_)
  have hlm : (l.map AV.u8).length = l.length := List.length_map ..
  refine W.seq ?_
  refine W.region ?_
  refine W.q (Ev.assign .k) rfl ?_
  refine W.nil ?_
  refine W.then ?_
  refine W.seq ?_
  refine W.region ?_
  refine W.q (Ev.move (.t rfl)) rfl ?_
  refine W.q (Ev.nilc (.t rfl)) rfl ?_
  first | refine W.q (Ev.fae (.t rfl) fa89_1 rfl) rfl ?_ | refine W.q (Ev.fab (.t rfl) fa89_1) rfl ?_ | refine W.q (Ev.faa (.t rfl) fa89_1) rfl ?_
  first | refine W.q (Ev.lde1 (.t rfl) ag87) rfl ?_ | refine W.q (Ev.ldb1 0 (.t rfl) rfl ag87 rfl) rfl ?_ | refine W.q (Ev.ldb1 1 (.t rfl) rfl ag87 rfl) rfl ?_ | refine W.q (Ev.ldb1 2 (.t rfl) rfl ag87 rfl) rfl ?_ | refine W.q (Ev.ldb1 3 (.t rfl) rfl ag87 rfl) rfl ?_
  first | refine W.q (Ev.lensl (.t rfl) Try.underlying87) rfl ?_ | refine W.q (Ev.lenar (i := 0) (.t rfl) rfl Try.underlying87) rfl ?_ | refine W.q (Ev.lenar (i := 1) (.t rfl) rfl Try.underlying87) rfl ?_ | refine W.q (Ev.lenar (i := 2) (.t rfl) rfl Try.underlying87) rfl ?_ | refine W.q (Ev.lenar (i := 3) (.t rfl) rfl Try.underlying87) rfl ?_
  refine W.q (Ev.assign (.t rfl)) rfl ?_
  refine W.nil ?_
  refine W.then ?_
  refine W.ret ?_
  refine W.retn (M' := [.box b 89 _, .arr v 5 1 _]) (D := []) (rs := [.tmp 2]) (avs := [_]) Try.results47 ⟨rfl, trivial⟩ rfl (by rw [List.append_nil]) ?_
  exact ⟨congrArg AV.int (by rw [hlm]), rfl⟩

end WStr

end Go.Proofs.Yteepllfbnoaiaaa
