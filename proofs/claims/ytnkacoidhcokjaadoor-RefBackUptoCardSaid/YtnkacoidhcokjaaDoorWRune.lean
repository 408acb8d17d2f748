/-
  Letters that are written.
-/
import Derived.Test.YtnkacoidhcokjaaDoorRef
import Derived.Test.YtnkacoidhcokjaaDoorBase
import Derived.Test.YtnkacoidhcokjaaDoorWBld
set_option linter.unusedVariables false
set_option linter.unusedSimpArgs false
set_option maxRecDepth 100000
namespace Go.Proofs.YtnkacoidhcokjaaDoor
open Go.Vl

namespace WRune
theorem ty5 : Ty Tryd.prog 5 1 1 (.int .u8 0) := Ty.of (by kernel_rfl)
theorem ty48 : Ty Tryd.prog 48 1 24 (.slice none 0 0) := Ty.of (by kernel_rfl)
theorem ag48 : IsAgg Tryd.prog 48 false := ⟨_, Tryd.underlying48, rfl⟩
theorem fa50_1 : FieldAt Tryd.prog 50 1 1 1 false := ⟨_, _, Tryd.underlying50, rfl, rfl, ty48.size, ag48, by decide⟩
theorem ni48 : NotInt Tryd.prog 48 := .inl ⟨_, Tryd.underlying48⟩
theorem c_AppendRune (v : Value) (l : List UInt8) (hl : l.length < 17592186044416) (y : UInt8) (hy : y.toNat < 128) : FnC Tryd.prog 46 [.lit v, .lit (.int .i32 (y.toNat : Int))] [.arr v 5 1 (l.map AV.u8)] (fun r M => ∃ v', r = .lit v' ∧ M = [.arr v' 5 1 ((l ++ [y]).map AV.u8)]) :=  by
  refine FnC.mk Tryd.func46 (by kernel_rfl) rfl Tryd.ntmps46 rfl (fun w0 F => ?_)
  have hlm : (l.map AV.u8).length = l.length := List.length_map ..
  have hw1 : IntKind.u32.wrap (y.toNat : Int) = y.toNat := by simp [IntKind.wrap, IntKind.signed, IntKind.bits]; omega
  have hw2 : IntKind.u8.wrap (y.toNat : Int) = y.toNat := by simp [IntKind.wrap, IntKind.signed, IntKind.bits]; omega
  refine W.seq ?_
  refine W.region ?_
  refine W.q (Ev.assign .k) rfl ?_
  refine W.nil ?_
  refine W.then ?_
  refine W.seq ?_
  refine W.seq ?_
  refine W.region ?_
  refine W.q (Ev.move (.t rfl)) rfl ?_
  refine W.q (Ev.conv (.t rfl) ⟨_, Tryd.underlying21⟩ Tryd.underlying71) rfl ?_
  refine W.q (Ev.lei (.t rfl) .k) rfl ?_
  refine W.nil ?_
  refine W.then ?_
  refine W.is (t := 7) (g := true) (av' := .lit (.bool true)) rfl (congrArg (fun b => AV.lit (.bool b)) (by rw [hw1]; exact decide_eq_true (by omega))) ?_
  refine W.condT (.t rfl) ?_
  refine W.seq ?_
  refine W.region ?_
  refine W.q (Ev.move (.t rfl)) rfl ?_
  refine W.q (Ev.move (.t rfl)) rfl ?_
  refine W.q (Ev.conv (.t rfl) ⟨_, Tryd.underlying21⟩ Tryd.underlying5) rfl ?_
  refine W.is (t := 10) (g := true) (av' := AV.u8 y) rfl (by rw [hw2]) ?_
  refine W.bs (es := [_]) Tryd.underlying48 ty5 ⟨rfl, (.t rfl), rfl, rfl, trivial⟩ rfl (by decide) rfl rfl ?_
  first | refine W.app 0 (.t rfl) rfl (.sl (.t rfl) (by first | (simp [AV.okc, shV]; done) | (intro e he; rw [List.mem_singleton.1 he]; rfl))) Tryd.underlying48 ni48 ty5 rfl rfl (by rw [hlm]; simp only [List.length_cons, List.length_nil]; omega) rfl ?_ | refine W.app 1 (.t rfl) rfl (.sl (.t rfl) (by first | (simp [AV.okc, shV]; done) | (intro e he; rw [List.mem_singleton.1 he]; rfl))) Tryd.underlying48 ni48 ty5 rfl rfl (by rw [hlm]; simp only [List.length_cons, List.length_nil]; omega) rfl ?_ | refine W.app 2 (.t rfl) rfl (.sl (.t rfl) (by first | (simp [AV.okc, shV]; done) | (intro e he; rw [List.mem_singleton.1 he]; rfl))) Tryd.underlying48 ni48 ty5 rfl rfl (by rw [hlm]; simp only [List.length_cons, List.length_nil]; omega) rfl ?_ | refine W.app 3 (.t rfl) rfl (.sl (.t rfl) (by first | (simp [AV.okc, shV]; done) | (intro e he; rw [List.mem_singleton.1 he]; rfl))) Tryd.underlying48 ni48 ty5 rfl rfl (by rw [hlm]; simp only [List.length_cons, List.length_nil]; omega) rfl ?_ | refine W.app 0 (.t rfl) rfl (.arr 0 (.t rfl) rfl (by first | (simp [AV.okc, shV]; done) | (intro e he; rw [List.mem_singleton.1 he]; rfl))) Tryd.underlying48 ni48 ty5 rfl rfl (by rw [hlm]; simp only [List.length_cons, List.length_nil]; omega) rfl ?_ | refine W.app 0 (.t rfl) rfl (.arr 1 (.t rfl) rfl (by first | (simp [AV.okc, shV]; done) | (intro e he; rw [List.mem_singleton.1 he]; rfl))) Tryd.underlying48 ni48 ty5 rfl rfl (by rw [hlm]; simp only [List.length_cons, List.length_nil]; omega) rfl ?_ | refine W.app 0 (.t rfl) rfl (.arr 2 (.t rfl) rfl (by first | (simp [AV.okc, shV]; done) | (intro e he; rw [List.mem_singleton.1 he]; rfl))) Tryd.underlying48 ni48 ty5 rfl rfl (by rw [hlm]; simp only [List.length_cons, List.length_nil]; omega) rfl ?_ | refine W.app 0 (.t rfl) rfl (.arr 3 (.t rfl) rfl (by first | (simp [AV.okc, shV]; done) | (intro e he; rw [List.mem_singleton.1 he]; rfl))) Tryd.underlying48 ni48 ty5 rfl rfl (by rw [hlm]; simp only [List.length_cons, List.length_nil]; omega) rfl ?_ | refine W.app 1 (.t rfl) rfl (.arr 0 (.t rfl) rfl (by first | (simp [AV.okc, shV]; done) | (intro e he; rw [List.mem_singleton.1 he]; rfl))) Tryd.underlying48 ni48 ty5 rfl rfl (by rw [hlm]; simp only [List.length_cons, List.length_nil]; omega) rfl ?_ | refine W.app 1 (.t rfl) rfl (.arr 1 (.t rfl) rfl (by first | (simp [AV.okc, shV]; done) | (intro e he; rw [List.mem_singleton.1 he]; rfl))) Tryd.underlying48 ni48 ty5 rfl rfl (by rw [hlm]; simp only [List.length_cons, List.length_nil]; omega) rfl ?_ | refine W.app 1 (.t rfl) rfl (.arr 2 (.t rfl) rfl (by first | (simp [AV.okc, shV]; done) | (intro e he; rw [List.mem_singleton.1 he]; rfl))) Tryd.underlying48 ni48 ty5 rfl rfl (by rw [hlm]; simp only [List.length_cons, List.length_nil]; omega) rfl ?_ | refine W.app 1 (.t rfl) rfl (.arr 3 (.t rfl) rfl (by first | (simp [AV.okc, shV]; done) | (intro e he; rw [List.mem_singleton.1 he]; rfl))) Tryd.underlying48 ni48 ty5 rfl rfl (by rw [hlm]; simp only [List.length_cons, List.length_nil]; omega) rfl ?_ | refine W.app 2 (.t rfl) rfl (.arr 0 (.t rfl) rfl (by first | (simp [AV.okc, shV]; done) | (intro e he; rw [List.mem_singleton.1 he]; rfl))) Tryd.underlying48 ni48 ty5 rfl rfl (by rw [hlm]; simp only [List.length_cons, List.length_nil]; omega) rfl ?_ | refine W.app 2 (.t rfl) rfl (.arr 1 (.t rfl) rfl (by first | (simp [AV.okc, shV]; done) | (intro e he; rw [List.mem_singleton.1 he]; rfl))) Tryd.underlying48 ni48 ty5 rfl rfl (by rw [hlm]; simp only [List.length_cons, List.length_nil]; omega) rfl ?_ | refine W.app 2 (.t rfl) rfl (.arr 2 (.t rfl) rfl (by first | (simp [AV.okc, shV]; done) | (intro e he; rw [List.mem_singleton.1 he]; rfl))) Tryd.underlying48 ni48 ty5 rfl rfl (by rw [hlm]; simp only [List.length_cons, List.length_nil]; omega) rfl ?_ | refine W.app 2 (.t rfl) rfl (.arr 3 (.t rfl) rfl (by first | (simp [AV.okc, shV]; done) | (intro e he; rw [List.mem_singleton.1 he]; rfl))) Tryd.underlying48 ni48 ty5 rfl rfl (by rw [hlm]; simp only [List.length_cons, List.length_nil]; omega) rfl ?_ | refine W.app 3 (.t rfl) rfl (.arr 0 (.t rfl) rfl (by first | (simp [AV.okc, shV]; done) | (intro e he; rw [List.mem_singleton.1 he]; rfl))) Tryd.underlying48 ni48 ty5 rfl rfl (by rw [hlm]; simp only [List.length_cons, List.length_nil]; omega) rfl ?_ | refine W.app 3 (.t rfl) rfl (.arr 1 (.t rfl) rfl (by first | (simp [AV.okc, shV]; done) | (intro e he; rw [List.mem_singleton.1 he]; rfl))) Tryd.underlying48 ni48 ty5 rfl rfl (by rw [hlm]; simp only [List.length_cons, List.length_nil]; omega) rfl ?_ | refine W.app 3 (.t rfl) rfl (.arr 2 (.t rfl) rfl (by first | (simp [AV.okc, shV]; done) | (intro e he; rw [List.mem_singleton.1 he]; rfl))) Tryd.underlying48 ni48 ty5 rfl rfl (by rw [hlm]; simp only [List.length_cons, List.length_nil]; omega) rfl ?_ | refine W.app 3 (.t rfl) rfl (.arr 3 (.t rfl) rfl (by first | (simp [AV.okc, shV]; done) | (intro e he; rw [List.mem_singleton.1 he]; rfl))) Tryd.underlying48 ni48 ty5 rfl rfl (by rw [hlm]; simp only [List.length_cons, List.length_nil]; omega) rfl ?_
  intro v12
  refine W.q (Ev.assign (.t rfl)) rfl ?_
  refine W.nil ?_
  refine W.then ?_
  refine W.ret ?_
  refine W.then_ret ?_
  refine W.retn (M' := [.arr _ 5 1 _]) (rs := [.tmp 4]) (avs := [_]) Tryd.results46 ⟨rfl, trivial⟩ rfl (.refl _) ?_
  exact ⟨_, rfl, by rw [List.map_append]; rfl⟩

theorem c_WriteRune (b : Nat) (p : Option Addr) (v : Value) (l : List UInt8) (hp : p = none ∨ p = some ⟨b, 0, none⟩) (hl : l.length < 17592186044416) (y : UInt8) (hy : y.toNat < 128) : FnC Tryd.prog 30 [.lit (.pointer (some ⟨b, 0, none⟩)), .lit (.int .i32 (y.toNat : Int))] [.box b 50 [.lit (.pointer p), .lit v], .arr v 5 1 (l.map AV.u8)] (fun r M => (∃ k, r = .tup [.lit (.int .i64 k), .lit .nilIface]) ∧ ∃ v', M = [.box b 50 [.lit (.pointer (some ⟨b, 0, none⟩)), .lit v'], .arr v' 5 1 ((l ++ [y]).map AV.u8)]) :=  by
  refine FnC.mk Tryd.func30 (by kernel_rfl) rfl Tryd.ntmps30 rfl (fun w0 F => ?_)
  have hlm : (l.map AV.u8).length = l.length := List.length_map ..
  have hlm2 : ((l ++ [y]).map AV.u8).length = l.length + 1 := by simp
  refine W.seq ?_
  refine W.region ?_
  refine W.q (Ev.assign .k) rfl ?_
  refine W.q (Ev.assign .k) rfl ?_
  refine W.nil ?_
  refine W.then ?_
  refine W.seq ?_
  refine W.region ?_
  refine W.q (Ev.move (.t rfl)) rfl ?_
  refine W.call (WBld.c_copyCheck b v p hp) ⟨(.t rfl), trivial⟩ (.refl _) rfl ?_
  rintro _ _ ⟨rfl, rfl⟩
  refine W.nil ?_
  refine W.then ?_
  refine W.seq ?_
  refine W.region ?_
  refine W.q (Ev.move (.t rfl)) rfl ?_
  refine W.q (Ev.nilc (.t rfl)) rfl ?_
  first | refine W.q (Ev.fae (.t rfl) fa50_1 rfl) rfl ?_ | refine W.q (Ev.fab (.t rfl) fa50_1) rfl ?_ | refine W.q (Ev.faa (.t rfl) fa50_1) rfl ?_
  first | refine W.q (Ev.lde1 (.t rfl) ag48) rfl ?_ | refine W.q (Ev.ldb1 0 (.t rfl) rfl ag48 rfl) rfl ?_ | refine W.q (Ev.ldb1 1 (.t rfl) rfl ag48 rfl) rfl ?_ | refine W.q (Ev.ldb1 2 (.t rfl) rfl ag48 rfl) rfl ?_ | refine W.q (Ev.ldb1 3 (.t rfl) rfl ag48 rfl) rfl ?_
  first | refine W.q (Ev.lensl (.t rfl) Tryd.underlying48) rfl ?_ | refine W.q (Ev.lenar (i := 0) (.t rfl) rfl Tryd.underlying48) rfl ?_ | refine W.q (Ev.lenar (i := 1) (.t rfl) rfl Tryd.underlying48) rfl ?_ | refine W.q (Ev.lenar (i := 2) (.t rfl) rfl Tryd.underlying48) rfl ?_ | refine W.q (Ev.lenar (i := 3) (.t rfl) rfl Tryd.underlying48) rfl ?_
  refine W.q (Ev.assign (.t rfl)) rfl ?_
  refine W.nil ?_
  refine W.then ?_
  refine W.seq ?_
  refine W.region ?_
  refine W.q (Ev.move (.t rfl)) rfl ?_
  refine W.q (Ev.move (.t rfl)) rfl ?_
  refine W.q (Ev.nilc (.t rfl)) rfl ?_
  first | refine W.q (Ev.fae (.t rfl) fa50_1 rfl) rfl ?_ | refine W.q (Ev.fab (.t rfl) fa50_1) rfl ?_ | refine W.q (Ev.faa (.t rfl) fa50_1) rfl ?_
  first | refine W.q (Ev.lde1 (.t rfl) ag48) rfl ?_ | refine W.q (Ev.ldb1 0 (.t rfl) rfl ag48 rfl) rfl ?_ | refine W.q (Ev.ldb1 1 (.t rfl) rfl ag48 rfl) rfl ?_ | refine W.q (Ev.ldb1 2 (.t rfl) rfl ag48 rfl) rfl ?_ | refine W.q (Ev.ldb1 3 (.t rfl) rfl ag48 rfl) rfl ?_
  refine W.q (Ev.move (.t rfl)) rfl ?_
  refine W.call (c_AppendRune v l hl y hy) ⟨(.t rfl), (.t rfl), trivial⟩ (List.Perm.swap _ _ []) rfl ?_
  rintro _ _ ⟨v20, rfl, rfl⟩
  refine W.arr_inv 0 rfl (fun a20 n20 c20 h20 => ?_)
  subst h20
  refine W.q (Ev.nilc (.t rfl)) rfl ?_
  first | refine W.q (Ev.fae (.t rfl) fa50_1 rfl) rfl ?_ | refine W.q (Ev.fab (.t rfl) fa50_1) rfl ?_ | refine W.q (Ev.faa (.t rfl) fa50_1) rfl ?_
  first | refine W.stb 0 (.t rfl) (.t rfl) rfl ty48 rfl rfl rfl ?_ | refine W.stb 1 (.t rfl) (.t rfl) rfl ty48 rfl rfl rfl ?_ | refine W.stb 2 (.t rfl) (.t rfl) rfl ty48 rfl rfl rfl ?_ | refine W.stb 3 (.t rfl) (.t rfl) rfl ty48 rfl rfl rfl ?_
  refine W.nil ?_
  refine W.then ?_
  refine W.seq ?_
  refine W.region ?_
  refine W.q (Ev.move (.t rfl)) rfl ?_
  refine W.q (Ev.nilc (.t rfl)) rfl ?_
  first | refine W.q (Ev.fae (.t rfl) fa50_1 rfl) rfl ?_ | refine W.q (Ev.fab (.t rfl) fa50_1) rfl ?_ | refine W.q (Ev.faa (.t rfl) fa50_1) rfl ?_
  first | refine W.q (Ev.lde1 (.t rfl) ag48) rfl ?_ | refine W.q (Ev.ldb1 0 (.t rfl) rfl ag48 rfl) rfl ?_ | refine W.q (Ev.ldb1 1 (.t rfl) rfl ag48 rfl) rfl ?_ | refine W.q (Ev.ldb1 2 (.t rfl) rfl ag48 rfl) rfl ?_ | refine W.q (Ev.ldb1 3 (.t rfl) rfl ag48 rfl) rfl ?_
  first | refine W.q (Ev.lensl (.t rfl) Tryd.underlying48) rfl ?_ | refine W.q (Ev.lenar (i := 0) (.t rfl) rfl Tryd.underlying48) rfl ?_ | refine W.q (Ev.lenar (i := 1) (.t rfl) rfl Tryd.underlying48) rfl ?_ | refine W.q (Ev.lenar (i := 2) (.t rfl) rfl Tryd.underlying48) rfl ?_ | refine W.q (Ev.lenar (i := 3) (.t rfl) rfl Tryd.underlying48) rfl ?_
  refine W.q (Ev.move (.t rfl)) rfl ?_
  first | refine W.q (Ev.sub (.t rfl) (.t rfl) (fun _ => by omega)) rfl ?_ | refine W.q (Ev.subw (.t rfl) (.t rfl)) rfl ?_
  refine W.q (Ev.assign (.t rfl)) rfl ?_
  refine W.q (Ev.assign .k) rfl ?_
  refine W.nil ?_
  refine W.then ?_
  refine W.ret ?_
  refine W.retn (M' := [.box b 50 _, .arr _ 5 1 _]) (rs := [.tmp 4, .tmp 5]) (avs := [_, _]) Tryd.results30 ⟨rfl, rfl, trivial⟩ rfl (List.Perm.swap _ _ []) ?_
  exact ⟨⟨_, rfl⟩, _, rfl⟩

end WRune

end Go.Proofs.YtnkacoidhcokjaaDoor
