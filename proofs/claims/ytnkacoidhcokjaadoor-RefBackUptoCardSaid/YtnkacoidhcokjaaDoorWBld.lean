/-
  The Builder.
-/
import Derived.Test.YtnkacoidhcokjaaDoorBld
import Derived.Test.YtnkacoidhcokjaaDoorBase
set_option linter.unusedVariables false
set_option linter.unusedSimpArgs false
set_option maxRecDepth 100000
namespace Go.Proofs.YtnkacoidhcokjaaDoor
open Go.Vl

namespace WBld
theorem ty5 : Ty Tryd.prog 5 1 1 (.int .u8 0) := Ty.of (by kernel_rfl)
theorem ty47 : Ty Tryd.prog 47 1 8 (.pointer none) := Ty.of (by kernel_rfl)
theorem ty48 : Ty Tryd.prog 48 1 24 (.slice none 0 0) := Ty.of (by kernel_rfl)
theorem ty50 : Ty Tryd.prog 50 2 32 (.agg #[.pointer none, .slice none 0 0]) := Ty.of (by kernel_rfl)
theorem ag47 : IsAgg Tryd.prog 47 false := ⟨_, Tryd.underlying47, rfl⟩
theorem ag48 : IsAgg Tryd.prog 48 false := ⟨_, Tryd.underlying48, rfl⟩
theorem fa50_0 : FieldAt Tryd.prog 50 0 0 1 false := ⟨_, _, Tryd.underlying50, rfl, rfl, ty47.size, ag47, by decide⟩
theorem fa50_1 : FieldAt Tryd.prog 50 1 1 1 false := ⟨_, _, Tryd.underlying50, rfl, rfl, ty48.size, ag48, by decide⟩
theorem ni48 : NotInt Tryd.prog 48 := .inl ⟨_, Tryd.underlying48⟩
theorem c_ccNew (b : Nat) (s : Value) : FnC Tryd.prog 41 [.lit (.pointer (some ⟨b, 0, none⟩))] [.box b 50 [.lit (.pointer none), .lit s]] (fun r M => r = .tup [] ∧ M = [.box b 50 [.lit (.pointer (some ⟨b, 0, none⟩)), .lit s]]) :=  by
  refine FnC.mk Tryd.func41 (by kernel_rfl) rfl Tryd.ntmps41 rfl (fun w0 F => ?_)
  refine W.seq ?_
  refine W.region ?_
  refine W.q (Ev.move (.t rfl)) rfl ?_
  refine W.q (Ev.nilc (.t rfl)) rfl ?_
  first | refine W.q (Ev.fae (.t rfl) fa50_0 rfl) rfl ?_ | refine W.q (Ev.fab (.t rfl) fa50_0) rfl ?_ | refine W.q (Ev.faa (.t rfl) fa50_0) rfl ?_
  first | refine W.q (Ev.lde1 (.t rfl) ag47) rfl ?_ | refine W.q (Ev.ldb1 0 (.t rfl) rfl ag47 rfl) rfl ?_ | refine W.q (Ev.ldb1 1 (.t rfl) rfl ag47 rfl) rfl ?_ | refine W.q (Ev.ldb1 2 (.t rfl) rfl ag47 rfl) rfl ?_ | refine W.q (Ev.ldb1 3 (.t rfl) rfl ag47 rfl) rfl ?_
  refine W.q (Ev.eqpn (.t rfl) Tryd.underlying47) rfl ?_
  refine W.nil ?_
  refine W.then ?_
  refine W.is (t := 6) (g := true) (av' := .lit (.bool true)) rfl (congrArg (fun b => AV.lit (.bool b)) (by rfl)) ?_
  refine W.condT (.t rfl) ?_
  refine W.region ?_
  refine W.q (Ev.move (.t rfl)) rfl ?_
  refine W.q (Ev.move (.t rfl)) rfl ?_
  first | refine W.q (Ev.touns 0 (.t rfl) rfl Tryd.underlying47 Tryd.underlying97 ty50) rfl ?_ | refine W.q (Ev.touns 1 (.t rfl) rfl Tryd.underlying47 Tryd.underlying97 ty50) rfl ?_ | refine W.q (Ev.touns 2 (.t rfl) rfl Tryd.underlying47 Tryd.underlying97 ty50) rfl ?_ | refine W.q (Ev.touns 3 (.t rfl) rfl Tryd.underlying47 Tryd.underlying97 ty50) rfl ?_
  refine W.q (Ev.noesc Tryd.func55 (by kernel_rfl) (by kernel_rfl) (by kernel_rfl) (by kernel_rfl) (.t rfl)) rfl ?_
  first | refine W.q (Ev.fromuns 0 (.t rfl) rfl Tryd.underlying97 Tryd.underlying47 ty50 (by kernel_rfl)) rfl ?_ | refine W.q (Ev.fromuns 1 (.t rfl) rfl Tryd.underlying97 Tryd.underlying47 ty50 (by kernel_rfl)) rfl ?_ | refine W.q (Ev.fromuns 2 (.t rfl) rfl Tryd.underlying97 Tryd.underlying47 ty50 (by kernel_rfl)) rfl ?_ | refine W.q (Ev.fromuns 3 (.t rfl) rfl Tryd.underlying97 Tryd.underlying47 ty50 (by kernel_rfl)) rfl ?_
  refine W.q (Ev.nilc (.t rfl)) rfl ?_
  first | refine W.q (Ev.fae (.t rfl) fa50_0 rfl) rfl ?_ | refine W.q (Ev.fab (.t rfl) fa50_0) rfl ?_ | refine W.q (Ev.faa (.t rfl) fa50_0) rfl ?_
  first | refine W.stb 0 (.t rfl) (.t rfl) rfl ty47 rfl rfl rfl ?_ | refine W.stb 1 (.t rfl) (.t rfl) rfl ty47 rfl rfl rfl ?_ | refine W.stb 2 (.t rfl) (.t rfl) rfl ty47 rfl rfl rfl ?_ | refine W.stb 3 (.t rfl) (.t rfl) rfl ty47 rfl rfl rfl ?_
  refine W.nil ?_
  refine W.endn (M' := [.box b 50 _]) (rs := []) (avs := []) Tryd.results41 trivial rfl (.refl _) ?_
  exact ⟨rfl, rfl⟩

theorem c_ccUsed (b : Nat) (s : Value) : FnC Tryd.prog 41 [.lit (.pointer (some ⟨b, 0, none⟩))] [.box b 50 [.lit (.pointer (some ⟨b, 0, none⟩)), .lit s]] (fun r M => r = .tup [] ∧ M = [.box b 50 [.lit (.pointer (some ⟨b, 0, none⟩)), .lit s]]) :=  by
  refine FnC.mk Tryd.func41 (by kernel_rfl) rfl Tryd.ntmps41 rfl (fun w0 F => ?_)
  refine W.seq ?_
  refine W.region ?_
  refine W.q (Ev.move (.t rfl)) rfl ?_
  refine W.q (Ev.nilc (.t rfl)) rfl ?_
  first | refine W.q (Ev.fae (.t rfl) fa50_0 rfl) rfl ?_ | refine W.q (Ev.fab (.t rfl) fa50_0) rfl ?_ | refine W.q (Ev.faa (.t rfl) fa50_0) rfl ?_
  first | refine W.q (Ev.lde1 (.t rfl) ag47) rfl ?_ | refine W.q (Ev.ldb1 0 (.t rfl) rfl ag47 rfl) rfl ?_ | refine W.q (Ev.ldb1 1 (.t rfl) rfl ag47 rfl) rfl ?_ | refine W.q (Ev.ldb1 2 (.t rfl) rfl ag47 rfl) rfl ?_ | refine W.q (Ev.ldb1 3 (.t rfl) rfl ag47 rfl) rfl ?_
  refine W.q (Ev.eqpn (.t rfl) Tryd.underlying47) rfl ?_
  refine W.nil ?_
  refine W.then ?_
  refine W.is (t := 6) (g := true) (av' := .lit (.bool false)) rfl (congrArg (fun b => AV.lit (.bool b)) (by rfl)) ?_
  refine W.condF (.t rfl) ?_
  refine W.seq ?_
  refine W.region ?_
  refine W.q (Ev.move (.t rfl)) rfl ?_
  refine W.q (Ev.nilc (.t rfl)) rfl ?_
  first | refine W.q (Ev.fae (.t rfl) fa50_0 rfl) rfl ?_ | refine W.q (Ev.fab (.t rfl) fa50_0) rfl ?_ | refine W.q (Ev.faa (.t rfl) fa50_0) rfl ?_
  first | refine W.q (Ev.lde1 (.t rfl) ag47) rfl ?_ | refine W.q (Ev.ldb1 0 (.t rfl) rfl ag47 rfl) rfl ?_ | refine W.q (Ev.ldb1 1 (.t rfl) rfl ag47 rfl) rfl ?_ | refine W.q (Ev.ldb1 2 (.t rfl) rfl ag47 rfl) rfl ?_ | refine W.q (Ev.ldb1 3 (.t rfl) rfl ag47 rfl) rfl ?_
  refine W.q (Ev.move (.t rfl)) rfl ?_
  refine W.q (Ev.nep (.t rfl) (.t rfl) Tryd.underlying47 ty50) rfl ?_
  refine W.nil ?_
  refine W.then ?_
  refine W.condF (.t rfl) ?_
  refine W.skip ?_
  refine W.endn (M' := [.box b 50 _]) (rs := []) (avs := []) Tryd.results41 trivial rfl (.refl _) ?_
  exact ⟨rfl, rfl⟩

theorem c_copyCheck (b : Nat) (s : Value) (p : Option Addr) (hp : p = none ∨ p = some ⟨b, 0, none⟩) : FnC Tryd.prog 41 [.lit (.pointer (some ⟨b, 0, none⟩))] [.box b 50 [.lit (.pointer p), .lit s]] (fun r M => r = .tup [] ∧ M = [.box b 50 [.lit (.pointer (some ⟨b, 0, none⟩)), .lit s]]) := by
  rcases hp with rfl | rfl
  · exact c_ccNew b s
  · exact c_ccUsed b s

theorem c_WriteByte (b : Nat) (p : Option Addr) (v : Value) (l : List UInt8) (hp : p = none ∨ p = some ⟨b, 0, none⟩) (hl : l.length ≤ 17592186044416) (y : UInt8) : FnC Tryd.prog 26 [.lit (.pointer (some ⟨b, 0, none⟩)), AV.u8 y] [.box b 50 [.lit (.pointer p), .lit v], .arr v 5 1 (l.map AV.u8)] (fun r M => r = .lit .nilIface ∧ ∃ v', M = [.box b 50 [.lit (.pointer (some ⟨b, 0, none⟩)), .lit v'], .arr v' 5 1 ((l ++ [y]).map AV.u8)]) :=  by
  refine FnC.mk Tryd.func26 (by kernel_rfl) rfl Tryd.ntmps26 rfl (fun w0 F => ?_)
  have hlm : (l.map AV.u8).length = l.length := List.length_map ..
  refine W.seq ?_
  refine W.region ?_
  refine W.q (Ev.assign .k) rfl ?_
  refine W.nil ?_
  refine W.then ?_
  refine W.seq ?_
  refine W.region ?_
  refine W.q (Ev.move (.t rfl)) rfl ?_
  refine W.call (c_copyCheck b v p hp) ⟨(.t rfl), trivial⟩ (.refl _) rfl ?_
  rintro _ _ ⟨rfl, rfl⟩
  refine W.nil ?_
  refine W.then ?_
  refine W.seq ?_
  refine W.region ?_
  refine W.q (Ev.move (.t rfl)) rfl ?_
  refine W.q (Ev.move (.t rfl)) rfl ?_
  refine W.q (Ev.nilc (.t rfl)) rfl ?_
  first | refine W.q (Ev.fae (.t rfl) fa50_1 rfl) rfl ?_ | refine W.q (Ev.fab (.t rfl) fa50_1) rfl ?_ | refine W.q (Ev.faa (.t rfl) fa50_1) rfl ?_
  first | refine W.q (Ev.lde1 (.t rfl) ag48) rfl ?_ | refine W.q (Ev.ldb1 0 (.t rfl) rfl ag48 rfl) rfl ?_ | refine W.q (Ev.ldb1 1 (.t rfl) rfl ag48 rfl) rfl ?_ | refine W.q (Ev.ldb1 2 (.t rfl) rfl ag48 rfl) rfl ?_ | refine W.q (Ev.ldb1 3 (.t rfl) rfl ag48 rfl) rfl ?_
  refine W.q (Ev.move (.t rfl)) rfl ?_
  refine W.bs (es := [_]) Tryd.underlying48 ty5 ⟨rfl, (.t rfl), rfl, rfl, trivial⟩ rfl (by decide) rfl rfl ?_
  first | refine W.app 0 (.t rfl) rfl (.sl (.t rfl) (by first | (simp [AV.okc, shV]; done) | (intro e he; rw [List.mem_singleton.1 he]; rfl))) Tryd.underlying48 ni48 ty5 rfl rfl (by simp; omega) rfl ?_ | refine W.app 1 (.t rfl) rfl (.sl (.t rfl) (by first | (simp [AV.okc, shV]; done) | (intro e he; rw [List.mem_singleton.1 he]; rfl))) Tryd.underlying48 ni48 ty5 rfl rfl (by simp; omega) rfl ?_ | refine W.app 2 (.t rfl) rfl (.sl (.t rfl) (by first | (simp [AV.okc, shV]; done) | (intro e he; rw [List.mem_singleton.1 he]; rfl))) Tryd.underlying48 ni48 ty5 rfl rfl (by simp; omega) rfl ?_ | refine W.app 3 (.t rfl) rfl (.sl (.t rfl) (by first | (simp [AV.okc, shV]; done) | (intro e he; rw [List.mem_singleton.1 he]; rfl))) Tryd.underlying48 ni48 ty5 rfl rfl (by simp; omega) rfl ?_ | refine W.app 0 (.t rfl) rfl (.arr 0 (.t rfl) rfl (by first | (simp [AV.okc, shV]; done) | (intro e he; rw [List.mem_singleton.1 he]; rfl))) Tryd.underlying48 ni48 ty5 rfl rfl (by simp; omega) rfl ?_ | refine W.app 0 (.t rfl) rfl (.arr 1 (.t rfl) rfl (by first | (simp [AV.okc, shV]; done) | (intro e he; rw [List.mem_singleton.1 he]; rfl))) Tryd.underlying48 ni48 ty5 rfl rfl (by simp; omega) rfl ?_ | refine W.app 0 (.t rfl) rfl (.arr 2 (.t rfl) rfl (by first | (simp [AV.okc, shV]; done) | (intro e he; rw [List.mem_singleton.1 he]; rfl))) Tryd.underlying48 ni48 ty5 rfl rfl (by simp; omega) rfl ?_ | refine W.app 0 (.t rfl) rfl (.arr 3 (.t rfl) rfl (by first | (simp [AV.okc, shV]; done) | (intro e he; rw [List.mem_singleton.1 he]; rfl))) Tryd.underlying48 ni48 ty5 rfl rfl (by simp; omega) rfl ?_ | refine W.app 1 (.t rfl) rfl (.arr 0 (.t rfl) rfl (by first | (simp [AV.okc, shV]; done) | (intro e he; rw [List.mem_singleton.1 he]; rfl))) Tryd.underlying48 ni48 ty5 rfl rfl (by simp; omega) rfl ?_ | refine W.app 1 (.t rfl) rfl (.arr 1 (.t rfl) rfl (by first | (simp [AV.okc, shV]; done) | (intro e he; rw [List.mem_singleton.1 he]; rfl))) Tryd.underlying48 ni48 ty5 rfl rfl (by simp; omega) rfl ?_ | refine W.app 1 (.t rfl) rfl (.arr 2 (.t rfl) rfl (by first | (simp [AV.okc, shV]; done) | (intro e he; rw [List.mem_singleton.1 he]; rfl))) Tryd.underlying48 ni48 ty5 rfl rfl (by simp; omega) rfl ?_ | refine W.app 1 (.t rfl) rfl (.arr 3 (.t rfl) rfl (by first | (simp [AV.okc, shV]; done) | (intro e he; rw [List.mem_singleton.1 he]; rfl))) Tryd.underlying48 ni48 ty5 rfl rfl (by simp; omega) rfl ?_ | refine W.app 2 (.t rfl) rfl (.arr 0 (.t rfl) rfl (by first | (simp [AV.okc, shV]; done) | (intro e he; rw [List.mem_singleton.1 he]; rfl))) Tryd.underlying48 ni48 ty5 rfl rfl (by simp; omega) rfl ?_ | refine W.app 2 (.t rfl) rfl (.arr 1 (.t rfl) rfl (by first | (simp [AV.okc, shV]; done) | (intro e he; rw [List.mem_singleton.1 he]; rfl))) Tryd.underlying48 ni48 ty5 rfl rfl (by simp; omega) rfl ?_ | refine W.app 2 (.t rfl) rfl (.arr 2 (.t rfl) rfl (by first | (simp [AV.okc, shV]; done) | (intro e he; rw [List.mem_singleton.1 he]; rfl))) Tryd.underlying48 ni48 ty5 rfl rfl (by simp; omega) rfl ?_ | refine W.app 2 (.t rfl) rfl (.arr 3 (.t rfl) rfl (by first | (simp [AV.okc, shV]; done) | (intro e he; rw [List.mem_singleton.1 he]; rfl))) Tryd.underlying48 ni48 ty5 rfl rfl (by simp; omega) rfl ?_ | refine W.app 3 (.t rfl) rfl (.arr 0 (.t rfl) rfl (by first | (simp [AV.okc, shV]; done) | (intro e he; rw [List.mem_singleton.1 he]; rfl))) Tryd.underlying48 ni48 ty5 rfl rfl (by simp; omega) rfl ?_ | refine W.app 3 (.t rfl) rfl (.arr 1 (.t rfl) rfl (by first | (simp [AV.okc, shV]; done) | (intro e he; rw [List.mem_singleton.1 he]; rfl))) Tryd.underlying48 ni48 ty5 rfl rfl (by simp; omega) rfl ?_ | refine W.app 3 (.t rfl) rfl (.arr 2 (.t rfl) rfl (by first | (simp [AV.okc, shV]; done) | (intro e he; rw [List.mem_singleton.1 he]; rfl))) Tryd.underlying48 ni48 ty5 rfl rfl (by simp; omega) rfl ?_ | refine W.app 3 (.t rfl) rfl (.arr 3 (.t rfl) rfl (by first | (simp [AV.okc, shV]; done) | (intro e he; rw [List.mem_singleton.1 he]; rfl))) Tryd.underlying48 ni48 ty5 rfl rfl (by simp; omega) rfl ?_
  intro v14
  refine W.arr_inv 1 rfl (fun a14 n14 c14 h14 => ?_)
  subst h14
  refine W.q (Ev.nilc (.t rfl)) rfl ?_
  first | refine W.q (Ev.fae (.t rfl) fa50_1 rfl) rfl ?_ | refine W.q (Ev.fab (.t rfl) fa50_1) rfl ?_ | refine W.q (Ev.faa (.t rfl) fa50_1) rfl ?_
  first | refine W.stb 0 (.t rfl) (.t rfl) rfl ty48 rfl rfl rfl ?_ | refine W.stb 1 (.t rfl) (.t rfl) rfl ty48 rfl rfl rfl ?_ | refine W.stb 2 (.t rfl) (.t rfl) rfl ty48 rfl rfl rfl ?_ | refine W.stb 3 (.t rfl) (.t rfl) rfl ty48 rfl rfl rfl ?_
  refine W.nil ?_
  refine W.then ?_
  refine W.seq ?_
  refine W.region ?_
  refine W.q (Ev.assign .k) rfl ?_
  refine W.nil ?_
  refine W.then ?_
  refine W.ret ?_
  refine W.retn (M' := [.box b 50 _, .arr _ 5 1 _]) (rs := [.tmp 4]) (avs := [_]) Tryd.results26 ⟨rfl, trivial⟩ rfl (.refl _) ?_
  exact ⟨rfl, _, by rw [List.map_append]; rfl⟩

theorem c_String (b : Nat) (p : Option Addr) (v : Value) (l : List UInt8) (hp : p = none ∨ p = some ⟨b, 0, none⟩) (hl : l.length ≤ 17592186044416) (hv : v = .slice none 0 0 ∨ l ≠ []) : FnC Tryd.prog 27 [.lit (.pointer (some ⟨b, 0, none⟩))] [.box b 50 [.lit (.pointer p), .lit v], .arr v 5 1 (l.map AV.u8)] (fun r M => r = .str l ∧ M = []) :=  by
  refine FnC.mk Tryd.func27 (by kernel_rfl) rfl Tryd.ntmps27 rfl (fun w0 F => ?_)
  have hlm : (l.map AV.u8).length = l.length := List.length_map ..
  have hve : v = .slice none 0 0 ∨ l.map AV.u8 ≠ [] := hv.imp id (fun h h2 => h (List.map_eq_nil_iff.1 h2))
  refine W.seq ?_
  refine W.region ?_
  refine W.q (Ev.assign .k) rfl ?_
  refine W.nil ?_
  refine W.then ?_
  refine W.seq ?_
  refine W.drawnE (ι := Unit) (fun e c => [.box b 50 [.lit (.pointer p), .lit v], .arr (bif e 10 then deadOf v else v) 5 1 (bif e 10 then [] else l.map AV.u8)]) 10 () (by kernel_rfl) (by kernel_rfl) rfl ?_
  refine DE.q (fun e c hk => (Ev.move (.t rfl))) rfl (fun _ _ => rfl) (by first | exact .inr (fun _ _ => rfl) | exact .inl (by kernel_rfl)) ?_
  refine DE.q (fun e c hk => (Ev.nilc (.t rfl))) rfl (fun _ _ => rfl) (by first | exact .inr (fun _ _ => rfl) | exact .inl (by kernel_rfl)) ?_
  first | refine DE.q (fun e c hk => (Ev.fae (.t rfl) fa50_1 rfl)) rfl (fun _ _ => rfl) (by first | exact .inr (fun _ _ => rfl) | exact .inl (by kernel_rfl)) ?_ | refine DE.q (fun e c hk => (Ev.fab (.t rfl) fa50_1)) rfl (fun _ _ => rfl) (by first | exact .inr (fun _ _ => rfl) | exact .inl (by kernel_rfl)) ?_ | refine DE.q (fun e c hk => (Ev.faa (.t rfl) fa50_1)) rfl (fun _ _ => rfl) (by first | exact .inr (fun _ _ => rfl) | exact .inl (by kernel_rfl)) ?_
  first | refine DE.q (fun e c hk => (Ev.lde1 (.t rfl) ag48)) rfl (fun _ _ => rfl) (by first | exact .inr (fun _ _ => rfl) | exact .inl (by kernel_rfl)) ?_ | refine DE.q (fun e c hk => (Ev.ldb1 0 (.t rfl) rfl ag48 rfl)) rfl (fun _ _ => rfl) (by first | exact .inr (fun _ _ => rfl) | exact .inl (by kernel_rfl)) ?_ | refine DE.q (fun e c hk => (Ev.ldb1 1 (.t rfl) rfl ag48 rfl)) rfl (fun _ _ => rfl) (by first | exact .inr (fun _ _ => rfl) | exact .inl (by kernel_rfl)) ?_ | refine DE.q (fun e c hk => (Ev.ldb1 2 (.t rfl) rfl ag48 rfl)) rfl (fun _ _ => rfl) (by first | exact .inr (fun _ _ => rfl) | exact .inl (by kernel_rfl)) ?_ | refine DE.q (fun e c hk => (Ev.ldb1 3 (.t rfl) rfl ag48 rfl)) rfl (fun _ _ => rfl) (by first | exact .inr (fun _ _ => rfl) | exact .inl (by kernel_rfl)) ?_
  refine DE.q (av := fun _ => .lit (dataOf v)) (fun e c hk => by have h := hk.down 10 (by kernel_rfl); simp only [h, cond_false]; exact Ev.usd (i := 1) (.t rfl) rfl hve) rfl (fun _ _ => rfl) (by first | exact .inr (fun _ _ => rfl) | exact .inl (by kernel_rfl)) ?_
  refine DE.q (fun e c hk => (Ev.move (.t rfl))) rfl (fun _ _ => rfl) (by first | exact .inr (fun _ _ => rfl) | exact .inl (by kernel_rfl)) ?_
  refine DE.q (fun e c hk => (Ev.nilc (.t rfl))) rfl (fun _ _ => rfl) (by first | exact .inr (fun _ _ => rfl) | exact .inl (by kernel_rfl)) ?_
  first | refine DE.q (fun e c hk => (Ev.fae (.t rfl) fa50_1 rfl)) rfl (fun _ _ => rfl) (by first | exact .inr (fun _ _ => rfl) | exact .inl (by kernel_rfl)) ?_ | refine DE.q (fun e c hk => (Ev.fab (.t rfl) fa50_1)) rfl (fun _ _ => rfl) (by first | exact .inr (fun _ _ => rfl) | exact .inl (by kernel_rfl)) ?_ | refine DE.q (fun e c hk => (Ev.faa (.t rfl) fa50_1)) rfl (fun _ _ => rfl) (by first | exact .inr (fun _ _ => rfl) | exact .inl (by kernel_rfl)) ?_
  first | refine DE.q (fun e c hk => (Ev.lde1 (.t rfl) ag48)) rfl (fun _ _ => rfl) (by first | exact .inr (fun _ _ => rfl) | exact .inl (by kernel_rfl)) ?_ | refine DE.q (fun e c hk => (Ev.ldb1 0 (.t rfl) rfl ag48 rfl)) rfl (fun _ _ => rfl) (by first | exact .inr (fun _ _ => rfl) | exact .inl (by kernel_rfl)) ?_ | refine DE.q (fun e c hk => (Ev.ldb1 1 (.t rfl) rfl ag48 rfl)) rfl (fun _ _ => rfl) (by first | exact .inr (fun _ _ => rfl) | exact .inl (by kernel_rfl)) ?_ | refine DE.q (fun e c hk => (Ev.ldb1 2 (.t rfl) rfl ag48 rfl)) rfl (fun _ _ => rfl) (by first | exact .inr (fun _ _ => rfl) | exact .inl (by kernel_rfl)) ?_ | refine DE.q (fun e c hk => (Ev.ldb1 3 (.t rfl) rfl ag48 rfl)) rfl (fun _ _ => rfl) (by first | exact .inr (fun _ _ => rfl) | exact .inl (by kernel_rfl)) ?_
  refine DE.q (av := fun _ => .lit (.int .i64 (l.length : Int))) (fun e c hk => by have h := hk.down 10 (by kernel_rfl); simp only [h, cond_false]; rw [← hlm]; exact Ev.lenar (i := 1) (.t rfl) rfl Tryd.underlying48) rfl (fun _ _ => rfl) (by first | exact .inr (fun _ _ => rfl) | exact .inl (by kernel_rfl)) ?_
  refine DE.effc (av := fun _ => .str l) rfl (.inr fun _ _ => rfl) (fun e c hk L_ hs Q h => ?_) ?_
  · have hk_10 := hk.not
    simp only [addE, hk_10, ↓reduceIte, cond_true, cond_false] at h ⊢
    refine W.ustr 1 (.t (hs _ _ rfl)) (.t (hs _ _ rfl)) rfl hv Tryd.underlying86 (by kernel_rfl) (by omega) rfl ?_
    exact h
  refine DE.q (fun e c hk => (Ev.assign (.t rfl))) rfl (fun _ _ => rfl) (by first | exact .inr (fun _ _ => rfl) | exact .inl (by kernel_rfl)) ?_
  refine DE.nil (fun c_ e_ he_ => ?_)
  simp only [he_ 10 (by decide), cond_true, cond_false]
  refine W.then ?_
  refine W.ret ?_
  refine W.retn (M' := []) (D := _) (rs := [.tmp 2]) (avs := [_]) Tryd.results27 ⟨rfl, trivial⟩ rfl (.refl _) ?_
  exact ⟨rfl, rfl⟩

end WBld

end Go.Proofs.YtnkacoidhcokjaaDoor
