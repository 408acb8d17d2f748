/-
  The Builder.
-/
import Derived.Test.YteepllfbnoaiaaaBld
import Derived.Test.YteepllfbnoaiaaaBase
set_option linter.unusedVariables false
set_option linter.unusedSimpArgs false
set_option maxRecDepth 100000
namespace Go.Proofs.Yteepllfbnoaiaaa
open Go.Vl

namespace WBld
theorem ty5 : Ty Try.prog 5 1 1 (.int .u8 0) := Ty.of (by kernel_rfl)
theorem ty86 : Ty Try.prog 86 1 8 (.pointer none) := Ty.of (by kernel_rfl)
theorem ty87 : Ty Try.prog 87 1 24 (.slice none 0 0) := Ty.of (by kernel_rfl)
theorem ty89 : Ty Try.prog 89 2 32 (.agg #[.pointer none, .slice none 0 0]) := Ty.of (by kernel_rfl)
theorem ag86 : IsAgg Try.prog 86 false := ⟨_, Try.underlying86, rfl⟩
theorem ag87 : IsAgg Try.prog 87 false := ⟨_, Try.underlying87, rfl⟩
theorem fa89_0 : FieldAt Try.prog 89 0 0 1 false := ⟨_, _, Try.underlying89, rfl, rfl, ty86.size, ag86, by decide⟩
theorem fa89_1 : FieldAt Try.prog 89 1 1 1 false := ⟨_, _, Try.underlying89, rfl, rfl, ty87.size, ag87, by decide⟩
theorem ni87 : NotInt Try.prog 87 := .inl ⟨_, Try.underlying87⟩
theorem c_ccNew (b : Nat) (s : Value) : FnC Try.prog 62 [.lit (.pointer (some ⟨b, 0, none⟩))] [.box b 89 [.lit (.pointer none), .lit s]] (fun r M => r = .tup [] ∧ M = [.box b 89 [.lit (.pointer (some ⟨b, 0, none⟩)), .lit s]]) :=  by
  refine FnC.mk Try.func62 (by kernel_rfl) rfl Try.ntmps62 rfl (fun w0 F => ?_)
  refine W.seq ?_
  refine W.region ?_
  refine W.q (Ev.move (.t rfl)) rfl ?_
  refine W.q (Ev.nilc (.t rfl)) rfl ?_
  first | refine W.q (Ev.fae (.t rfl) fa89_0 rfl) rfl ?_ | refine W.q (Ev.fab (.t rfl) fa89_0) rfl ?_ | refine W.q (Ev.faa (.t rfl) fa89_0) rfl ?_
  first | refine W.q (Ev.lde1 (.t rfl) ag86) rfl ?_ | refine W.q (Ev.ldb1 0 (.t rfl) rfl ag86 rfl) rfl ?_ | refine W.q (Ev.ldb1 1 (.t rfl) rfl ag86 rfl) rfl ?_ | refine W.q (Ev.ldb1 2 (.t rfl) rfl ag86 rfl) rfl ?_ | refine W.q (Ev.ldb1 3 (.t rfl) rfl ag86 rfl) rfl ?_
  refine W.q (Ev.eqpn (.t rfl) Try.underlying86) rfl ?_
  refine W.nil ?_
  refine W.then ?_
  refine W.is (t := 6) (g := true) (av' := .lit (.bool true)) rfl (congrArg (fun b => AV.lit (.bool b)) (by rfl)) ?_
  refine W.condT (.t rfl) ?_
  refine W.region ?_
  refine W.q (Ev.move (.t rfl)) rfl ?_
  refine W.q (Ev.move (.t rfl)) rfl ?_
  first | refine W.q (Ev.touns 0 (.t rfl) rfl Try.underlying86 Try.underlying131 ty89) rfl ?_ | refine W.q (Ev.touns 1 (.t rfl) rfl Try.underlying86 Try.underlying131 ty89) rfl ?_ | refine W.q (Ev.touns 2 (.t rfl) rfl Try.underlying86 Try.underlying131 ty89) rfl ?_ | refine W.q (Ev.touns 3 (.t rfl) rfl Try.underlying86 Try.underlying131 ty89) rfl ?_
  refine W.q (Ev.noesc Try.func86 (by kernel_rfl) (by kernel_rfl) (by kernel_rfl) (by kernel_rfl) (.t rfl)) rfl ?_
  first | refine W.q (Ev.fromuns 0 (.t rfl) rfl Try.underlying131 Try.underlying86 ty89 (by kernel_rfl)) rfl ?_ | refine W.q (Ev.fromuns 1 (.t rfl) rfl Try.underlying131 Try.underlying86 ty89 (by kernel_rfl)) rfl ?_ | refine W.q (Ev.fromuns 2 (.t rfl) rfl Try.underlying131 Try.underlying86 ty89 (by kernel_rfl)) rfl ?_ | refine W.q (Ev.fromuns 3 (.t rfl) rfl Try.underlying131 Try.underlying86 ty89 (by kernel_rfl)) rfl ?_
  refine W.q (Ev.nilc (.t rfl)) rfl ?_
  first | refine W.q (Ev.fae (.t rfl) fa89_0 rfl) rfl ?_ | refine W.q (Ev.fab (.t rfl) fa89_0) rfl ?_ | refine W.q (Ev.faa (.t rfl) fa89_0) rfl ?_
  first | refine W.stb 0 (.t rfl) (.t rfl) rfl ty86 rfl rfl rfl ?_ | refine W.stb 1 (.t rfl) (.t rfl) rfl ty86 rfl rfl rfl ?_ | refine W.stb 2 (.t rfl) (.t rfl) rfl ty86 rfl rfl rfl ?_ | refine W.stb 3 (.t rfl) (.t rfl) rfl ty86 rfl rfl rfl ?_
  refine W.nil ?_
  refine W.endn (M' := [.box b 89 _]) (rs := []) (avs := []) Try.results62 trivial rfl (.refl _) ?_
  exact ⟨rfl, rfl⟩

theorem c_ccUsed (b : Nat) (s : Value) : FnC Try.prog 62 [.lit (.pointer (some ⟨b, 0, none⟩))] [.box b 89 [.lit (.pointer (some ⟨b, 0, none⟩)), .lit s]] (fun r M => r = .tup [] ∧ M = [.box b 89 [.lit (.pointer (some ⟨b, 0, none⟩)), .lit s]]) :=  by
  refine FnC.mk Try.func62 (by kernel_rfl) rfl Try.ntmps62 rfl (fun w0 F => ?_)
  refine W.seq ?_
  refine W.region ?_
  refine W.q (Ev.move (.t rfl)) rfl ?_
  refine W.q (Ev.nilc (.t rfl)) rfl ?_
  first | refine W.q (Ev.fae (.t rfl) fa89_0 rfl) rfl ?_ | refine W.q (Ev.fab (.t rfl) fa89_0) rfl ?_ | refine W.q (Ev.faa (.t rfl) fa89_0) rfl ?_
  first | refine W.q (Ev.lde1 (.t rfl) ag86) rfl ?_ | refine W.q (Ev.ldb1 0 (.t rfl) rfl ag86 rfl) rfl ?_ | refine W.q (Ev.ldb1 1 (.t rfl) rfl ag86 rfl) rfl ?_ | refine W.q (Ev.ldb1 2 (.t rfl) rfl ag86 rfl) rfl ?_ | refine W.q (Ev.ldb1 3 (.t rfl) rfl ag86 rfl) rfl ?_
  refine W.q (Ev.eqpn (.t rfl) Try.underlying86) rfl ?_
  refine W.nil ?_
  refine W.then ?_
  refine W.is (t := 6) (g := true) (av' := .lit (.bool false)) rfl (congrArg (fun b => AV.lit (.bool b)) (by rfl)) ?_
  refine W.condF (.t rfl) ?_
  refine W.seq ?_
  refine W.region ?_
  refine W.q (Ev.move (.t rfl)) rfl ?_
  refine W.q (Ev.nilc (.t rfl)) rfl ?_
  first | refine W.q (Ev.fae (.t rfl) fa89_0 rfl) rfl ?_ | refine W.q (Ev.fab (.t rfl) fa89_0) rfl ?_ | refine W.q (Ev.faa (.t rfl) fa89_0) rfl ?_
  first | refine W.q (Ev.lde1 (.t rfl) ag86) rfl ?_ | refine W.q (Ev.ldb1 0 (.t rfl) rfl ag86 rfl) rfl ?_ | refine W.q (Ev.ldb1 1 (.t rfl) rfl ag86 rfl) rfl ?_ | refine W.q (Ev.ldb1 2 (.t rfl) rfl ag86 rfl) rfl ?_ | refine W.q (Ev.ldb1 3 (.t rfl) rfl ag86 rfl) rfl ?_
  refine W.q (Ev.move (.t rfl)) rfl ?_
  refine W.q (Ev.nep (.t rfl) (.t rfl) Try.underlying86 ty89) rfl ?_
  refine W.nil ?_
  refine W.then ?_
  refine W.condF (.t rfl) ?_
  refine W.skip ?_
  refine W.endn (M' := [.box b 89 _]) (rs := []) (avs := []) Try.results62 trivial rfl (.refl _) ?_
  exact ⟨rfl, rfl⟩

theorem c_copyCheck (b : Nat) (s : Value) (p : Option Addr) (hp : p = none ∨ p = some ⟨b, 0, none⟩) : FnC Try.prog 62 [.lit (.pointer (some ⟨b, 0, none⟩))] [.box b 89 [.lit (.pointer p), .lit s]] (fun r M => r = .tup [] ∧ M = [.box b 89 [.lit (.pointer (some ⟨b, 0, none⟩)), .lit s]]) := by
  rcases hp with rfl | rfl
  · exact c_ccNew b s
  · exact c_ccUsed b s

theorem c_WriteByte (b : Nat) (p : Option Addr) (v : Value) (l : List UInt8) (hp : p = none ∨ p = some ⟨b, 0, none⟩) (hl : l.length ≤ 17592186044416) (y : UInt8) : FnC Try.prog 63 [.lit (.pointer (some ⟨b, 0, none⟩)), AV.u8 y] [.box b 89 [.lit (.pointer p), .lit v], .arr v 5 1 (l.map AV.u8)] (fun r M => r = .lit .nilIface ∧ ∃ v', M = [.box b 89 [.lit (.pointer (some ⟨b, 0, none⟩)), .lit v'], .arr v' 5 1 ((l ++ [y]).map AV.u8)]) :=  by
  refine FnC.mk Try.func63 (by kernel_rfl) rfl Try.ntmps63 rfl (fun w0 F => ?_)
  have hlm : (l.map AV.u8).length = l.length := List.length_map ..
  refine W.seq ?_
  refine W.region ?_
  refine W.q (Ev.assign .k) rfl ?_
  refine W.nil ?_
  refine W.then ?_
  refine W.seq ?_
  refine W.region ?_
  refine W.q (Ev.move (.t rfl)) rfl ?_
  refine W.call (c_copyCheck b v p hp) ⟨(.t rfl), trivial⟩ (.refl _) rfl ?_
  rintro _ _ ⟨rfl, rfl⟩
  refine W.nil ?_
  refine W.then ?_
  refine W.seq ?_
  refine W.region ?_
  refine W.q (Ev.move (.t rfl)) rfl ?_
  refine W.q (Ev.move (.t rfl)) rfl ?_
  refine W.q (Ev.nilc (.t rfl)) rfl ?_
  first | refine W.q (Ev.fae (.t rfl) fa89_1 rfl) rfl ?_ | refine W.q (Ev.fab (.t rfl) fa89_1) rfl ?_ | refine W.q (Ev.faa (.t rfl) fa89_1) rfl ?_
  first | refine W.q (Ev.lde1 (.t rfl) ag87) rfl ?_ | refine W.q (Ev.ldb1 0 (.t rfl) rfl ag87 rfl) rfl ?_ | refine W.q (Ev.ldb1 1 (.t rfl) rfl ag87 rfl) rfl ?_ | refine W.q (Ev.ldb1 2 (.t rfl) rfl ag87 rfl) rfl ?_ | refine W.q (Ev.ldb1 3 (.t rfl) rfl ag87 rfl) rfl ?_
  refine W.q (Ev.move (.t rfl)) rfl ?_
  refine W.bs (es := [_]) Try.underlying87 ty5 ⟨rfl, (.t rfl), rfl, rfl, trivial⟩ rfl (by decide) rfl rfl ?_
  first | refine W.app 0 (.t rfl) rfl (.sl (.t rfl) (by first | (simp [AV.okc, shV]; done) | (intro e he; rw [List.mem_singleton.1 he]; rfl))) Try.underlying87 ni87 ty5 rfl rfl (by simp; omega) rfl ?_ | refine W.app 1 (.t rfl) rfl (.sl (.t rfl) (by first | (simp [AV.okc, shV]; done) | (intro e he; rw [List.mem_singleton.1 he]; rfl))) Try.underlying87 ni87 ty5 rfl rfl (by simp; omega) rfl ?_ | refine W.app 2 (.t rfl) rfl (.sl (.t rfl) (by first | (simp [AV.okc, shV]; done) | (intro e he; rw [List.mem_singleton.1 he]; rfl))) Try.underlying87 ni87 ty5 rfl rfl (by simp; omega) rfl ?_ | refine W.app 3 (.t rfl) rfl (.sl (.t rfl) (by first | (simp [AV.okc, shV]; done) | (intro e he; rw [List.mem_singleton.1 he]; rfl))) Try.underlying87 ni87 ty5 rfl rfl (by simp; omega) rfl ?_ | refine W.app 0 (.t rfl) rfl (.arr 0 (.t rfl) rfl (by first | (simp [AV.okc, shV]; done) | (intro e he; rw [List.mem_singleton.1 he]; rfl))) Try.underlying87 ni87 ty5 rfl rfl (by simp; omega) rfl ?_ | refine W.app 0 (.t rfl) rfl (.arr 1 (.t rfl) rfl (by first | (simp [AV.okc, shV]; done) | (intro e he; rw [List.mem_singleton.1 he]; rfl))) Try.underlying87 ni87 ty5 rfl rfl (by simp; omega) rfl ?_ | refine W.app 0 (.t rfl) rfl (.arr 2 (.t rfl) rfl (by first | (simp [AV.okc, shV]; done) | (intro e he; rw [List.mem_singleton.1 he]; rfl))) Try.underlying87 ni87 ty5 rfl rfl (by simp; omega) rfl ?_ | refine W.app 0 (.t rfl) rfl (.arr 3 (.t rfl) rfl (by first | (simp [AV.okc, shV]; done) | (intro e he; rw [List.mem_singleton.1 he]; rfl))) Try.underlying87 ni87 ty5 rfl rfl (by simp; omega) rfl ?_ | refine W.app 1 (.t rfl) rfl (.arr 0 (.t rfl) rfl (by first | (simp [AV.okc, shV]; done) | (intro e he; rw [List.mem_singleton.1 he]; rfl))) Try.underlying87 ni87 ty5 rfl rfl (by simp; omega) rfl ?_ | refine W.app 1 (.t rfl) rfl (.arr 1 (.t rfl) rfl (by first | (simp [AV.okc, shV]; done) | (intro e he; rw [List.mem_singleton.1 he]; rfl))) Try.underlying87 ni87 ty5 rfl rfl (by simp; omega) rfl ?_ | refine W.app 1 (.t rfl) rfl (.arr 2 (.t rfl) rfl (by first | (simp [AV.okc, shV]; done) | (intro e he; rw [List.mem_singleton.1 he]; rfl))) Try.underlying87 ni87 ty5 rfl rfl (by simp; omega) rfl ?_ | refine W.app 1 (.t rfl) rfl (.arr 3 (.t rfl) rfl (by first | (simp [AV.okc, shV]; done) | (intro e he; rw [List.mem_singleton.1 he]; rfl))) Try.underlying87 ni87 ty5 rfl rfl (by simp; omega) rfl ?_ | refine W.app 2 (.t rfl) rfl (.arr 0 (.t rfl) rfl (by first | (simp [AV.okc, shV]; done) | (intro e he; rw [List.mem_singleton.1 he]; rfl))) Try.underlying87 ni87 ty5 rfl rfl (by simp; omega) rfl ?_ | refine W.app 2 (.t rfl) rfl (.arr 1 (.t rfl) rfl (by first | (simp [AV.okc, shV]; done) | (intro e he; rw [List.mem_singleton.1 he]; rfl))) Try.underlying87 ni87 ty5 rfl rfl (by simp; omega) rfl ?_ | refine W.app 2 (.t rfl) rfl (.arr 2 (.t rfl) rfl (by first | (simp [AV.okc, shV]; done) | (intro e he; rw [List.mem_singleton.1 he]; rfl))) Try.underlying87 ni87 ty5 rfl rfl (by simp; omega) rfl ?_ | refine W.app 2 (.t rfl) rfl (.arr 3 (.t rfl) rfl (by first | (simp [AV.okc, shV]; done) | (intro e he; rw [List.mem_singleton.1 he]; rfl))) Try.underlying87 ni87 ty5 rfl rfl (by simp; omega) rfl ?_ | refine W.app 3 (.t rfl) rfl (.arr 0 (.t rfl) rfl (by first | (simp [AV.okc, shV]; done) | (intro e he; rw [List.mem_singleton.1 he]; rfl))) Try.underlying87 ni87 ty5 rfl rfl (by simp; omega) rfl ?_ | refine W.app 3 (.t rfl) rfl (.arr 1 (.t rfl) rfl (by first | (simp [AV.okc, shV]; done) | (intro e he; rw [List.mem_singleton.1 he]; rfl))) Try.underlying87 ni87 ty5 rfl rfl (by simp; omega) rfl ?_ | refine W.app 3 (.t rfl) rfl (.arr 2 (.t rfl) rfl (by first | (simp [AV.okc, shV]; done) | (intro e he; rw [List.mem_singleton.1 he]; rfl))) Try.underlying87 ni87 ty5 rfl rfl (by simp; omega) rfl ?_ | refine W.app 3 (.t rfl) rfl (.arr 3 (.t rfl) rfl (by first | (simp [AV.okc, shV]; done) | (intro e he; rw [List.mem_singleton.1 he]; rfl))) Try.underlying87 ni87 ty5 rfl rfl (by simp; omega) rfl ?_
  intro v14
  refine W.arr_inv 1 rfl (fun a14 n14 c14 h14 => ?_)
  subst h14
  refine W.q (Ev.nilc (.t rfl)) rfl ?_
  first | refine W.q (Ev.fae (.t rfl) fa89_1 rfl) rfl ?_ | refine W.q (Ev.fab (.t rfl) fa89_1) rfl ?_ | refine W.q (Ev.faa (.t rfl) fa89_1) rfl ?_
  first | refine W.stb 0 (.t rfl) (.t rfl) rfl ty87 rfl rfl rfl ?_ | refine W.stb 1 (.t rfl) (.t rfl) rfl ty87 rfl rfl rfl ?_ | refine W.stb 2 (.t rfl) (.t rfl) rfl ty87 rfl rfl rfl ?_ | refine W.stb 3 (.t rfl) (.t rfl) rfl ty87 rfl rfl rfl ?_
  refine W.nil ?_
  refine W.then ?_
  refine W.seq ?_
  refine W.region ?_
  refine W.q (Ev.assign .k) rfl ?_
  refine W.nil ?_
  refine W.then ?_
  refine W.ret ?_
  refine W.retn (M' := [.box b 89 _, .arr _ 5 1 _]) (rs := [.tmp 4]) (avs := [_]) Try.results63 ⟨rfl, trivial⟩ rfl (.refl _) ?_
  exact ⟨rfl, _, by rw [List.map_append]; rfl⟩

theorem c_String (b : Nat) (p : Option Addr) (v : Value) (l : List UInt8) (hp : p = none ∨ p = some ⟨b, 0, none⟩) (hl : l.length ≤ 17592186044416) (hv : v = .slice none 0 0 ∨ l ≠ []) : FnC Try.prog 48 [.lit (.pointer (some ⟨b, 0, none⟩))] [.box b 89 [.lit (.pointer p), .lit v], .arr v 5 1 (l.map AV.u8)] (fun r M => r = .str l ∧ M = []) :=  by
  refine FnC.mk Try.func48 (by kernel_rfl) rfl Try.ntmps48 rfl (fun w0 F => ?_)
  have hlm : (l.map AV.u8).length = l.length := List.length_map ..
  have hve : v = .slice none 0 0 ∨ l.map AV.u8 ≠ [] := hv.imp id (fun h h2 => h (List.map_eq_nil_iff.1 h2))
  refine W.seq ?_
  refine W.region ?_
  refine W.q (Ev.assign .k) rfl ?_
  refine W.nil ?_
  refine W.then ?_
  refine W.seq ?_
  refine W.drawnE (ι := Unit) (fun e c => [.box b 89 [.lit (.pointer p), .lit v], .arr (bif e 10 then deadOf v else v) 5 1 (bif e 10 then [] else l.map AV.u8)]) 10 () (by kernel_rfl) (by kernel_rfl) rfl ?_
  refine DE.q (fun e c hk => (Ev.move (.t rfl))) rfl (fun _ _ => rfl) (by first | exact .inr (fun _ _ => rfl) | exact .inl (by kernel_rfl)) ?_
  refine DE.q (fun e c hk => (Ev.nilc (.t rfl))) rfl (fun _ _ => rfl) (by first | exact .inr (fun _ _ => rfl) | exact .inl (by kernel_rfl)) ?_
  first | refine DE.q (fun e c hk => (Ev.fae (.t rfl) fa89_1 rfl)) rfl (fun _ _ => rfl) (by first | exact .inr (fun _ _ => rfl) | exact .inl (by kernel_rfl)) ?_ | refine DE.q (fun e c hk => (Ev.fab (.t rfl) fa89_1)) rfl (fun _ _ => rfl) (by first | exact .inr (fun _ _ => rfl) | exact .inl (by kernel_rfl)) ?_ | refine DE.q (fun e c hk => (Ev.faa (.t rfl) fa89_1)) rfl (fun _ _ => rfl) (by first | exact .inr (fun _ _ => rfl) | exact .inl (by kernel_rfl)) ?_
  first | refine DE.q (fun e c hk => (Ev.lde1 (.t rfl) ag87)) rfl (fun _ _ => rfl) (by first | exact .inr (fun _ _ => rfl) | exact .inl (by kernel_rfl)) ?_ | refine DE.q (fun e c hk => (Ev.ldb1 0 (.t rfl) rfl ag87 rfl)) rfl (fun _ _ => rfl) (by first | exact .inr (fun _ _ => rfl) | exact .inl (by kernel_rfl)) ?_ | refine DE.q (fun e c hk => (Ev.ldb1 1 (.t rfl) rfl ag87 rfl)) rfl (fun _ _ => rfl) (by first | exact .inr (fun _ _ => rfl) | exact .inl (by kernel_rfl)) ?_ | refine DE.q (fun e c hk => (Ev.ldb1 2 (.t rfl) rfl ag87 rfl)) rfl (fun _ _ => rfl) (by first | exact .inr (fun _ _ => rfl) | exact .inl (by kernel_rfl)) ?_ | refine DE.q (fun e c hk => (Ev.ldb1 3 (.t rfl) rfl ag87 rfl)) rfl (fun _ _ => rfl) (by first | exact .inr (fun _ _ => rfl) | exact .inl (by kernel_rfl)) ?_
  refine DE.q (av := fun _ => .lit (dataOf v)) (fun e c hk => by have h := hk.down 10 (by kernel_rfl); simp only [h, cond_false]; exact Ev.usd (i := 1) (.t rfl) rfl hve) rfl (fun _ _ => rfl) (by first | exact .inr (fun _ _ => rfl) | exact .inl (by kernel_rfl)) ?_
  refine DE.q (fun e c hk => (Ev.move (.t rfl))) rfl (fun _ _ => rfl) (by first | exact .inr (fun _ _ => rfl) | exact .inl (by kernel_rfl)) ?_
  refine DE.q (fun e c hk => (Ev.nilc (.t rfl))) rfl (fun _ _ => rfl) (by first | exact .inr (fun _ _ => rfl) | exact .inl (by kernel_rfl)) ?_
  first | refine DE.q (fun e c hk => (Ev.fae (.t rfl) fa89_1 rfl)) rfl (fun _ _ => rfl) (by first | exact .inr (fun _ _ => rfl) | exact .inl (by kernel_rfl)) ?_ | refine DE.q (fun e c hk => (Ev.fab (.t rfl) fa89_1)) rfl (fun _ _ => rfl) (by first | exact .inr (fun _ _ => rfl) | exact .inl (by kernel_rfl)) ?_ | refine DE.q (fun e c hk => (Ev.faa (.t rfl) fa89_1)) rfl (fun _ _ => rfl) (by first | exact .inr (fun _ _ => rfl) | exact .inl (by kernel_rfl)) ?_
  first | refine DE.q (fun e c hk => (Ev.lde1 (.t rfl) ag87)) rfl (fun _ _ => rfl) (by first | exact .inr (fun _ _ => rfl) | exact .inl (by kernel_rfl)) ?_ | refine DE.q (fun e c hk => (Ev.ldb1 0 (.t rfl) rfl ag87 rfl)) rfl (fun _ _ => rfl) (by first | exact .inr (fun _ _ => rfl) | exact .inl (by kernel_rfl)) ?_ | refine DE.q (fun e c hk => (Ev.ldb1 1 (.t rfl) rfl ag87 rfl)) rfl (fun _ _ => rfl) (by first | exact .inr (fun _ _ => rfl) | exact .inl (by kernel_rfl)) ?_ | refine DE.q (fun e c hk => (Ev.ldb1 2 (.t rfl) rfl ag87 rfl)) rfl (fun _ _ => rfl) (by first | exact .inr (fun _ _ => rfl) | exact .inl (by kernel_rfl)) ?_ | refine DE.q (fun e c hk => (Ev.ldb1 3 (.t rfl) rfl ag87 rfl)) rfl (fun _ _ => rfl) (by first | exact .inr (fun _ _ => rfl) | exact .inl (by kernel_rfl)) ?_
  refine DE.q (av := fun _ => .lit (.int .i64 (l.length : Int))) (fun e c hk => by have h := hk.down 10 (by kernel_rfl); simp only [h, cond_false]; rw [← hlm]; exact Ev.lenar (i := 1) (.t rfl) rfl Try.underlying87) rfl (fun _ _ => rfl) (by first | exact .inr (fun _ _ => rfl) | exact .inl (by kernel_rfl)) ?_
  refine DE.effc (av := fun _ => .str l) rfl (.inr fun _ _ => rfl) (fun e c hk L_ hs Q h => ?_) ?_
  · have hk_10 := hk.not
    simp only [addE, hk_10, ↓reduceIte, cond_true, cond_false] at h ⊢
    refine W.ustr 1 (.t (hs _ _ rfl)) (.t (hs _ _ rfl)) rfl hv Try.underlying115 (by kernel_rfl) (by omega) rfl ?_
    exact h
  refine DE.q (fun e c hk => (Ev.assign (.t rfl))) rfl (fun _ _ => rfl) (by first | exact .inr (fun _ _ => rfl) | exact .inl (by kernel_rfl)) ?_
  refine DE.nil (fun c_ e_ he_ => ?_)
  simp only [he_ 10 (by decide), cond_true, cond_false]
  refine W.then ?_
  refine W.ret ?_
  refine W.retn (M' := []) (D := _) (rs := [.tmp 2]) (avs := [_]) Try.results48 ⟨rfl, trivial⟩ rfl (.refl _) ?_
  exact ⟨rfl, rfl⟩

end WBld

end Go.Proofs.Yteepllfbnoaiaaa
