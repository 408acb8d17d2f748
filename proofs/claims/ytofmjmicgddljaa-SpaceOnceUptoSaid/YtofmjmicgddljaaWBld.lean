/-
  Package strings' Builder.
-/
import Derived.Test.YtofmjmicgddljaaBld
import Derived.Test.YtofmjmicgddljaaBase
set_option linter.unusedVariables false
set_option linter.unusedSimpArgs false
set_option maxRecDepth 100000
namespace Go.Proofs.Ytofmjmicgddljaa
open Go.Vl

namespace WBld
theorem ty5 : Ty Try.prog 5 1 1 (.int .u8 0) := Ty.of (by kernel_rfl)
theorem ty61 : Ty Try.prog 61 1 24 (.slice none 0 0) := Ty.of (by kernel_rfl)
theorem ty66 : Ty Try.prog 66 1 8 (.pointer none) := Ty.of (by kernel_rfl)
theorem ty68 : Ty Try.prog 68 2 32 (.agg #[.pointer none, .slice none 0 0]) := Ty.of (by kernel_rfl)
theorem ag61 : IsAgg Try.prog 61 false := ⟨_, Try.underlying61, rfl⟩
theorem ag66 : IsAgg Try.prog 66 false := ⟨_, Try.underlying66, rfl⟩
theorem fa68_0 : FieldAt Try.prog 68 0 0 1 false := ⟨_, _, Try.underlying68, rfl, rfl, ty66.size, ag66, by decide⟩
theorem fa68_1 : FieldAt Try.prog 68 1 1 1 false := ⟨_, _, Try.underlying68, rfl, rfl, ty61.size, ag61, by decide⟩
theorem ni61 : NotInt Try.prog 61 := .inl ⟨_, Try.underlying61⟩
theorem c_ccNew (b : Nat) (s : Value) : FnC Try.prog 44 [.lit (.pointer (some ⟨b, 0, none⟩))] [.box b 68 [.lit (.pointer none), .lit s]] (fun r M => r = .tup [] ∧ M = [.box b 68 [.lit (.pointer (some ⟨b, 0, none⟩)), .lit s]]) :=  by
  refine FnC.mk Try.func44 (by kernel_rfl) rfl Try.ntmps44 rfl (fun w0 F => ?_)
  refine W.seq ?_
  refine W.region ?_
  refine W.q (Ev.move (.t rfl)) rfl ?_
  refine W.q (Ev.nilc (.t rfl)) rfl ?_
  first | refine W.q (Ev.fae (.t rfl) fa68_0 rfl) rfl ?_ | refine W.q (Ev.fab (.t rfl) fa68_0) rfl ?_ | refine W.q (Ev.faa (.t rfl) fa68_0) rfl ?_
  first | refine W.q (Ev.lde1 (.t rfl) ag66) rfl ?_ | refine W.q (Ev.ldb1 0 (.t rfl) rfl ag66 rfl) rfl ?_ | refine W.q (Ev.ldb1 1 (.t rfl) rfl ag66 rfl) rfl ?_ | refine W.q (Ev.ldb1 2 (.t rfl) rfl ag66 rfl) rfl ?_ | refine W.q (Ev.ldb1 3 (.t rfl) rfl ag66 rfl) rfl ?_
  refine W.q (Ev.eqpn (.t rfl) Try.underlying66) rfl ?_
  refine W.nil ?_
  refine W.then ?_
  refine W.is (t := 6) (g := true) (av' := .lit (.bool true)) rfl (congrArg (fun b => AV.lit (.bool b)) (by rfl)) ?_
  refine W.condT (.t rfl) ?_
  refine W.region ?_
  refine W.q (Ev.move (.t rfl)) rfl ?_
  refine W.q (Ev.move (.t rfl)) rfl ?_
  first | refine W.q (Ev.touns 0 (.t rfl) rfl Try.underlying66 Try.underlying83 ty68) rfl ?_ | refine W.q (Ev.touns 1 (.t rfl) rfl Try.underlying66 Try.underlying83 ty68) rfl ?_ | refine W.q (Ev.touns 2 (.t rfl) rfl Try.underlying66 Try.underlying83 ty68) rfl ?_ | refine W.q (Ev.touns 3 (.t rfl) rfl Try.underlying66 Try.underlying83 ty68) rfl ?_
  refine W.q (Ev.noesc Try.func47 (by kernel_rfl) (by kernel_rfl) (by kernel_rfl) (by kernel_rfl) (.t rfl)) rfl ?_
  first | refine W.q (Ev.fromuns 0 (.t rfl) rfl Try.underlying83 Try.underlying66 ty68 (by kernel_rfl)) rfl ?_ | refine W.q (Ev.fromuns 1 (.t rfl) rfl Try.underlying83 Try.underlying66 ty68 (by kernel_rfl)) rfl ?_ | refine W.q (Ev.fromuns 2 (.t rfl) rfl Try.underlying83 Try.underlying66 ty68 (by kernel_rfl)) rfl ?_ | refine W.q (Ev.fromuns 3 (.t rfl) rfl Try.underlying83 Try.underlying66 ty68 (by kernel_rfl)) rfl ?_
  refine W.q (Ev.nilc (.t rfl)) rfl ?_
  first | refine W.q (Ev.fae (.t rfl) fa68_0 rfl) rfl ?_ | refine W.q (Ev.fab (.t rfl) fa68_0) rfl ?_ | refine W.q (Ev.faa (.t rfl) fa68_0) rfl ?_
  first | refine W.stb 0 (.t rfl) (.t rfl) rfl ty66 rfl rfl rfl ?_ | refine W.stb 1 (.t rfl) (.t rfl) rfl ty66 rfl rfl rfl ?_ | refine W.stb 2 (.t rfl) (.t rfl) rfl ty66 rfl rfl rfl ?_ | refine W.stb 3 (.t rfl) (.t rfl) rfl ty66 rfl rfl rfl ?_
  refine W.nil ?_
  refine W.endn (M' := [.box b 68 _]) (rs := []) (avs := []) Try.results44 trivial rfl (.refl _) ?_
  exact ⟨rfl, rfl⟩

theorem c_ccUsed (b : Nat) (s : Value) : FnC Try.prog 44 [.lit (.pointer (some ⟨b, 0, none⟩))] [.box b 68 [.lit (.pointer (some ⟨b, 0, none⟩)), .lit s]] (fun r M => r = .tup [] ∧ M = [.box b 68 [.lit (.pointer (some ⟨b, 0, none⟩)), .lit s]]) :=  by
  refine FnC.mk Try.func44 (by kernel_rfl) rfl Try.ntmps44 rfl (fun w0 F => ?_)
  refine W.seq ?_
  refine W.region ?_
  refine W.q (Ev.move (.t rfl)) rfl ?_
  refine W.q (Ev.nilc (.t rfl)) rfl ?_
  first | refine W.q (Ev.fae (.t rfl) fa68_0 rfl) rfl ?_ | refine W.q (Ev.fab (.t rfl) fa68_0) rfl ?_ | refine W.q (Ev.faa (.t rfl) fa68_0) rfl ?_
  first | refine W.q (Ev.lde1 (.t rfl) ag66) rfl ?_ | refine W.q (Ev.ldb1 0 (.t rfl) rfl ag66 rfl) rfl ?_ | refine W.q (Ev.ldb1 1 (.t rfl) rfl ag66 rfl) rfl ?_ | refine W.q (Ev.ldb1 2 (.t rfl) rfl ag66 rfl) rfl ?_ | refine W.q (Ev.ldb1 3 (.t rfl) rfl ag66 rfl) rfl ?_
  refine W.q (Ev.eqpn (.t rfl) Try.underlying66) rfl ?_
  refine W.nil ?_
  refine W.then ?_
  refine W.is (t := 6) (g := true) (av' := .lit (.bool false)) rfl (congrArg (fun b => AV.lit (.bool b)) (by rfl)) ?_
  refine W.condF (.t rfl) ?_
  refine W.seq ?_
  refine W.region ?_
  refine W.q (Ev.move (.t rfl)) rfl ?_
  refine W.q (Ev.nilc (.t rfl)) rfl ?_
  first | refine W.q (Ev.fae (.t rfl) fa68_0 rfl) rfl ?_ | refine W.q (Ev.fab (.t rfl) fa68_0) rfl ?_ | refine W.q (Ev.faa (.t rfl) fa68_0) rfl ?_
  first | refine W.q (Ev.lde1 (.t rfl) ag66) rfl ?_ | refine W.q (Ev.ldb1 0 (.t rfl) rfl ag66 rfl) rfl ?_ | refine W.q (Ev.ldb1 1 (.t rfl) rfl ag66 rfl) rfl ?_ | refine W.q (Ev.ldb1 2 (.t rfl) rfl ag66 rfl) rfl ?_ | refine W.q (Ev.ldb1 3 (.t rfl) rfl ag66 rfl) rfl ?_
  refine W.q (Ev.move (.t rfl)) rfl ?_
  refine W.q (Ev.nep (.t rfl) (.t rfl) Try.underlying66 ty68) rfl ?_
  refine W.nil ?_
  refine W.then ?_
  refine W.condF (.t rfl) ?_
  refine W.skip ?_
  refine W.endn (M' := [.box b 68 _]) (rs := []) (avs := []) Try.results44 trivial rfl (.refl _) ?_
  exact ⟨rfl, rfl⟩

theorem c_copyCheck (b : Nat) (s : Value) (p : Option Addr) (hp : p = none ∨ p = some ⟨b, 0, none⟩) : FnC Try.prog 44 [.lit (.pointer (some ⟨b, 0, none⟩))] [.box b 68 [.lit (.pointer p), .lit s]] (fun r M => r = .tup [] ∧ M = [.box b 68 [.lit (.pointer (some ⟨b, 0, none⟩)), .lit s]]) := by
  rcases hp with rfl | rfl
  · exact c_ccNew b s
  · exact c_ccUsed b s

theorem c_WriteByte (b : Nat) (p : Option Addr) (v : Value) (l : List UInt8) (hp : p = none ∨ p = some ⟨b, 0, none⟩) (hl : l.length ≤ 17592186044416) (y : UInt8) : FnC Try.prog 37 [.lit (.pointer (some ⟨b, 0, none⟩)), AV.u8 y] [.box b 68 [.lit (.pointer p), .lit v], .arr v 5 1 (l.map AV.u8)] (fun r M => r = .lit .nilIface ∧ ∃ v', M = [.box b 68 [.lit (.pointer (some ⟨b, 0, none⟩)), .lit v'], .arr v' 5 1 ((l ++ [y]).map AV.u8)]) :=  by
  refine FnC.mk Try.func37 (by kernel_rfl) rfl Try.ntmps37 rfl (fun w0 F => ?_)
  have hlm : (l.map AV.u8).length = l.length := List.length_map ..
  refine W.seq ?_
  refine W.region ?_
  refine W.q (Ev.assign .k) rfl ?_
  refine W.nil ?_
  refine W.then ?_
  refine W.seq ?_
  refine W.region ?_
  refine W.q (Ev.move (.t rfl)) rfl ?_
  refine W.call (c_copyCheck b v p hp) ⟨(.t rfl), trivial⟩ (.refl _) rfl ?_
  rintro _ _ ⟨rfl, rfl⟩
  refine W.nil ?_
  refine W.then ?_
  refine W.seq ?_
  refine W.region ?_
  refine W.q (Ev.move (.t rfl)) rfl ?_
  refine W.q (Ev.move (.t rfl)) rfl ?_
  refine W.q (Ev.nilc (.t rfl)) rfl ?_
  first | refine W.q (Ev.fae (.t rfl) fa68_1 rfl) rfl ?_ | refine W.q (Ev.fab (.t rfl) fa68_1) rfl ?_ | refine W.q (Ev.faa (.t rfl) fa68_1) rfl ?_
  first | refine W.q (Ev.lde1 (.t rfl) ag61) rfl ?_ | refine W.q (Ev.ldb1 0 (.t rfl) rfl ag61 rfl) rfl ?_ | refine W.q (Ev.ldb1 1 (.t rfl) rfl ag61 rfl) rfl ?_ | refine W.q (Ev.ldb1 2 (.t rfl) rfl ag61 rfl) rfl ?_ | refine W.q (Ev.ldb1 3 (.t rfl) rfl ag61 rfl) rfl ?_
  refine W.q (Ev.move (.t rfl)) rfl ?_
  refine W.bs (es := [_]) Try.underlying61 ty5 ⟨rfl, (.t rfl), rfl, rfl, trivial⟩ rfl (by decide) rfl rfl ?_
  first | refine W.app 0 (.t rfl) rfl (.sl (.t rfl) (by simp [AV.okc, shV])) Try.underlying61 ni61 ty5 rfl rfl (by simp; omega) rfl ?_ | refine W.app 1 (.t rfl) rfl (.sl (.t rfl) (by simp [AV.okc, shV])) Try.underlying61 ni61 ty5 rfl rfl (by simp; omega) rfl ?_ | refine W.app 2 (.t rfl) rfl (.sl (.t rfl) (by simp [AV.okc, shV])) Try.underlying61 ni61 ty5 rfl rfl (by simp; omega) rfl ?_ | refine W.app 3 (.t rfl) rfl (.sl (.t rfl) (by simp [AV.okc, shV])) Try.underlying61 ni61 ty5 rfl rfl (by simp; omega) rfl ?_ | refine W.app 0 (.t rfl) rfl (.arr 0 (.t rfl) rfl (by simp [AV.okc, shV])) Try.underlying61 ni61 ty5 rfl rfl (by simp; omega) rfl ?_ | refine W.app 0 (.t rfl) rfl (.arr 1 (.t rfl) rfl (by simp [AV.okc, shV])) Try.underlying61 ni61 ty5 rfl rfl (by simp; omega) rfl ?_ | refine W.app 0 (.t rfl) rfl (.arr 2 (.t rfl) rfl (by simp [AV.okc, shV])) Try.underlying61 ni61 ty5 rfl rfl (by simp; omega) rfl ?_ | refine W.app 0 (.t rfl) rfl (.arr 3 (.t rfl) rfl (by simp [AV.okc, shV])) Try.underlying61 ni61 ty5 rfl rfl (by simp; omega) rfl ?_ | refine W.app 1 (.t rfl) rfl (.arr 0 (.t rfl) rfl (by simp [AV.okc, shV])) Try.underlying61 ni61 ty5 rfl rfl (by simp; omega) rfl ?_ | refine W.app 1 (.t rfl) rfl (.arr 1 (.t rfl) rfl (by simp [AV.okc, shV])) Try.underlying61 ni61 ty5 rfl rfl (by simp; omega) rfl ?_ | refine W.app 1 (.t rfl) rfl (.arr 2 (.t rfl) rfl (by simp [AV.okc, shV])) Try.underlying61 ni61 ty5 rfl rfl (by simp; omega) rfl ?_ | refine W.app 1 (.t rfl) rfl (.arr 3 (.t rfl) rfl (by simp [AV.okc, shV])) Try.underlying61 ni61 ty5 rfl rfl (by simp; omega) rfl ?_ | refine W.app 2 (.t rfl) rfl (.arr 0 (.t rfl) rfl (by simp [AV.okc, shV])) Try.underlying61 ni61 ty5 rfl rfl (by simp; omega) rfl ?_ | refine W.app 2 (.t rfl) rfl (.arr 1 (.t rfl) rfl (by simp [AV.okc, shV])) Try.underlying61 ni61 ty5 rfl rfl (by simp; omega) rfl ?_ | refine W.app 2 (.t rfl) rfl (.arr 2 (.t rfl) rfl (by simp [AV.okc, shV])) Try.underlying61 ni61 ty5 rfl rfl (by simp; omega) rfl ?_ | refine W.app 2 (.t rfl) rfl (.arr 3 (.t rfl) rfl (by simp [AV.okc, shV])) Try.underlying61 ni61 ty5 rfl rfl (by simp; omega) rfl ?_ | refine W.app 3 (.t rfl) rfl (.arr 0 (.t rfl) rfl (by simp [AV.okc, shV])) Try.underlying61 ni61 ty5 rfl rfl (by simp; omega) rfl ?_ | refine W.app 3 (.t rfl) rfl (.arr 1 (.t rfl) rfl (by simp [AV.okc, shV])) Try.underlying61 ni61 ty5 rfl rfl (by simp; omega) rfl ?_ | refine W.app 3 (.t rfl) rfl (.arr 2 (.t rfl) rfl (by simp [AV.okc, shV])) Try.underlying61 ni61 ty5 rfl rfl (by simp; omega) rfl ?_ | refine W.app 3 (.t rfl) rfl (.arr 3 (.t rfl) rfl (by simp [AV.okc, shV])) Try.underlying61 ni61 ty5 rfl rfl (by simp; omega) rfl ?_
  intro v14
  refine W.arr_inv 1 rfl (fun a14 n14 c14 h14 => ?_)
  subst h14
  refine W.q (Ev.nilc (.t rfl)) rfl ?_
  first | refine W.q (Ev.fae (.t rfl) fa68_1 rfl) rfl ?_ | refine W.q (Ev.fab (.t rfl) fa68_1) rfl ?_ | refine W.q (Ev.faa (.t rfl) fa68_1) rfl ?_
  first | refine W.stb 0 (.t rfl) (.t rfl) rfl ty61 rfl rfl rfl ?_ | refine W.stb 1 (.t rfl) (.t rfl) rfl ty61 rfl rfl rfl ?_ | refine W.stb 2 (.t rfl) (.t rfl) rfl ty61 rfl rfl rfl ?_ | refine W.stb 3 (.t rfl) (.t rfl) rfl ty61 rfl rfl rfl ?_
  refine W.nil ?_
  refine W.then ?_
  refine W.seq ?_
  refine W.region ?_
  refine W.q (Ev.assign .k) rfl ?_
  refine W.nil ?_
  refine W.then ?_
  refine W.ret ?_
  refine W.retn (M' := [.box b 68 _, .arr _ 5 1 _]) (rs := [.tmp 4]) (avs := [_]) Try.results37 ⟨rfl, trivial⟩ rfl (.refl _) ?_
  exact ⟨rfl, _, by rw [List.map_append]; rfl⟩

theorem c_String (b : Nat) (p : Option Addr) (v : Value) (l : List UInt8) (hp : p = none ∨ p = some ⟨b, 0, none⟩) (hl : l.length ≤ 17592186044416) (hv : v = .slice none 0 0 ∨ l ≠ []) : FnC Try.prog 38 [.lit (.pointer (some ⟨b, 0, none⟩))] [.box b 68 [.lit (.pointer p), .lit v], .arr v 5 1 (l.map AV.u8)] (fun r M => r = .str l ∧ M = []) :=  by
  refine FnC.mk Try.func38 (by kernel_rfl) rfl Try.ntmps38 rfl (fun w0 F => ?_)
  have hlm : (l.map AV.u8).length = l.length := List.length_map ..
  have hve : v = .slice none 0 0 ∨ l.map AV.u8 ≠ [] := hv.imp id (fun h h2 => h (List.map_eq_nil_iff.1 h2))
  refine W.seq ?_
  refine W.region ?_
  refine W.q (Ev.assign .k) rfl ?_
  refine W.nil ?_
  refine W.then ?_
  refine W.seq ?_
  refine W.drawnE (ι := Unit) (fun e c => [.box b 68 [.lit (.pointer p), .lit v], .arr (bif e 10 then deadOf v else v) 5 1 (bif e 10 then [] else l.map AV.u8)]) 10 () (by kernel_rfl) (by kernel_rfl) rfl ?_
  refine DE.q (fun e c hk => (Ev.move (.t rfl))) rfl (fun _ _ => rfl) (by first | exact .inr (fun _ _ => rfl) | exact .inl (by kernel_rfl)) ?_
  refine DE.q (fun e c hk => (Ev.nilc (.t rfl))) rfl (fun _ _ => rfl) (by first | exact .inr (fun _ _ => rfl) | exact .inl (by kernel_rfl)) ?_
  first | refine DE.q (fun e c hk => (Ev.fae (.t rfl) fa68_1 rfl)) rfl (fun _ _ => rfl) (by first | exact .inr (fun _ _ => rfl) | exact .inl (by kernel_rfl)) ?_ | refine DE.q (fun e c hk => (Ev.fab (.t rfl) fa68_1)) rfl (fun _ _ => rfl) (by first | exact .inr (fun _ _ => rfl) | exact .inl (by kernel_rfl)) ?_ | refine DE.q (fun e c hk => (Ev.faa (.t rfl) fa68_1)) rfl (fun _ _ => rfl) (by first | exact .inr (fun _ _ => rfl) | exact .inl (by kernel_rfl)) ?_
  first | refine DE.q (fun e c hk => (Ev.lde1 (.t rfl) ag61)) rfl (fun _ _ => rfl) (by first | exact .inr (fun _ _ => rfl) | exact .inl (by kernel_rfl)) ?_ | refine DE.q (fun e c hk => (Ev.ldb1 0 (.t rfl) rfl ag61 rfl)) rfl (fun _ _ => rfl) (by first | exact .inr (fun _ _ => rfl) | exact .inl (by kernel_rfl)) ?_ | refine DE.q (fun e c hk => (Ev.ldb1 1 (.t rfl) rfl ag61 rfl)) rfl (fun _ _ => rfl) (by first | exact .inr (fun _ _ => rfl) | exact .inl (by kernel_rfl)) ?_ | refine DE.q (fun e c hk => (Ev.ldb1 2 (.t rfl) rfl ag61 rfl)) rfl (fun _ _ => rfl) (by first | exact .inr (fun _ _ => rfl) | exact .inl (by kernel_rfl)) ?_ | refine DE.q (fun e c hk => (Ev.ldb1 3 (.t rfl) rfl ag61 rfl)) rfl (fun _ _ => rfl) (by first | exact .inr (fun _ _ => rfl) | exact .inl (by kernel_rfl)) ?_
  refine DE.q (av := fun _ => .lit (dataOf v)) (fun e c hk => by have h := hk.down 10 (by kernel_rfl); simp only [h, cond_false]; exact Ev.usd (i := 1) (.t rfl) rfl hve) rfl (fun _ _ => rfl) (by first | exact .inr (fun _ _ => rfl) | exact .inl (by kernel_rfl)) ?_
  refine DE.q (fun e c hk => (Ev.move (.t rfl))) rfl (fun _ _ => rfl) (by first | exact .inr (fun _ _ => rfl) | exact .inl (by kernel_rfl)) ?_
  refine DE.q (fun e c hk => (Ev.nilc (.t rfl))) rfl (fun _ _ => rfl) (by first | exact .inr (fun _ _ => rfl) | exact .inl (by kernel_rfl)) ?_
  first | refine DE.q (fun e c hk => (Ev.fae (.t rfl) fa68_1 rfl)) rfl (fun _ _ => rfl) (by first | exact .inr (fun _ _ => rfl) | exact .inl (by kernel_rfl)) ?_ | refine DE.q (fun e c hk => (Ev.fab (.t rfl) fa68_1)) rfl (fun _ _ => rfl) (by first | exact .inr (fun _ _ => rfl) | exact .inl (by kernel_rfl)) ?_ | refine DE.q (fun e c hk => (Ev.faa (.t rfl) fa68_1)) rfl (fun _ _ => rfl) (by first | exact .inr (fun _ _ => rfl) | exact .inl (by kernel_rfl)) ?_
  first | refine DE.q (fun e c hk => (Ev.lde1 (.t rfl) ag61)) rfl (fun _ _ => rfl) (by first | exact .inr (fun _ _ => rfl) | exact .inl (by kernel_rfl)) ?_ | refine DE.q (fun e c hk => (Ev.ldb1 0 (.t rfl) rfl ag61 rfl)) rfl (fun _ _ => rfl) (by first | exact .inr (fun _ _ => rfl) | exact .inl (by kernel_rfl)) ?_ | refine DE.q (fun e c hk => (Ev.ldb1 1 (.t rfl) rfl ag61 rfl)) rfl (fun _ _ => rfl) (by first | exact .inr (fun _ _ => rfl) | exact .inl (by kernel_rfl)) ?_ | refine DE.q (fun e c hk => (Ev.ldb1 2 (.t rfl) rfl ag61 rfl)) rfl (fun _ _ => rfl) (by first | exact .inr (fun _ _ => rfl) | exact .inl (by kernel_rfl)) ?_ | refine DE.q (fun e c hk => (Ev.ldb1 3 (.t rfl) rfl ag61 rfl)) rfl (fun _ _ => rfl) (by first | exact .inr (fun _ _ => rfl) | exact .inl (by kernel_rfl)) ?_
  refine DE.q (av := fun _ => .lit (.int .i64 (l.length : Int))) (fun e c hk => by have h := hk.down 10 (by kernel_rfl); simp only [h, cond_false]; rw [← hlm]; exact Ev.lenar (i := 1) (.t rfl) rfl Try.underlying61) rfl (fun _ _ => rfl) (by first | exact .inr (fun _ _ => rfl) | exact .inl (by kernel_rfl)) ?_
  refine DE.effc (av := fun _ => .str l) rfl (.inr fun _ _ => rfl) (fun e c hk L_ hs Q h => ?_) ?_
  · have hk_10 := hk.not
    simp only [addE, hk_10, ↓reduceIte, cond_true, cond_false] at h ⊢
    refine W.ustr 1 (.t (hs _ _ rfl)) (.t (hs _ _ rfl)) rfl hv Try.underlying80 (by kernel_rfl) (by omega) rfl ?_
    exact h
  refine DE.q (fun e c hk => (Ev.assign (.t rfl))) rfl (fun _ _ => rfl) (by first | exact .inr (fun _ _ => rfl) | exact .inl (by kernel_rfl)) ?_
  refine DE.nil (fun c_ e_ he_ => ?_)
  simp only [he_ 10 (by decide), cond_true, cond_false]
  refine W.then ?_
  refine W.ret ?_
  refine W.retn (M' := []) (D := _) (rs := [.tmp 2]) (avs := [_]) Try.results38 ⟨rfl, trivial⟩ rfl (.refl _) ?_
  exact ⟨rfl, rfl⟩

end WBld

end Go.Proofs.Ytofmjmicgddljaa
