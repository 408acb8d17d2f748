/-
  Merged: WBld WStr WKey WFmt WState WHas Pick WLink.
-/
import Derived.Test.YtacaemfkdieocaaGreatDoorG8

section
set_option linter.unusedVariables false
set_option linter.unusedSimpArgs false
set_option maxRecDepth 100000
namespace Go.Proofs.YtacaemfkdieocaaGreatDoor
open Go.Vl

namespace WBld
theorem ty118 : Ty Tryz.prog 118 1 8 (.pointer none) := Ty.of (by kernel_rfl)
theorem ty119 : Ty Tryz.prog 119 1 24 (.slice none 0 0) := Ty.of (by kernel_rfl)
theorem ty121 : Ty Tryz.prog 121 2 32 (.agg #[.pointer none, .slice none 0 0]) := Ty.of (by kernel_rfl)
theorem ag118 : IsAgg Tryz.prog 118 false := ⟨_, Tryz.underlying118, rfl⟩
theorem ag119 : IsAgg Tryz.prog 119 false := ⟨_, Tryz.underlying119, rfl⟩
theorem fa121_0 : FieldAt Tryz.prog 121 0 0 1 false := ⟨_, _, Tryz.underlying121, rfl, rfl, ty118.size, ag118, by decide⟩
theorem fa121_1 : FieldAt Tryz.prog 121 1 1 1 false := ⟨_, _, Tryz.underlying121, rfl, rfl, ty119.size, ag119, by decide⟩
theorem c_ccNew (b : Nat) (s : Value) : FnC Tryz.prog 80 [.lit (.pointer (some ⟨b, 0, none⟩))] [.box b 121 [.lit (.pointer none), .lit s]] (fun r M => r = .tup [] ∧ M = [.box b 121 [.lit (.pointer (some ⟨b, 0, none⟩)), .lit s]]) :=  by
  refine FnC.mk Tryz.func80 (by kernel_rfl) rfl Tryz.ntmps80 rfl (fun w0 F => ?_)
  refine W.seq ?_
  refine W.region ?_
  refine W.q (Ev.move (.t rfl)) rfl ?_
  refine W.q (Ev.nilc (.t rfl)) rfl ?_
  (refine W.q (Ev.fab (.t rfl) fa121_0) rfl ?_)
  (refine W.q (Ev.ldb1 0 (.t rfl) rfl ag118 rfl) rfl ?_)
  refine W.q (Ev.eqpn (.t rfl) Tryz.underlying118) rfl ?_
  refine W.nil ?_
  refine W.then ?_
  refine W.is (t := 6) (g := true) (av' := .lit (.bool true)) rfl (congrArg (fun b => AV.lit (.bool b)) (by rfl)) ?_
  refine W.condT (.t rfl) ?_
  refine W.region ?_
  refine W.q (Ev.move (.t rfl)) rfl ?_
  refine W.q (Ev.move (.t rfl)) rfl ?_
  (refine W.q (Ev.touns 0 (.t rfl) rfl Tryz.underlying118 Tryz.underlying153 ty121) rfl ?_)
  refine W.q (Ev.noesc Tryz.func96 (by kernel_rfl) (by kernel_rfl) (by kernel_rfl) (by kernel_rfl) (.t rfl)) rfl ?_
  (refine W.q (Ev.fromuns 0 (.t rfl) rfl Tryz.underlying153 Tryz.underlying118 ty121 (by kernel_rfl)) rfl ?_)
  refine W.q (Ev.nilc (.t rfl)) rfl ?_
  (refine W.q (Ev.fab (.t rfl) fa121_0) rfl ?_)
  (refine W.stb 0 (.t rfl) (.t rfl) rfl ty118 rfl rfl rfl ?_)
  refine W.nil ?_
  refine W.endn (M' := [.box b 121 _]) (rs := []) (avs := []) Tryz.results80 trivial rfl (.refl _) ?_
  exact ⟨rfl, rfl⟩

theorem c_ccUsed (b : Nat) (s : Value) : FnC Tryz.prog 80 [.lit (.pointer (some ⟨b, 0, none⟩))] [.box b 121 [.lit (.pointer (some ⟨b, 0, none⟩)), .lit s]] (fun r M => r = .tup [] ∧ M = [.box b 121 [.lit (.pointer (some ⟨b, 0, none⟩)), .lit s]]) :=  by
  refine FnC.mk Tryz.func80 (by kernel_rfl) rfl Tryz.ntmps80 rfl (fun w0 F => ?_)
  refine W.seq ?_
  refine W.region ?_
  refine W.q (Ev.move (.t rfl)) rfl ?_
  refine W.q (Ev.nilc (.t rfl)) rfl ?_
  (refine W.q (Ev.fab (.t rfl) fa121_0) rfl ?_)
  (refine W.q (Ev.ldb1 0 (.t rfl) rfl ag118 rfl) rfl ?_)
  refine W.q (Ev.eqpn (.t rfl) Tryz.underlying118) rfl ?_
  refine W.nil ?_
  refine W.then ?_
  refine W.is (t := 6) (g := true) (av' := .lit (.bool false)) rfl (congrArg (fun b => AV.lit (.bool b)) (by rfl)) ?_
  refine W.condF (.t rfl) ?_
  refine W.seq ?_
  refine W.region ?_
  refine W.q (Ev.move (.t rfl)) rfl ?_
  refine W.q (Ev.nilc (.t rfl)) rfl ?_
  (refine W.q (Ev.fab (.t rfl) fa121_0) rfl ?_)
  (refine W.q (Ev.ldb1 0 (.t rfl) rfl ag118 rfl) rfl ?_)
  refine W.q (Ev.move (.t rfl)) rfl ?_
  refine W.q (Ev.nep (.t rfl) (.t rfl) Tryz.underlying118 ty121) rfl ?_
  refine W.nil ?_
  refine W.then ?_
  refine W.condF (.t rfl) ?_
  refine W.skip ?_
  refine W.endn (M' := [.box b 121 _]) (rs := []) (avs := []) Tryz.results80 trivial rfl (.refl _) ?_
  exact ⟨rfl, rfl⟩

theorem c_copyCheck (b : Nat) (s : Value) (p : Option Addr) (hp : p = none ∨ p = some ⟨b, 0, none⟩) : FnC Tryz.prog 80 [.lit (.pointer (some ⟨b, 0, none⟩))] [.box b 121 [.lit (.pointer p), .lit s]] (fun r M => r = .tup [] ∧ M = [.box b 121 [.lit (.pointer (some ⟨b, 0, none⟩)), .lit s]]) := by
  rcases hp with rfl | rfl
  · exact c_ccNew b s
  · exact c_ccUsed b s

theorem c_String (b : Nat) (p : Option Addr) (v : Value) (l : List UInt8) (hp : p = none ∨ p = some ⟨b, 0, none⟩) (hl : l.length ≤ 17592186044416) (hv : v = .slice none 0 0 ∨ l ≠ []) : FnC Tryz.prog 69 [.lit (.pointer (some ⟨b, 0, none⟩))] [.box b 121 [.lit (.pointer p), .lit v], .arr v 5 1 (l.map AV.u8)] (fun r M => r = .str l ∧ M = []) :=  by
  refine FnC.mk Tryz.func69 (by kernel_rfl) rfl Tryz.ntmps69 rfl (fun w0 F => ?_)
  have hlm : (l.map AV.u8).length = l.length := List.length_map ..
  have hve : v = .slice none 0 0 ∨ l.map AV.u8 ≠ [] := hv.imp id (fun h h2 => h (List.map_eq_nil_iff.1 h2))
  refine W.seq ?_
  refine W.region ?_
  refine W.q (Ev.assign .k) rfl ?_
  refine W.nil ?_
  refine W.then ?_
  refine W.seq ?_
  refine W.drawnE (ι := Unit) (fun e c => [.box b 121 [.lit (.pointer p), .lit v], .arr (bif e 10 then deadOf v else v) 5 1 (bif e 10 then [] else l.map AV.u8)]) 10 () (by kernel_rfl) (by kernel_rfl) rfl ?_
  refine DE.q (fun e c hk => (Ev.move (.t rfl))) rfl (fun _ _ => rfl) (by (exact .inr (fun _ _ => rfl))) ?_
  refine DE.q (fun e c hk => (Ev.nilc (.t rfl))) rfl (fun _ _ => rfl) (by (exact .inr (fun _ _ => rfl))) ?_
  (refine DE.q (fun e c hk => (Ev.fab (.t rfl) fa121_1)) rfl (fun _ _ => rfl) (by (exact .inr (fun _ _ => rfl))) ?_)
  (refine DE.q (fun e c hk => (Ev.ldb1 0 (.t rfl) rfl ag119 rfl)) rfl (fun _ _ => rfl) (by (exact .inr (fun _ _ => rfl))) ?_)
  refine DE.q (av := fun _ => .lit (dataOf v)) (fun e c hk => by have h := hk.down 10 (by kernel_rfl); simp only [h, cond_false]; exact Ev.usd (i := 1) (.t rfl) rfl hve) rfl (fun _ _ => rfl) (by (exact .inr (fun _ _ => rfl))) ?_
  refine DE.q (fun e c hk => (Ev.move (.t rfl))) rfl (fun _ _ => rfl) (by (exact .inr (fun _ _ => rfl))) ?_
  refine DE.q (fun e c hk => (Ev.nilc (.t rfl))) rfl (fun _ _ => rfl) (by (exact .inr (fun _ _ => rfl))) ?_
  (refine DE.q (fun e c hk => (Ev.fab (.t rfl) fa121_1)) rfl (fun _ _ => rfl) (by (exact .inr (fun _ _ => rfl))) ?_)
  (refine DE.q (fun e c hk => (Ev.ldb1 0 (.t rfl) rfl ag119 rfl)) rfl (fun _ _ => rfl) (by (exact .inr (fun _ _ => rfl))) ?_)
  refine DE.q (av := fun _ => .lit (.int .i64 (l.length : Int))) (fun e c hk => by have h := hk.down 10 (by kernel_rfl); simp only [h, cond_false]; rw [← hlm]; exact Ev.lenar (i := 1) (.t rfl) rfl Tryz.underlying119) rfl (fun _ _ => rfl) (by (exact .inr (fun _ _ => rfl))) ?_
  refine DE.effc (av := fun _ => .str l) rfl (.inr fun _ _ => rfl) (fun e c hk L_ hs Q h => ?_) ?_
  · have hk_10 := hk.not
    simp only [addE, hk_10, ↓reduceIte, cond_true, cond_false] at h ⊢
    refine W.ustr 1 (.t (hs _ _ rfl)) (.t (hs _ _ rfl)) rfl hv Tryz.underlying140 (by kernel_rfl) (by omega) rfl ?_
    exact h
  refine DE.q (fun e c hk => (Ev.assign (.t rfl))) rfl (fun _ _ => rfl) (by (exact .inr (fun _ _ => rfl))) ?_
  refine DE.nil (fun c_ e_ he_ => ?_)
  simp only [he_ 10 (by decide), cond_true, cond_false]
  refine W.then ?_
  refine W.ret ?_
  refine W.retn (M' := []) (D := _) (rs := [.tmp 2]) (avs := [_]) Tryz.results69 ⟨rfl, trivial⟩ rfl (.refl _) ?_
  exact ⟨rfl, rfl⟩

end WBld

end Go.Proofs.YtacaemfkdieocaaGreatDoor
end

section
set_option linter.unusedVariables false
set_option linter.unusedSimpArgs false
set_option maxRecDepth 100000
namespace Go.Proofs.YtacaemfkdieocaaGreatDoor
open Go.Vl

namespace WStr
theorem ty5 : Ty Tryz.prog 5 1 1 (.int .u8 0) := Ty.of (by kernel_rfl)
theorem ty119 : Ty Tryz.prog 119 1 24 (.slice none 0 0) := Ty.of (by kernel_rfl)
theorem ag119 : IsAgg Tryz.prog 119 false := ⟨_, Tryz.underlying119, rfl⟩
theorem fa121_1 : FieldAt Tryz.prog 121 1 1 1 false := ⟨_, _, Tryz.underlying121, rfl, rfl, ty119.size, ag119, by decide⟩
theorem ni9 : NotInt Tryz.prog 9 := .inr Tryz.underlying9
theorem c_WriteString (b : Nat) (p : Option Addr) (v : Value) (l : List UInt8) (hp : p = none ∨ p = some ⟨b, 0, none⟩) (s : List UInt8) (hl : l.length + s.length ≤ 17592186044416) : FnC Tryz.prog 67 [.lit (.pointer (some ⟨b, 0, none⟩)), .str s] [.box b 121 [.lit (.pointer p), .lit v], .arr v 5 1 (l.map AV.u8)] (fun r M => r = .tup [.int (s.length : Int), .lit .nilIface] ∧ ∃ v', M = [.box b 121 [.lit (.pointer (some ⟨b, 0, none⟩)), .lit v'], .arr v' 5 1 ((l ++ s).map AV.u8)]) :=  by
  refine FnC.mk Tryz.func67 (by kernel_rfl) rfl Tryz.ntmps67 rfl (fun w0 F => ?_)
  have hlm : (l.map AV.u8).length = l.length := List.length_map ..
  have hsm : (s.map AV.u8).length = s.length := List.length_map ..
  refine W.seq ?_
  refine W.region ?_
  refine W.q (Ev.assign .k) rfl ?_
  refine W.q (Ev.assign .k) rfl ?_
  refine W.nil ?_
  refine W.then ?_
  refine W.seq ?_
  refine W.region ?_
  refine W.q (Ev.move (.t rfl)) rfl ?_
  refine W.call (WBld.c_copyCheck b v p hp) ⟨(.t rfl), trivial⟩ (.refl _) rfl ?_
  rintro _ _ ⟨rfl, rfl⟩
  refine W.nil ?_
  refine W.then ?_
  refine W.seq ?_
  refine W.region ?_
  refine W.q (Ev.move (.t rfl)) rfl ?_
  refine W.q (Ev.move (.t rfl)) rfl ?_
  refine W.q (Ev.nilc (.t rfl)) rfl ?_
  (refine W.q (Ev.fab (.t rfl) fa121_1) rfl ?_)
  (refine W.q (Ev.ldb1 0 (.t rfl) rfl ag119 rfl) rfl ?_)
  refine W.q (Ev.move (.t rfl)) rfl ?_
  (refine W.app 1 (.t rfl) rfl (.str (.t rfl)) Tryz.underlying119 ni9 ty5 rfl rfl (by rw [hlm, hsm]; omega) rfl ?_)
  intro v14
  refine W.arr_inv 1 rfl (fun a14 n14 c14 h14 => ?_)
  subst h14
  refine W.q (Ev.nilc (.t rfl)) rfl ?_
  (refine W.q (Ev.fab (.t rfl) fa121_1) rfl ?_)
  (refine W.stb 0 (.t rfl) (.t rfl) rfl ty119 rfl rfl rfl ?_)
  refine W.nil ?_
  refine W.then ?_
  refine W.seq ?_
  refine W.region ?_
  refine W.q (Ev.move (.t rfl)) rfl ?_
  refine W.q (Ev.lens (.t rfl) Tryz.underlying9) rfl ?_
  refine W.q (Ev.assign (.t rfl)) rfl ?_
  refine W.q (Ev.assign .k) rfl ?_
  refine W.nil ?_
  refine W.then ?_
  refine W.ret ?_
  refine W.retn (M' := [.box b 121 _, .arr _ 5 1 _]) (rs := [.tmp 4, .tmp 5]) (avs := [_, _]) Tryz.results67 ⟨rfl, rfl, trivial⟩ rfl (.refl _) ?_
  exact ⟨rfl, _, by rw [List.map_append]; rfl⟩

end WStr

end Go.Proofs.YtacaemfkdieocaaGreatDoor
end

section
set_option linter.unusedVariables false
set_option linter.unusedSimpArgs false
set_option maxRecDepth 100000
namespace Go.Proofs.YtacaemfkdieocaaGreatDoor
open Go.Vl

namespace WKey
theorem ty3 : Ty Tryz.prog 3 1 8 (.int .i64 0) := Ty.of (by kernel_rfl)
theorem ty121 : Ty Tryz.prog 121 2 32 (.agg #[.pointer none, .slice none 0 0]) := Ty.of (by kernel_rfl)
theorem ag3 : IsAgg Tryz.prog 3 false := ⟨_, Tryz.underlying3, rfl⟩
theorem c_key (l : List Int) (hl : l.length ≤ 100000) (M0 : List ME) (hI : ∀ n ∈ l, FnC Tryz.prog 68 [.int n] M0 (fun r M => r = .str (itoa n) ∧ M = M0)) : FnC Tryz.prog 48 [.sl 1 (l.map AV.int)] M0 (fun r M => r = .str (keyL l) ∧ M = M0) :=  by
  refine FnC.mk Tryz.func48 (by kernel_rfl) rfl Tryz.ntmps48 rfl (fun w0 F => ?_)
  have hnl : (l.map AV.int).length = l.length := List.length_map ..
  refine W.seq ?_
  refine W.region ?_
  refine W.q (Ev.assign .k) rfl ?_
  refine W.nil ?_
  refine W.then ?_
  refine W.seq ?_
  refine W.region ?_
  refine W.alloc ty121 rfl rfl ?_
  intro b3
  refine W.nil ?_
  refine W.then ?_
  refine W.seq ?_
  refine W.seq ?_
  refine W.region ?_
  refine W.q (Ev.move (.t rfl)) rfl ?_
  (refine W.q (Ev.lensl (.t rfl) Tryz.underlying22) rfl ?_)
  refine W.q (Ev.move .k) rfl ?_
  refine W.nil ?_
  refine W.then ?_
  refine W.block ?_
  refine W.own_nil 5 1 ?_
  refine W.loop (D := []) (ι := Nat × Value × Option Addr) (fun z => [(8, true, .int (z.1 : Int)), (7, true, .int ((l.map AV.int).length : Int)), (6, true, .sl 1 (l.map AV.int)), (3, true, .lit (.pointer (some ⟨b3, 0, none⟩)))]) (fun z => .box b3 121 [.lit (.pointer z.2.2), .lit z.2.1] :: .arr z.2.1 5 1 ((keyL (l.take z.1)).map AV.u8) :: M0) (fun z => z.1 ≤ l.length ∧ (z.2.2 = none ∨ z.2.2 = some ⟨b3, 0, none⟩) ∧ (z.2.1 = .slice none 0 0 ∨ keyL (l.take z.1) ≠ [])) (fun z => l.length - z.1) (0, .slice none 0 0, none) ⟨rfl, rfl, rfl, rfl, trivial⟩ (by rw [List.append_nil]; exact List.Perm.swap _ _ _) ⟨Nat.zero_le _, .inl rfl, .inl rfl⟩ ?_
  rintro ⟨i, v, p⟩ ⟨hi, hp, hv⟩
  dsimp only at hi hp hv ⊢
  rcases (show i < l.length ∨ i = l.length from by omega) with hlt | hend
  · have hga := getD_map l i hlt
    have hm := getD_memG 0 l i hlt
    have hsn := keyL_snoc l i hlt
    generalize l.getD i 0 = nn at hga hm hsn
    refine W.seq ?_
    refine W.region ?_
    refine W.q (Ev.lti (.t rfl) (.t rfl)) rfl ?_
    refine W.nil ?_
    refine W.then ?_
    refine W.seq ?_
    refine W.is (t := 9) (g := true) (av' := .lit (.bool true)) rfl (congrArg (fun b => AV.lit (.bool b)) (by exact decide_eq_true (by omega))) ?_
    refine W.condT (.t rfl) ?_
    refine W.skip ?_
    refine W.then ?_
    refine W.seq ?_
    refine W.block ?_
    refine W.seq ?_
    refine W.region ?_
    refine W.q (Ev.at (E := 3) (.t rfl) (.t rfl) Tryz.underlying22 ty3 (fun _ => ⟨by omega, hga⟩) rfl rfl) rfl ?_
    (refine W.q (Ev.lde1 (.t rfl) ag3) rfl ?_)
    refine W.q (Ev.assign (.t rfl)) rfl ?_
    refine W.nil ?_
    refine W.then ?_
    refine W.region ?_
    refine W.q (Ev.move (.t rfl)) rfl ?_
    refine W.call (hI _ hm) ⟨(.t rfl), trivial⟩ (List.perm_append_comm (l₁ := [_, _])) rfl ?_
    rintro _ _ ⟨rfl, rfl⟩
    refine W.q (Ev.cat (.t rfl) .k (fun _ => by have h2 := itoa_len nn; simp only [List.length_cons, List.length_nil]; omega)) rfl ?_
    refine W.call (WStr.c_WriteString b3 p v (keyL (l.take i)) hp (itoa nn ++ [32]) (by have h1 := keyL_len (l.take i); have h2 := itoa_len nn; rw [List.length_take] at h1; rw [List.length_append]; simp only [List.length_cons, List.length_nil]; omega)) ⟨(.t rfl), (.t rfl), trivial⟩ (List.perm_append_comm (l₂ := [_, _])) rfl ?_
    rintro _ _ ⟨rfl, v', rfl⟩
    refine W.nil ?_
    refine W.blk_normal ?_
    refine W.then ?_
    refine W.region ?_
    (refine W.q (Ev.add (.t rfl) .k (fun _ => by omega)) rfl ?_)
    refine W.q (Ev.move (.t rfl)) rfl ?_
    refine W.nil ?_
    refine W.then ?_
    refine W.reach (D := []) (i + 1, v', some ⟨b3, 0, none⟩) ⟨rfl, rfl, rfl, rfl, trivial⟩ (by rw [List.append_nil]; dsimp only; rw [hsn]; exact .refl _) ⟨⟨hlt, .inr rfl, .inr ?_⟩, by show l.length - (i + 1) < l.length - i; omega⟩
    dsimp only
    rw [hsn]
    intro h
    have := congrArg List.length h
    simp only [List.length_append, List.length_cons, List.length_nil] at this
    omega
  · subst hend
    rw [List.take_length] at hv ⊢
    refine W.seq ?_
    refine W.region ?_
    refine W.q (Ev.lti (.t rfl) (.t rfl)) rfl ?_
    refine W.nil ?_
    refine W.then ?_
    refine W.seq ?_
    refine W.is (t := 9) (g := true) (av' := .lit (.bool false)) rfl (congrArg (fun b => AV.lit (.bool b)) (by exact decide_eq_false (by omega))) ?_
    refine W.condF (.t rfl) ?_
    refine W.exit ?_
    refine W.then_exit ?_
    refine W.then_exit ?_
    refine W.blk_hit ?_
    refine W.then ?_
    refine W.seq ?_
    refine W.region ?_
    refine W.call (WBld.c_String b3 p v (keyL l) hp (by have := keyL_len l; omega) hv) ⟨(.t rfl), trivial⟩ (.refl _) rfl ?_
    rintro _ _ ⟨rfl, rfl⟩
    refine W.q (Ev.assign (.t rfl)) rfl ?_
    refine W.nil ?_
    refine W.then ?_
    refine W.ret ?_
    refine W.retn (M' := M0) (D := []) (rs := [.tmp 2]) (avs := [_]) Tryz.results48 ⟨rfl, trivial⟩ rfl (by ((rw [List.append_nil]; exact .refl _))) ?_
    exact ⟨rfl, rfl⟩

end WKey

end Go.Proofs.YtacaemfkdieocaaGreatDoor
end

section
set_option linter.unusedVariables false
set_option linter.unusedSimpArgs false
set_option maxRecDepth 100000
namespace Go.Proofs.YtacaemfkdieocaaGreatDoor
open Go.Vl

namespace WFmt

theorem c_FormatBool0 (b : Bool) : FnP Tryz.prog 70 [.bool b] (.str (fmtB b)) :=  by
  refine FnC.mk Tryz.func70 (by kernel_rfl) rfl Tryz.ntmps70 rfl (fun w0 F => ?_)
  refine W.seq ?_
  refine W.region ?_
  refine W.q (Ev.assign .k) rfl ?_
  refine W.nil ?_
  refine W.then ?_
  refine W.seq ?_
  refine W.seq ?_
  refine W.region ?_
  refine W.q (Ev.move (.t rfl)) rfl ?_
  refine W.nil ?_
  refine W.then ?_
  refine W.cond (.t rfl) (fun hc_t3 => ?_) (fun hc_t3 => ?_)
  · subst hc_t3
    refine W.seq ?_
    refine W.region ?_
    refine W.q (Ev.assign .k) rfl ?_
    refine W.nil ?_
    refine W.then ?_
    refine W.ret ?_
    refine W.then_ret ?_
    refine W.retn (M' := []) (rs := [.tmp 2]) (avs := [_]) Tryz.results70 ⟨rfl, trivial⟩ rfl (.refl _) ?_
    exact ⟨rfl, rfl⟩
  · subst hc_t3
    refine W.skip ?_
    refine W.then ?_
    refine W.seq ?_
    refine W.region ?_
    refine W.q (Ev.assign .k) rfl ?_
    refine W.nil ?_
    refine W.then ?_
    refine W.ret ?_
    refine W.retn (M' := []) (rs := [.tmp 2]) (avs := [_]) Tryz.results70 ⟨rfl, trivial⟩ rfl (.refl _) ?_
    exact ⟨rfl, rfl⟩

theorem c_FormatBool (b : Bool) : FnP Tryz.prog 49 [.bool b] (.str (fmtB b)) :=  by
  refine FnC.mk Tryz.func49 (by kernel_rfl) rfl Tryz.ntmps49 rfl (fun w0 F => ?_)
  refine W.seq ?_
  refine W.region ?_
  refine W.q (Ev.assign .k) rfl ?_
  refine W.nil ?_
  refine W.then ?_
  refine W.seq ?_
  refine W.region ?_
  refine W.q (Ev.move (.t rfl)) rfl ?_
  refine W.callp (c_FormatBool0 b) ⟨(.t rfl), trivial⟩ rfl ?_
  refine W.q (Ev.assign (.t rfl)) rfl ?_
  refine W.nil ?_
  refine W.then ?_
  refine W.ret ?_
  refine W.retn (M' := []) (rs := [.tmp 2]) (avs := [_]) Tryz.results49 ⟨rfl, trivial⟩ rfl (.refl _) ?_
  exact ⟨rfl, rfl⟩

end WFmt

end Go.Proofs.YtacaemfkdieocaaGreatDoor
end

section
set_option linter.unusedVariables false
set_option linter.unusedSimpArgs false
set_option maxRecDepth 100000
namespace Go.Proofs.YtacaemfkdieocaaGreatDoor
open Go.Vl

namespace WState
theorem ty3 : Ty Tryz.prog 3 1 8 (.int .i64 0) := Ty.of (by kernel_rfl)
theorem ty4 : Ty Tryz.prog 4 1 1 (.bool false) := Ty.of (by kernel_rfl)
theorem ty22 : Ty Tryz.prog 22 1 24 (.slice none 0 0) := Ty.of (by kernel_rfl)
theorem ty25 : Ty Tryz.prog 25 1 24 (.slice none 0 0) := Ty.of (by kernel_rfl)
theorem ty26 : Ty Tryz.prog 26 1 24 (.slice none 0 0) := Ty.of (by kernel_rfl)
theorem ag25 : IsAgg Tryz.prog 25 false := ⟨_, Tryz.underlying25, rfl⟩
theorem ag26 : IsAgg Tryz.prog 26 false := ⟨_, Tryz.underlying26, rfl⟩
theorem ag93 : IsAgg Tryz.prog 93 false := ⟨_, Tryz.underlying93, rfl⟩
theorem fa61_1 : FieldAt Tryz.prog 61 1 1 1 false := ⟨_, _, Tryz.underlying61, rfl, rfl, ty26.size, ag26, by decide⟩
theorem ni25 : NotInt Tryz.prog 25 := .inl ⟨_, Tryz.underlying25⟩
theorem ni26 : NotInt Tryz.prog 26 := .inl ⟨_, Tryz.underlying26⟩
theorem c_state (v : Value) (l : List Int) (f : Bool) (b10 bm b9 b8 : Nat) (vS vN vF : Value) (SL : List Ss) (hl : l.length ≤ 100000) (hl0 : ∀ x ∈ l, 0 ≤ x ∧ x < 100) (hSL : ∀ s ∈ SL, sml s.1) (hSn : SL.length ≤ 100000) : FnC Tryz.prog 44 [.lit v, .bool f, .lit (.pointer (some ⟨b10, 0, none⟩)), .lit (.pointer (some ⟨b9, 0, none⟩)), .lit (.pointer (some ⟨b8, 0, none⟩))] (.arr v 3 1 (l.map AV.int) :: .box b10 93 [.lit (.map (some bm))] :: .obj bm (mObj ((SL.map keyS).map fun s : List UInt8 => Value.string ⟨s.toArray⟩)) :: .box b9 25 [.lit vS] :: .arr vS 22 1 (SL.map fun s : Ss => .sl 1 (s.1.map AV.int)) :: .box b8 61 [.lit vN, .lit vF] :: .arr vF 4 1 (SL.map fun s : Ss => .bool s.2) :: []) (fun r M => ∃ (k : Nat) (vS' vF' : Value) (SL' : List Ss), r = .int (k : Int) ∧ M = (.box b10 93 [.lit (.map (some bm))] :: .obj bm (mObj ((SL'.map keyS).map fun s : List UInt8 => Value.string ⟨s.toArray⟩)) :: .box b9 25 [.lit vS'] :: .arr vS' 22 1 (SL'.map fun s : Ss => .sl 1 (s.1.map AV.int)) :: .box b8 61 [.lit vN, .lit vF'] :: .arr vF' 4 1 (SL'.map fun s : Ss => .bool s.2) :: []) ∧ ((place (norm l, f) SL = some k ∧ SL' = SL) ∨ ((norm l, f) ∉ SL ∧ k = SL.length ∧ SL' = SL ++ [(norm l, f)]))) :=  by
  refine FnC.mk Tryz.func44 (by kernel_rfl) rfl Tryz.ntmps44 rfl (fun w0 F => ?_)
  have hnl := norm_len l
  have hn0 : ∀ x ∈ norm l, 0 ≤ x ∧ x < 100 := fun x hx => hl0 x ((norm_mem l x).1 hx)
  have hsm : sml (norm l) := fun x hx => by have := hn0 x hx; omega
  have hplc : place (keyS (norm l, f)) (SL.map keyS) = place (norm l, f) SL := keyS_place hsm hSL
  have hkl := keyL_len (norm l)
  have hml1 : (SL.map fun s : Ss => AV.sl 1 (s.1.map AV.int)).length = SL.length := List.length_map ..
  have hml2 : (SL.map fun s : Ss => AV.bool s.2).length = SL.length := List.length_map ..
  refine W.seq ?_
  refine W.region ?_
  refine W.q (Ev.assign .k) rfl ?_
  refine W.nil ?_
  refine W.then ?_
  refine W.seq ?_
  refine W.region ?_
  refine W.q (Ev.move (.t rfl)) rfl ?_
  refine W.call (WNorm.c_Values v (l.map AV.int)) ⟨(.t rfl), trivial⟩ (.refl _) rfl ?_
  rintro _ _ ⟨bq, rfl, rfl⟩
  refine W.call (WNorm.c_Sorted bq v l (by omega)) ⟨(.t rfl), trivial⟩ (.refl _) rfl ?_
  rintro _ _ ⟨v13, rfl, rfl⟩
  refine W.call (WNorm.c_Compact v13 (srt l) (srt_asc l) (by rw [srt_len]; omega)) ⟨(.t rfl), trivial⟩ (.refl _) rfl ?_
  rintro _ _ ⟨v14, rfl, rfl⟩
  refine W.q (Ev.assign (.t rfl)) rfl ?_
  refine W.nil ?_
  refine W.then ?_
  refine W.seq ?_
  refine W.region ?_
  refine W.freezeA (M1 := .box bq 22 [.lit v] :: .arr v 3 1 (l.map AV.int) :: .box b10 93 [.lit (.map (some bm))] :: .obj bm (mObj ((SL.map keyS).map fun s : List UInt8 => Value.string ⟨s.toArray⟩)) :: .box b9 25 [.lit vS] :: .arr vS 22 1 (SL.map fun s : Ss => .sl 1 (s.1.map AV.int)) :: .box b8 61 [.lit vN, .lit vF] :: .arr vF 4 1 (SL.map fun s : Ss => .bool s.2) :: []) (M2 := .box bq 22 [.lit v] :: .arr v 3 1 (l.map AV.int) :: .box b10 93 [.lit (.map (some bm))] :: .obj bm (mObj ((SL.map keyS).map fun s : List UInt8 => Value.string ⟨s.toArray⟩)) :: .box b9 25 [.lit vS] :: .arr vS 22 1 (SL.map fun s : Ss => .sl 1 (s.1.map AV.int)) :: .box b8 61 [.lit vN, .lit vF] :: .arr vF 4 1 (SL.map fun s : Ss => .bool s.2) :: []) (D := []) (v := v14) (L' := [(0, true, .sl 1 ((norm l).map AV.int))]) (by rw [List.append_nil]; exact .refl _) ⟨⟨_, rfl, .one .hit⟩, trivial⟩ (FrzMs.refl _) ?_
  refine W.q (Ev.move (.t rfl)) rfl ?_
  refine W.call (WKey.c_key (norm l) (by omega) [] (fun n hn => WNorm.c_Itoa0 n (hn0 n hn).1 (hn0 n hn).2 [])) ⟨(.t rfl), trivial⟩ (.refl _) rfl ?_
  rintro _ _ ⟨rfl, rfl⟩
  refine W.q (Ev.move (.t rfl)) rfl ?_
  refine W.callp (WFmt.c_FormatBool f) ⟨(.t rfl), trivial⟩ rfl ?_
  refine W.q (Ev.cat (.t rfl) (.t rfl) (fun _ => by have : (fmtB f).length ≤ 5 := (by cases f <;> decide); omega)) rfl ?_
  refine W.is (t := 19) (g := true) (av' := .str (keyS (norm l, f))) rfl rfl ?_
  refine W.q (Ev.assign (.t rfl)) rfl ?_
  refine W.nil ?_
  refine W.then ?_
  refine W.seq ?_
  refine W.seq ?_
  refine W.region ?_
  (refine W.q (Ev.ldb1 2 (.t rfl) rfl ag93 rfl) rfl ?_)
  refine W.q (Ev.move (.t rfl)) rfl ?_
  (refine W.q (Ev.look2 3 (.t rfl) rfl (.t rfl) Tryz.underlying93 (KeyKind.str Tryz.underlying9) ty3) rfl ?_)
  refine W.q (Ev.move (.t rfl)) rfl ?_
  refine W.q (Ev.extract (.t rfl) rfl) rfl ?_
  refine W.q (Ev.extract (.t rfl) rfl) rfl ?_
  refine W.q (Ev.assign (.t rfl)) rfl ?_
  refine W.q (Ev.assign (.t rfl)) rfl ?_
  refine W.nil ?_
  refine W.then ?_
  refine W.seq ?_
  refine W.region ?_
  refine W.q (Ev.move (.t rfl)) rfl ?_
  refine W.nil ?_
  refine W.then ?_
  refine W.cond (.t rfl) (fun hc_t26 => ?_) (fun hc_t26 => ?_)
  · obtain ⟨j, hj⟩ : ∃ j, place (keyS (norm l, f)) (SL.map keyS) = some j := by
      cases hp : place (keyS (norm l, f)) (SL.map keyS) with
      | none => rw [hp] at hc_t26; simp at hc_t26
      | some j => exact ⟨j, rfl⟩
    refine W.seq ?_
    refine W.region ?_
    refine W.q (Ev.move (.t rfl)) rfl ?_
    refine W.q (Ev.assign (.t rfl)) rfl ?_
    refine W.nil ?_
    refine W.then ?_
    refine W.ret ?_
    refine W.then_ret ?_
    refine W.retn (M' := (.box b10 93 [.lit (.map (some bm))] :: .obj bm (mObj ((SL.map keyS).map fun s : List UInt8 => Value.string ⟨s.toArray⟩)) :: .box b9 25 [.lit vS] :: .arr vS 22 1 (SL.map fun s : Ss => .sl 1 (s.1.map AV.int)) :: .box b8 61 [.lit vN, .lit vF] :: .arr vF 4 1 (SL.map fun s : Ss => .bool s.2) :: [])) (D := _) (rs := [.tmp 7]) (avs := [_]) Tryz.results44 ⟨rfl, trivial⟩ rfl (List.perm_append_comm (l₁ := [_, _])) ?_
    refine ⟨j, vS, vF, SL, congrArg AV.int (by rw [hj]; rfl), rfl, .inl ⟨by rw [← hplc]; exact hj, rfl⟩⟩
  · have hnew : keyS (norm l, f) ∉ SL.map keyS := by
      rw [← place_none]
      cases hp : place (keyS (norm l, f)) (SL.map keyS) with
      | none => rfl
      | some j => rw [hp] at hc_t26; simp at hc_t26
    have hnS : (norm l, f) ∉ SL := by rw [← place_none, ← hplc]; exact place_none.2 hnew
    refine W.skip ?_
    refine W.then ?_
    refine W.seq ?_
    refine W.region ?_
    (refine W.q (Ev.ldb1 2 (.t rfl) rfl ag93 rfl) rfl ?_)
    refine W.q (Ev.move (.t rfl)) rfl ?_
    (refine W.q (Ev.ldb1 4 (.t rfl) rfl ag25 rfl) rfl ?_)
    (refine W.q (Ev.lenar (i := 5) (.t rfl) rfl Tryz.underlying25) rfl ?_)
    refine W.is (t := 31) (g := true) (av' := .int ((SL.map keyS).length : Int)) rfl (by rw [List.length_map, List.length_map]) ?_
    (refine W.mapnew 3 (.t rfl) rfl (.t rfl) (.t rfl) Tryz.underlying93 (KeyKind.str Tryz.underlying9) (hnew) _ (.inl rfl) ?_)
    refine W.nil ?_
    refine W.then ?_
    refine W.seq ?_
    refine W.region ?_
    (refine W.q (Ev.ldb1 4 (.t rfl) rfl ag25 rfl) rfl ?_)
    refine W.q (Ev.move (.t rfl)) rfl ?_
    refine W.bs (es := [_]) Tryz.underlying25 ty22 ⟨rfl, (.t rfl), rfl, rfl, trivial⟩ rfl (by decide) rfl rfl ?_
    (refine W.app 5 (.t rfl) rfl (.sl (.t rfl) (by intro e he; rw [List.mem_singleton.1 he]; rfl)) Tryz.underlying25 ni25 ty22 rfl rfl (by rw [hml1]; simp only [List.length_cons, List.length_nil]; omega) rfl ?_)
    intro v35
    refine W.arr_inv 5 rfl (fun a9 n9 c9 h9 => ?_)
    subst h9
    refine W.stb 4 (.t rfl) (.t rfl) rfl ty25 rfl rfl rfl ?_
    refine W.nil ?_
    refine W.then ?_
    refine W.seq ?_
    refine W.region ?_
    (refine W.q (Ev.fab (.t rfl) fa61_1) rfl ?_)
    (refine W.q (Ev.ldb1 6 (.t rfl) rfl ag26 rfl) rfl ?_)
    refine W.q (Ev.move (.t rfl)) rfl ?_
    refine W.bs (es := [_]) Tryz.underlying26 ty4 ⟨rfl, (.t rfl), rfl, rfl, trivial⟩ rfl (by decide) rfl rfl ?_
    (refine W.app 7 (.t rfl) rfl (.sl (.t rfl) (by intro e he; rw [List.mem_singleton.1 he]; rfl)) Tryz.underlying26 ni26 ty4 rfl rfl (by rw [hml2]; simp only [List.length_cons, List.length_nil]; omega) rfl ?_)
    intro v40
    (refine W.q (Ev.fab (.t rfl) fa61_1) rfl ?_)
    refine W.arr_inv 7 rfl (fun a8 n8 c8 h8 => ?_)
    subst h8
    refine W.stb 6 (.t rfl) (.t rfl) rfl ty26 rfl rfl rfl ?_
    refine W.nil ?_
    refine W.then ?_
    refine W.seq ?_
    refine W.region ?_
    (refine W.q (Ev.ldb1 4 (.t rfl) rfl ag25 rfl) rfl ?_)
    (refine W.q (Ev.lenar (i := 5) (.t rfl) rfl Tryz.underlying25) rfl ?_)
    refine W.is (t := 43) (g := true) (av' := .int ((SL.length : Int) + 1)) rfl (congrArg AV.int (by rw [List.length_append, hml1]; simp only [List.length_cons, List.length_nil]; omega)) ?_
    (refine W.q (Ev.sub (.t rfl) .k (fun _ => by omega)) rfl ?_)
    refine W.is (t := 44) (g := true) (av' := .int (SL.length : Int)) rfl (congrArg AV.int (by omega)) ?_
    refine W.q (Ev.assign (.t rfl)) rfl ?_
    refine W.nil ?_
    refine W.then ?_
    refine W.ret ?_
    refine W.retn (M' := (.box b10 93 [.lit (.map (some bm))] :: .obj bm (mObj (((SL ++ [(norm l, f)]).map keyS).map fun s : List UInt8 => Value.string ⟨s.toArray⟩)) :: .box b9 25 [.lit (.slice a9 n9 c9)] :: .arr (.slice a9 n9 c9) 22 1 ((SL ++ [(norm l, f)]).map fun s : Ss => .sl 1 (s.1.map AV.int)) :: .box b8 61 [.lit vN, .lit (.slice a8 n8 c8)] :: .arr (.slice a8 n8 c8) 4 1 ((SL ++ [(norm l, f)]).map fun s : Ss => .bool s.2) :: [])) (D := _) (rs := [.tmp 7]) (avs := [_]) Tryz.results44 ⟨rfl, trivial⟩ rfl (by simp only [List.map_append]; exact List.perm_append_comm (l₁ := [_, _])) ?_
    exact ⟨SL.length, _, _, _, rfl, rfl, .inr ⟨hnS, rfl, rfl⟩⟩

end WState

end Go.Proofs.YtacaemfkdieocaaGreatDoor
end

section
set_option linter.unusedVariables false
set_option linter.unusedSimpArgs false
set_option maxRecDepth 100000
namespace Go.Proofs.YtacaemfkdieocaaGreatDoor
open Go.Vl

namespace WHas
theorem ty3 : Ty Tryz.prog 3 1 8 (.int .i64 0) := Ty.of (by kernel_rfl)
theorem ag3 : IsAgg Tryz.prog 3 false := ⟨_, Tryz.underlying3, rfl⟩
theorem c_IndexA (v : Value) (l : List Nat) (k : Nat) (hl : l.length ≤ 1048577) : FnC Tryz.prog 84 [.lit v, .int (k : Int)] [.arr v 3 1 (l.map natv)] (fun r M => (∃ z : Int, r = .int z ∧ (0 ≤ z ↔ k ∈ l)) ∧ M = [.arr v 3 1 (l.map natv)]) :=  by
  refine FnC.mk Tryz.func84 (by kernel_rfl) rfl Tryz.ntmps84 rfl (fun w0 F => ?_)
  refine W.seq ?_
  refine W.region ?_
  refine W.q (Ev.assign .k) rfl ?_
  refine W.nil ?_
  refine W.then ?_
  refine W.seq ?_
  refine W.seq ?_
  refine W.region ?_
  refine W.q (Ev.move (.t rfl)) rfl ?_
  (refine W.q (Ev.lenar (i := 0) (.t rfl) rfl Tryz.underlying22) rfl ?_)
  refine W.q (Ev.move .k) rfl ?_
  refine W.nil ?_
  refine W.then ?_
  refine W.block ?_
  refine W.loop (D := []) (ι := Nat) (fun i => [(8, true, .int (i : Int)), (7, true, .int ((l.map natv).length : Int)), (0, true, .lit v), (1, true, .int (k : Int))]) (fun _ => [.arr v 3 1 (l.map natv)]) (fun i => i ≤ l.length ∧ k ∉ l.take i) (fun i => l.length - i) 0 ⟨rfl, rfl, rfl, rfl, trivial⟩ (.refl _) ⟨Nat.zero_le _, by simp⟩ ?_
  rintro i ⟨hi, hni⟩
  dsimp only at hi hni ⊢
  have hml : (l.map natv).length = l.length := List.length_map ..
  rcases (show i < l.length ∨ i = l.length from by omega) with hlt | hend
  · have hga := getD_mapG natv 0 l i hlt
    refine W.seq ?_
    refine W.region ?_
    refine W.q (Ev.lti (.t rfl) (.t rfl)) rfl ?_
    refine W.nil ?_
    refine W.then ?_
    refine W.seq ?_
    refine W.is (t := 9) (g := true) (av' := .lit (.bool true)) rfl (congrArg (fun b => AV.lit (.bool b)) (by exact decide_eq_true (by omega))) ?_
    refine W.condT (.t rfl) ?_
    refine W.skip ?_
    refine W.then ?_
    refine W.seq ?_
    refine W.block ?_
    refine W.seq ?_
    refine W.region ?_
    refine W.q (Ev.move (.t rfl)) rfl ?_
    refine W.q (Ev.assign (.t rfl)) rfl ?_
    refine W.nil ?_
    refine W.then ?_
    refine W.seq ?_
    refine W.region ?_
    refine W.q (Ev.move (.t rfl)) rfl ?_
    refine W.q (Ev.move (.t rfl)) rfl ?_
    refine W.q (Ev.move (.t rfl)) rfl ?_
    refine W.q (Ev.ata 0 (.t rfl) rfl (.t rfl) Tryz.underlying22 ty3 (fun _ => by rw [List.length_map]; omega)) rfl ?_
    refine W.q (Ev.lda1 0 i 0 (.t rfl) rfl hga (by omega) rfl rfl rfl ag3) rfl ?_
    refine W.q (Ev.eqi (.t rfl) (.t rfl)) rfl ?_
    refine W.nil ?_
    refine W.then ?_
    refine W.cond (.t rfl) (fun hc_t16 => ?_) (fun hc_t16 => ?_)
    · have hk16 : k = l.getD i 0 := by have := eq_of_beq hc_t16; omega
      refine W.seq ?_
      refine W.region ?_
      refine W.q (Ev.move (.t rfl)) rfl ?_
      refine W.q (Ev.assign (.t rfl)) rfl ?_
      refine W.nil ?_
      refine W.then ?_
      refine W.ret ?_
      refine W.blk_ret ?_
      refine W.then_ret ?_
      refine W.then_ret ?_
      refine W.blk_ret ?_
      refine W.then_ret ?_
      refine W.retn (M' := [_]) (D := []) (rs := [.tmp 4]) (avs := [_]) Tryz.results84 ⟨rfl, trivial⟩ rfl (.refl _) ?_
      exact ⟨⟨_, rfl, fun _ => by rw [hk16]; exact getD_memG 0 l i hlt, fun _ => by omega⟩, rfl⟩
    · have hk16 : k ≠ l.getD i 0 := fun h => by have := beq_eq_false_iff_ne.1 hc_t16; exact this (by rw [← h])
      refine W.skip ?_
      refine W.blk_normal ?_
      refine W.then ?_
      refine W.region ?_
      (refine W.q (Ev.add (.t rfl) .k (fun _ => by omega)) rfl ?_)
      refine W.q (Ev.move (.t rfl)) rfl ?_
      refine W.nil ?_
      refine W.then ?_
      refine W.reach (D := []) (i + 1) ⟨rfl, rfl, rfl, rfl, trivial⟩ (.refl _) ⟨⟨hlt, ?_⟩, by show l.length - (i + 1) < l.length - i; omega⟩
      rw [take_getDG 0 l i hlt, List.mem_append, List.mem_singleton]
      exact fun h => h.elim hni hk16
  · subst hend
    rw [List.take_length] at hni
    refine W.seq ?_
    refine W.region ?_
    refine W.q (Ev.lti (.t rfl) (.t rfl)) rfl ?_
    refine W.nil ?_
    refine W.then ?_
    refine W.seq ?_
    refine W.is (t := 9) (g := true) (av' := .lit (.bool false)) rfl (congrArg (fun b => AV.lit (.bool b)) (by exact decide_eq_false (by omega))) ?_
    refine W.condF (.t rfl) ?_
    refine W.exit ?_
    refine W.then_exit ?_
    refine W.then_exit ?_
    refine W.blk_hit ?_
    refine W.then ?_
    refine W.seq ?_
    refine W.region ?_
    refine W.q (Ev.assign .k) rfl ?_
    refine W.nil ?_
    refine W.then ?_
    refine W.ret ?_
    refine W.retn (M' := [_]) (D := []) (rs := [.tmp 4]) (avs := [_]) Tryz.results84 ⟨rfl, trivial⟩ rfl (.refl _) ?_
    exact ⟨⟨-1, rfl, fun h => by omega, fun h => absurd h hni⟩, rfl⟩
theorem c_ContainsA (v : Value) (l : List Nat) (k : Nat) (hl : l.length ≤ 1048577) : FnC Tryz.prog 76 [.lit v, .int (k : Int)] [.arr v 3 1 (l.map natv)] (fun r M => r = .bool (decide (k ∈ l)) ∧ M = [.arr v 3 1 (l.map natv)]) :=  by
  refine FnC.mk Tryz.func76 (by kernel_rfl) rfl Tryz.ntmps76 rfl (fun w0 F => ?_)
  refine W.seq ?_
  refine W.region ?_
  refine W.q (Ev.assign .k) rfl ?_
  refine W.nil ?_
  refine W.then ?_
  refine W.seq ?_
  refine W.region ?_
  refine W.q (Ev.move (.t rfl)) rfl ?_
  refine W.q (Ev.move (.t rfl)) rfl ?_
  refine W.call (c_IndexA v l k hl) ⟨(.t rfl), (.t rfl), trivial⟩ (.refl _) rfl ?_
  rintro _ _ ⟨⟨z, rfl, hz⟩, rfl⟩
  refine W.q (Ev.gei (.t rfl) .k) rfl ?_
  refine W.q (Ev.assign (.t rfl)) rfl ?_
  refine W.nil ?_
  refine W.then ?_
  refine W.ret ?_
  refine W.retn (M' := [_]) (D := []) (rs := [.tmp 4]) (avs := [_]) Tryz.results76 ⟨rfl, trivial⟩ rfl (.refl _) ?_
  exact ⟨congrArg AV.bool (decide_eq_decide.2 hz), rfl⟩

end WHas

end Go.Proofs.YtacaemfkdieocaaGreatDoor
end

section
set_option linter.unusedVariables false
set_option linter.unusedSimpArgs false
namespace Go.Vl
structure Pk where
  name : List UInt8
  attr : List UInt8
  deep : Bool
abbrev kav (p : Pk) : AV := .agg [.str p.name, .str p.attr, .bool p.deep]
namespace Pk
abbrev dfl : Pk := ⟨[], [], false⟩
def fits (p : Pk) (d : Nd) : Bool := !(d.name == [] || (p.name != [] && p.name != d.name)) && (p.attr == [] || d.attrs.any fun a => a.1 == p.attr)
abbrev Fl := Nat → Bool
abbrev row (n : Nat) (f : Fl) : AV := .sl 1 ((List.range n).map fun k => AV.bool (f k))
def ahead (ps : List Pk) (r w : Fl) (k : Nat) : Bool := (k == 0 || ((ps.getD k dfl).deep && w (k - 1))) || (!(ps.getD k dfl).deep && r (k - 1))
def ends (ps : List Pk) (r w : Fl) (d : Nd) (k : Nat) : Bool := ahead ps r w k && fits (ps.getD k dfl) d
def far (ps : List Pk) (r w : Fl) (d : Nd) (k : Nat) : Bool := w k || ends ps r w d k
mutual
/-- the paths that are found within a node, among nodes -/
def fnd (ps : List Pk) : Nd → List Int → Fl → Fl → List (List Int)
  | .mk n a t q, path, r, w => fnds ps 0 q path r w
def fnds (ps : List Pk) : Nat → List Nd → List Int → Fl → Fl → List (List Int)
  | _, [], _, _, _ => []
  | i, d :: l, path, r, w =>
    (if d.name = [] then [] else (if ends ps r w d (ps.length - 1) then [path ++ [(i : Int)]] else []) ++ fnd ps d (path ++ [(i : Int)]) (ends ps r w d) (far ps r w d)) ++ fnds ps (i + 1) l path r w
end
theorem fnd_eq (ps : List Pk) (d : Nd) (path : List Int) (r w : Fl) : fnd ps d path r w = fnds ps 0 d.parts path r w := by cases d; rfl
mutual
theorem fnd_len (ps : List Pk) : ∀ (d : Nd) (path : List Int) (r w : Fl), (fnd ps d path r w).length + 1 ≤ d.sz
  | .mk n a t q, path, r, w => by have := fnds_len ps q 0 path r w; simp only [fnd, Nd.sz]; omega
theorem fnds_len (ps : List Pk) : ∀ (l : List Nd) (i : Nat) (path : List Int) (r w : Fl), (fnds ps i l path r w).length ≤ Nd.szs l
  | [], _, _, _, _ => Nat.zero_le _
  | d :: l, i, path, r, w => by
    have h1 := fnd_len ps d (path ++ [(i : Int)]) (ends ps r w d) (far ps r w d)
    have h2 := fnds_len ps l (i + 1) path r w
    rw [fnds, List.length_append, Nd.szs]
    split
    · simp only [List.length_nil]; omega
    · rw [List.length_append]
      split <;> simp only [List.length_nil, List.length_cons] <;> omega
end
mutual
/-- what looser picks find -/
theorem fnd_sub (ps ps' : List Pk) (Rel : Fl → Fl → Fl → Fl → Prop)
    (hs : ∀ d r w r' w', d.name ≠ [] → Rel r w r' w' → Rel (ends ps r w d) (far ps r w d) (ends ps' r' w' d) (far ps' r' w' d) ∧ (ends ps r w d (ps.length - 1) = true → ends ps' r' w' d (ps'.length - 1) = true)) :
    ∀ (d : Nd) (path : List Int) (r w r' w' : Fl), Rel r w r' w' → ∀ q ∈ fnd ps d path r w, q ∈ fnd ps' d path r' w'
  | .mk n a t p, path, r, w, r', w', hr, q, hq => by rw [fnd] at hq ⊢; exact fnds_sub ps ps' Rel hs p 0 path r w r' w' hr q hq
theorem fnds_sub (ps ps' : List Pk) (Rel : Fl → Fl → Fl → Fl → Prop)
    (hs : ∀ d r w r' w', d.name ≠ [] → Rel r w r' w' → Rel (ends ps r w d) (far ps r w d) (ends ps' r' w' d) (far ps' r' w' d) ∧ (ends ps r w d (ps.length - 1) = true → ends ps' r' w' d (ps'.length - 1) = true)) :
    ∀ (l : List Nd) (i : Nat) (path : List Int) (r w r' w' : Fl), Rel r w r' w' → ∀ q ∈ fnds ps i l path r w, q ∈ fnds ps' i l path r' w'
  | [], _, _, _, _, _, _, _, q, hq => by simp [fnds] at hq
  | d :: l, i, path, r, w, r', w', hr, q, hq => by
    rw [fnds, List.mem_append] at hq ⊢
    rcases hq with hq | hq
    · left
      by_cases hn : d.name = []
      · simp [hn] at hq
      · rw [if_neg hn, List.mem_append] at hq ⊢
        obtain ⟨h1, h2⟩ := hs d r w r' w' hn hr
        rcases hq with hq | hq
        · left
          by_cases he : ends ps r w d (ps.length - 1) = true
          · rw [if_pos he] at hq; rw [if_pos (h2 he)]; exact hq
          · rw [if_neg he] at hq; cases hq
        · right
          exact fnd_sub ps ps' Rel hs d _ _ _ _ _ h1 q hq
    · right
      exact fnds_sub ps ps' Rel hs l _ _ _ _ _ _ hr q hq
end
mutual
theorem fnd_sl (ps : List Pk) : ∀ (d : Nd) (path : List Int) (r w : Fl), ∃ S, List.Sublist S (Nd.pths d) ∧ fnd ps d path r w = S.map (path ++ ·)
  | .mk n a t p, path, r, w => by rw [fnd, Nd.pths]; exact fnds_sl ps p 0 path r w
/-- what is found are paths, in their order -/
theorem fnds_sl (ps : List Pk) : ∀ (l : List Nd) (i : Nat) (path : List Int) (r w : Fl), ∃ S, List.Sublist S (Nd.pthsFrom i l) ∧ fnds ps i l path r w = S.map (path ++ ·)
  | [], _, _, _, _ => ⟨[], List.nil_sublist _, rfl⟩
  | d :: l, i, path, r, w => by
    obtain ⟨S1, h1, e1⟩ := fnd_sl ps d (path ++ [(i : Int)]) (ends ps r w d) (far ps r w d)
    obtain ⟨S2, h2, e2⟩ := fnds_sl ps l (i + 1) path r w
    rw [fnds, Nd.pthsFrom, e1, e2]
    have hm : List.Sublist (S1.map ((i : Int) :: ·)) (d.pths.map ((i : Int) :: ·)) := h1.map _
    have em : S1.map ((path ++ [(i : Int)]) ++ ·) = (S1.map ((i : Int) :: ·)).map (path ++ ·) := by
      rw [List.map_map]; congr 1; funext s; simp
    by_cases hn : d.name = []
    · rw [if_pos hn]
      exact ⟨S2, (h2.trans (List.sublist_append_right _ _)).trans (List.sublist_cons_self _ _), rfl⟩
    · rw [if_neg hn, em]
      split
      · exact ⟨[(i : Int)] :: (S1.map ((i : Int) :: ·) ++ S2), (hm.append h2).cons_cons _, by simp⟩
      · exact ⟨S1.map ((i : Int) :: ·) ++ S2, (hm.append h2).cons _, by simp⟩
end
mutual
theorem fnd_at (ps : List Pk) : ∀ (d : Nd) (path : List Int) (r w : Fl), ∀ q ∈ fnd ps d path r w, ∃ s e, q = path ++ s ∧ Nd.atP d.parts s e ∧ e.name ≠ [] ∧ fits (ps.getD (ps.length - 1) dfl) e = true
  | .mk n a t p, path, r, w, q, hq => by
    rw [fnd] at hq
    obtain ⟨j, s, e, h1, h2, h3⟩ := fnds_at ps p 0 path r w q hq
    exact ⟨(j : Int) :: s, e, by rw [h1, Nat.zero_add], h2, h3⟩
/-- the nodes that are found fit the last pick -/
theorem fnds_at (ps : List Pk) : ∀ (l : List Nd) (i : Nat) (path : List Int) (r w : Fl), ∀ q ∈ fnds ps i l path r w, ∃ (j : Nat) (s : List Int) (e : Nd), q = path ++ (((i + j : Nat) : Int) :: s) ∧ Nd.atP l ((j : Int) :: s) e ∧ e.name ≠ [] ∧ fits (ps.getD (ps.length - 1) dfl) e = true
  | [], _, _, _, _, q, hq => by simp [fnds] at hq
  | d :: l, i, path, r, w, q, hq => by
    rw [fnds, List.mem_append] at hq
    rcases hq with hq | hq
    · by_cases hn : d.name = []
      · simp [hn] at hq
      · rw [if_neg hn, List.mem_append] at hq
        rcases hq with hq | hq
        · by_cases he : ends ps r w d (ps.length - 1) = true
          · rw [if_pos he, List.mem_singleton] at hq
            refine ⟨0, [], d, by simpa using hq, ⟨0, rfl, by simp, .inl ⟨rfl, rfl⟩⟩, hn, ?_⟩
            simp only [ends, Bool.and_eq_true] at he; exact he.2
          · rw [if_neg he] at hq; cases hq
        · obtain ⟨s, e, h1, h3, h4⟩ := fnd_at ps d _ _ _ q hq
          refine ⟨0, s, e, by rw [h1, List.append_assoc]; rfl, ⟨0, rfl, by simp, .inr ⟨?_, by simpa using h3⟩⟩, h4⟩
          rintro rfl; exact h3.elim
    · obtain ⟨j, s, e, h1, ⟨k, hk, hlt, hx⟩, h5⟩ := fnds_at ps l (i + 1) path r w q hq
      refine ⟨j + 1, s, e, by rw [h1]; congr 3; omega, ⟨k + 1, by omega, by simp; omega, by simpa using hx⟩, h5⟩
end
/-- is a path right ahead of the other one, and part of it? -/
def around (x a : List Int) : Bool := decide (x.length < a.length) && decide (a.take x.length = x)
theorem around_miss (path s t : List Int) (i j : Int) (h : i ≠ j) : around (path ++ i :: s) (path ++ j :: t) = false := by
  cases hc : around (path ++ i :: s) (path ++ j :: t) with
  | false => rfl
  | true =>
    exfalso
    simp only [around, Bool.and_eq_true, decide_eq_true_eq] at hc
    have h1 := congrArg (·[path.length]?) hc.2
    simp at h1
    exact h h1.symm
theorem fnds_shape (ps : List Pk) (l : List Nd) (i : Nat) (path : List Int) (r w : Fl) : ∀ q ∈ fnds ps i l path r w, ∃ (j : Nat) (s : List Int), i ≤ j ∧ q = path ++ (j : Int) :: s := fun q hq => by
  obtain ⟨j, s, e, h1, _⟩ := fnds_at ps l i path r w q hq
  exact ⟨i + j, s, by omega, h1⟩
theorem fnd_shape (ps : List Pk) (d : Nd) (path : List Int) (r w : Fl) : ∀ q ∈ fnd ps d path r w, ∃ (j : Int) (s : List Int), q = path ++ j :: s := fun q hq => by
  rw [fnd_eq] at hq
  obtain ⟨j, s, _, h⟩ := fnds_shape ps _ _ _ _ _ q hq
  exact ⟨j, s, h⟩
mutual
theorem fnd_within (p q : Pk) (hq : q.deep = true) : ∀ (d : Nd) (path : List Int) (r w r1 w1 r2 w2 : Fl), fnd [p, q] d path r w = (fnd [q] d path r1 w1).filter fun a => w 0 || (fnd [p] d path r2 w2).any fun x => around x a
  | .mk _ _ _ l, path, r, w, r1, w1, r2, w2 => by rw [fnd, fnd, fnd]; exact fnds_within p q hq l 0 path r w r1 w1 r2 w2
theorem fnds_within (p q : Pk) (hq : q.deep = true) : ∀ (l : List Nd) (i : Nat) (path : List Int) (r w r1 w1 r2 w2 : Fl), fnds [p, q] i l path r w = (fnds [q] i l path r1 w1).filter fun a => w 0 || (fnds [p] i l path r2 w2).any fun x => around x a
  | [], _, _, _, _, _, _, _, _ => rfl
  | d :: l, i, path, r, w, r1, w1, r2, w2 => by
    have h2 := fnds_within p q hq l (i + 1) path r w r1 w1 r2 w2
    have h1 := fnd_within p q hq d (path ++ [(i : Int)]) (ends [p, q] r w d) (far [p, q] r w d) (ends [q] r1 w1 d) (far [q] r1 w1 d) (ends [p] r2 w2 d) (far [p] r2 w2 d)
    rw [fnds, fnds, fnds, h1, h2]
    rw [List.filter_append]
    have hC : ∀ a ∈ fnds [q] (i + 1) l path r1 w1, (w 0 || ((if d.name = [] then [] else (if ends [p] r2 w2 d ([p].length - 1) then [path ++ [(i : Int)]] else []) ++ fnd [p] d (path ++ [(i : Int)]) (ends [p] r2 w2 d) (far [p] r2 w2 d)) ++ fnds [p] (i + 1) l path r2 w2).any fun x => around x a) =
        (w 0 || (fnds [p] (i + 1) l path r2 w2).any fun x => around x a) := by
      intro a ha
      obtain ⟨j, s, hj, rfl⟩ := fnds_shape _ _ _ _ _ _ a ha
      rw [List.any_append]
      have : ((if d.name = [] then [] else (if ends [p] r2 w2 d ([p].length - 1) then [path ++ [(i : Int)]] else []) ++ fnd [p] d (path ++ [(i : Int)]) (ends [p] r2 w2 d) (far [p] r2 w2 d)).any fun x => around x (path ++ (j : Int) :: s)) = false := by
        rw [List.any_eq_false]
        intro x hx
        split at hx
        · cases hx
        · rw [List.mem_append] at hx
          rcases hx with hx | hx
          · split at hx
            · rw [List.mem_singleton] at hx; subst hx
              rw [around_miss path [] s i j (by omega)]; simp
            · cases hx
          · obtain ⟨j', s', rfl⟩ := fnd_shape _ _ _ _ _ x hx
            have := around_miss path (j' :: s') s i j (by omega)
            simp only [List.append_assoc, List.singleton_append]
            rw [this]; simp
      rw [this, Bool.false_or]
    rw [List.filter_congr hC]
    congr 1
    by_cases hn : d.name = []
    · simp [hn]
    · rw [if_neg hn, if_neg hn, if_neg hn, List.filter_append]
      have e1 : ends [p, q] r w d ([p, q].length - 1) = (w 0 && fits q d) := by simp [ends, ahead, hq]
      have e2 : ends [q] r1 w1 d ([q].length - 1) = fits q d := by simp [ends, ahead]
      have e3 : ends [p] r2 w2 d ([p].length - 1) = fits p d := by simp [ends, ahead]
      have e4 : far [p, q] r w d 0 = (w 0 || fits p d) := by simp [far, ends, ahead]
      rw [e1, e2, e3, e4]
      have hXC : ∀ s : List Int, ((fnds [p] (i + 1) l path r2 w2).any fun x => around x (path ++ (i : Int) :: s)) = false := by
        intro s
        rw [List.any_eq_false]
        intro x hx
        obtain ⟨j, s', hj, rfl⟩ := fnds_shape _ _ _ _ _ _ x hx
        rw [around_miss path s' s j i (by omega)]; simp
      congr 1
      · cases hf : fits q d with
        | false => simp
        | true =>
          rw [Bool.and_true, if_pos rfl, List.filter_cons, List.filter_nil]
          have : (((if fits p d = true then [path ++ [(i : Int)]] else []) ++ fnd [p] d (path ++ [(i : Int)]) (ends [p] r2 w2 d) (far [p] r2 w2 d) ++ fnds [p] (i + 1) l path r2 w2).any fun x => around x (path ++ [(i : Int)])) = false := by
            rw [List.any_append, hXC [], Bool.or_false, List.any_eq_false]
            intro x hx
            rw [List.mem_append] at hx
            rcases hx with hx | hx
            · split at hx
              · rw [List.mem_singleton] at hx; subst hx; simp [around]
              · cases hx
            · obtain ⟨j', s', rfl⟩ := fnd_shape _ _ _ _ _ x hx
              simp [around]
          rw [this, Bool.or_false]
      · refine List.filter_congr ?_
        intro a ha
        obtain ⟨j, s, rfl⟩ := fnd_shape _ _ _ _ _ a ha
        have := hXC (j :: s)
        rw [List.any_append, List.append_assoc, List.singleton_append, this, Bool.or_false, List.any_append, Bool.or_assoc]
        congr 1
        congr 1
        cases fits p d with
        | false => simp
        | true => simp [around, List.take_append, List.take_of_length_le (Nat.le_succ path.length)]
end
mutual
/-- elements; those of a name -/
def els : Nd → Nat
  | .mk _ _ _ l => elss l
def elss : List Nd → Nat
  | [] => 0
  | d :: l => (if d.name = [] then 0 else 1 + els d) + elss l
end
mutual
def nms (s : List UInt8) : Nd → Nat
  | .mk _ _ _ l => nmss s l
def nmss (s : List UInt8) : List Nd → Nat
  | [] => 0
  | d :: l => (if d.name = [] then 0 else (if d.name = s then 1 else 0) + nms s d) + nmss s l
end
mutual
theorem els_le : ∀ d : Nd, els d + 1 ≤ d.sz
  | .mk _ a _ l => by have := elss_le l; simp only [els, Nd.sz]; omega
theorem elss_le : ∀ l : List Nd, elss l ≤ Nd.szs l
  | [] => Nat.le_refl _
  | d :: l => by have := els_le d; have := elss_le l; simp only [elss, Nd.szs]; split <;> omega
end
mutual
theorem nms_le (s : List UInt8) : ∀ d : Nd, nms s d + 1 ≤ d.sz
  | .mk _ a _ l => by have := nmss_le s l; simp only [nms, Nd.sz]; omega
theorem nmss_le (s : List UInt8) : ∀ l : List Nd, nmss s l ≤ Nd.szs l
  | [] => Nat.le_refl _
  | d :: l => by have := nms_le s d; have := nmss_le s l; simp only [nmss, Nd.szs]; split <;> (try split) <;> omega
end
mutual
theorem fnd_star (p : Pk) (hp : p.name = [] ∧ p.attr = []) : ∀ (d : Nd) (path : List Int) (r w : Fl), (fnd [p] d path r w).length = els d
  | .mk _ _ _ l, path, r, w => by rw [fnd, els]; exact fnds_stars p hp l 0 path r w
theorem fnds_stars (p : Pk) (hp : p.name = [] ∧ p.attr = []) : ∀ (l : List Nd) (i : Nat) (path : List Int) (r w : Fl), (fnds [p] i l path r w).length = elss l
  | [], _, _, _, _ => rfl
  | d :: l, i, path, r, w => by
    have h1 := fnd_star p hp d (path ++ [(i : Int)]) (ends [p] r w d) (far [p] r w d)
    have h2 := fnds_stars p hp l (i + 1) path r w
    rw [fnds, List.length_append, elss, h2]
    by_cases hn : d.name = []
    · rw [if_pos hn, if_pos hn]; rfl
    · have : ends [p] r w d ([p].length - 1) = true := by simp [ends, ahead, fits, hp, hn]
      rw [if_neg hn, if_neg hn, List.length_append, this, h1, if_pos rfl]; rfl
end
mutual
theorem fnd_name (p : Pk) (hp : p.name ≠ [] ∧ p.attr = []) : ∀ (d : Nd) (path : List Int) (r w : Fl), (fnd [p] d path r w).length = nms p.name d
  | .mk _ _ _ l, path, r, w => by rw [fnd, nms]; exact fnds_name p hp l 0 path r w
theorem fnds_name (p : Pk) (hp : p.name ≠ [] ∧ p.attr = []) : ∀ (l : List Nd) (i : Nat) (path : List Int) (r w : Fl), (fnds [p] i l path r w).length = nmss p.name l
  | [], _, _, _, _ => rfl
  | d :: l, i, path, r, w => by
    have h1 := fnd_name p hp d (path ++ [(i : Int)]) (ends [p] r w d) (far [p] r w d)
    have h2 := fnds_name p hp l (i + 1) path r w
    rw [fnds, List.length_append, nmss, h2]
    by_cases hn : d.name = []
    · rw [if_pos hn, if_pos hn]; rfl
    · have : ends [p] r w d ([p].length - 1) = (d.name == p.name) := by
        by_cases he : d.name = p.name
        · simp [ends, ahead, fits, hp, hn, he]
        · have he' : ¬ p.name = d.name := fun h => he h.symm
          have e : fits p d = false := by
            unfold fits
            rw [show (d.name == []) = false by simpa using hn, show (p.name != []) = true by simpa using hp.1, show (p.name != d.name) = true by simpa using he']; rfl
          have e2 : (d.name == p.name) = false := by simpa using he
          rw [e2]
          simp [ends, ahead, e]
      rw [if_neg hn, if_neg hn, List.length_append, this, h1]
      congr 1
      congr 1
      by_cases he : d.name = p.name <;> simp [he]
end
abbrev oddS (s : List UInt8) : Bool := !(s == []) && !(nameOk s)
def odd (p : Pk) : Bool := oddS p.name || oddS p.attr
/-- picks that are no fault -/
structure ok (p : Pk) : Prop where
  n : p.name.length ≤ 1000
  a : p.attr.length ≤ 1000
  o : odd p = false
abbrev dp (p : Pk) : Pk := ⟨p.name, p.attr, true⟩
abbrev nn (p : Pk) : Pk := ⟨[], p.attr, p.deep⟩
mutual
theorem fnd_same' (q : Pk) : ∀ (d : Nd) (path : List Int) (r w r1 w1 : Fl), fnd [dp q] d path r w = fnd [q] d path r1 w1
  | .mk _ _ _ l, path, r, w, r1, w1 => by rw [fnd, fnd]; exact fnds_same' q l 0 path r w r1 w1
theorem fnds_same' (q : Pk) : ∀ (l : List Nd) (i : Nat) (path : List Int) (r w r1 w1 : Fl), fnds [dp q] i l path r w = fnds [q] i l path r1 w1
  | [], _, _, _, _, _, _ => rfl
  | d :: l, i, path, r, w, r1, w1 => by
    rw [fnds, fnds, fnd_same' q d _ _ _ (ends [q] r1 w1 d) (far [q] r1 w1 d), fnds_same' q l _ _ _ _ r1 w1]
    rfl
end
end Pk
def upto {α : Type} (f : α → α) (l : List α) (i : Nat) : List α := (l.take i).map f ++ l.drop i
section sl
variable {x : Cx} {g : Bool} {L : List (Tmp × Bool × AV)} {M : List ME} {ty T : TypeId} {o1 o2 : Operand}
end sl
end Go.Vl
end

section
set_option linter.unusedVariables false
set_option linter.unusedSimpArgs false
set_option maxRecDepth 100000
namespace Go.Proofs.YtacaemfkdieocaaGreatDoor
open Go.Vl

namespace WLink
theorem ty3 : Ty Tryz.prog 3 1 8 (.int .i64 0) := Ty.of (by kernel_rfl)
theorem ty22 : Ty Tryz.prog 22 1 24 (.slice none 0 0) := Ty.of (by kernel_rfl)
theorem ty25 : Ty Tryz.prog 25 1 24 (.slice none 0 0) := Ty.of (by kernel_rfl)
theorem ag3 : IsAgg Tryz.prog 3 false := ⟨_, Tryz.underlying3, rfl⟩
theorem ag22 : IsAgg Tryz.prog 22 false := ⟨_, Tryz.underlying22, rfl⟩
theorem ag25 : IsAgg Tryz.prog 25 false := ⟨_, Tryz.underlying25, rfl⟩
theorem fa89_1 : FieldAt Tryz.prog 89 1 1 1 false := ⟨_, _, Tryz.underlying89, rfl, rfl, ty25.size, ag25, by decide⟩
theorem ni22 : NotInt Tryz.prog 22 := .inl ⟨_, Tryz.underlying22⟩
theorem c_link (b : Nat) (v1 v2 vT vF : Value) (tys : List Int) (R0 : List Rw) (fr to : List Nat) (hfr : ∀ p ∈ fr, p < R0.length) (hnd : ∀ p ∈ fr, ((folOf R0).getD p []).Nodup) (hbd : ∀ p ∈ fr, ∀ q ∈ (folOf R0).getD p [], q < 1048576) (htb : ∀ q ∈ to, q < 1048576) (hR : R0.length ≤ 1048576) (hl1 : fr.length ≤ 1048576) (hl2 : to.length ≤ 1048576) : FnC Tryz.prog 63 [.lit (.pointer (some ⟨b, 0, none⟩)), .lit v1, .lit v2] (.arr v1 3 1 (fr.map natv) :: .arr v2 3 1 (to.map natv) :: .box b 89 [.lit vT, .lit vF, .lit (.slice none 0 0), .lit (.slice none 0 0), .bool false] :: .arr vT 3 1 (tys.map AV.int) :: .arr vF 22 1 (rowsV R0) :: rowsM 3 R0) (fun r M => r = .tup [] ∧ ∃ R, Lnk (folOf R0) (folOf R) fr to ∧ R.length = R0.length ∧ M = .arr v1 3 1 (fr.map natv) :: .arr v2 3 1 (to.map natv) :: .box b 89 [.lit vT, .lit vF, .lit (.slice none 0 0), .lit (.slice none 0 0), .bool false] :: .arr vT 3 1 (tys.map AV.int) :: .arr vF 22 1 (rowsV R) :: rowsM 3 R) :=  by
  refine FnC.mk Tryz.func63 (by kernel_rfl) rfl Tryz.ntmps63 rfl (fun w0 F => ?_)
  have hm1 : (fr.map natv).length = fr.length := List.length_map ..
  have hm2 : (to.map natv).length = to.length := List.length_map ..
  refine W.seq ?_
  refine W.region ?_
  refine W.q (Ev.move (.t rfl)) rfl ?_
  (refine W.q (Ev.lenar (i := 0) (.t rfl) rfl Tryz.underlying22) rfl ?_)
  refine W.q (Ev.move .k) rfl ?_
  refine W.nil ?_
  refine W.then ?_
  refine W.block ?_
  refine W.loop (D := []) (ι := Nat × List Rw) (fun z => [(12, true, .int (z.1 : Int)), (11, true, .int ((fr.map natv).length : Int)), (10, true, .lit v1), (0, true, .lit (.pointer (some ⟨b, 0, none⟩))), (2, true, .lit v2)]) (fun z => .arr v1 3 1 (fr.map natv) :: .arr v2 3 1 (to.map natv) :: .box b 89 [.lit vT, .lit vF, .lit (.slice none 0 0), .lit (.slice none 0 0), .bool false] :: .arr vT 3 1 (tys.map AV.int) :: .arr vF 22 1 (rowsV z.2) :: rowsM 3 z.2) (fun z => LnkP (folOf R0) (folOf z.2) fr to z.1 0 ∧ z.1 ≤ fr.length ∧ z.2.length = R0.length) (fun z => fr.length - z.1) (0, R0) ⟨rfl, rfl, rfl, rfl, rfl, trivial⟩ (by rw [List.append_nil]) ⟨LnkP.start _ _ _, Nat.zero_le _, rfl⟩ ?_
  rintro ⟨i, R⟩ ⟨hP, hi, hRl⟩
  dsimp only at hP hi hRl ⊢
  rcases (show i < fr.length ∨ i = fr.length from by omega) with hi | hend
  · have hgp := getD_mapG natv 0 fr i hi
    have hpm := getD_memG 0 fr i hi
    obtain ⟨p, hp0⟩ : ∃ p, p = fr.getD i 0 := ⟨_, rfl⟩
    rw [← hp0] at hgp hpm
    have hpR0 := hfr p hpm
    refine W.seq ?_
    refine W.region ?_
    refine W.q (Ev.lti (.t rfl) (.t rfl)) rfl ?_
    refine W.nil ?_
    refine W.then ?_
    refine W.seq ?_
    refine W.is (t := 13) (g := true) (av' := .lit (.bool true)) rfl (congrArg (fun b => AV.lit (.bool b)) (by exact decide_eq_true (by omega))) ?_
    refine W.condT (.t rfl) ?_
    refine W.skip ?_
    refine W.then ?_
    refine W.seq ?_
    refine W.block ?_
    refine W.seq ?_
    refine W.region ?_
    refine W.q (Ev.ata 0 (.t rfl) rfl (.t rfl) Tryz.underlying22 ty3 (fun _ => by omega)) rfl ?_
    refine W.q (Ev.lda1 0 i 0 (.t rfl) rfl hgp (by omega) rfl rfl rfl ag3) rfl ?_
    refine W.q (Ev.assign (.t rfl)) rfl ?_
    refine W.nil ?_
    refine W.then ?_
    refine W.seq ?_
    refine W.region ?_
    refine W.q (Ev.move (.t rfl)) rfl ?_
    (refine W.q (Ev.lenar (i := 1) (.t rfl) rfl Tryz.underlying22) rfl ?_)
    refine W.q (Ev.move .k) rfl ?_
    refine W.nil ?_
    refine W.then ?_
    refine W.block ?_
    refine W.loop (D := []) (ι := Nat × List Rw) (fun z => [(18, true, .int (z.1 : Int)), (17, true, .int ((to.map natv).length : Int)), (16, true, .lit v2), (7, true, .int (p : Int)), (12, true, .int (i : Int)), (11, true, .int ((fr.map natv).length : Int)), (10, true, .lit v1), (0, true, .lit (.pointer (some ⟨b, 0, none⟩))), (2, true, .lit v2)]) (fun z => .arr v1 3 1 (fr.map natv) :: .arr v2 3 1 (to.map natv) :: .box b 89 [.lit vT, .lit vF, .lit (.slice none 0 0), .lit (.slice none 0 0), .bool false] :: .arr vT 3 1 (tys.map AV.int) :: .arr vF 22 1 (rowsV z.2) :: rowsM 3 z.2) (fun z => LnkP (folOf R0) (folOf z.2) fr to i z.1 ∧ z.1 ≤ to.length ∧ z.2.length = R0.length) (fun z => to.length - z.1) (0, R) ⟨rfl, rfl, rfl, rfl, rfl, rfl, rfl, rfl, rfl, trivial⟩ (by rw [List.append_nil]) ⟨hP, Nat.zero_le _, hRl⟩ ?_
    clear hP hRl R
    rintro ⟨j, R⟩ ⟨hP, hj, hRl⟩
    dsimp only at hP hj hRl ⊢
    rcases (show j < to.length ∨ j = to.length from by omega) with hj | hend
    · have hgk := getD_mapG natv 0 to j hj
      obtain ⟨k, hk0⟩ : ∃ k, k = to.getD j 0 := ⟨_, rfl⟩
      rw [← hk0] at hgk
      have hpR : p < R.length := by omega
      obtain ⟨⟨v, l⟩, hz⟩ : ∃ z, R.getD p (.slice none 0 0, []) = z := ⟨_, rfl⟩
      have hll : l.length ≤ 1048576 := by
        have e : (folOf R).getD p [] = l := by rw [folOf_get, hz]
        have h1 := hP.nodup p (hnd p hpm)
        rw [e] at h1
        refine nodup_len h1 fun q hq => ?_
        rw [← e] at hq
        rcases (hP.mem p q (by rw [folOf_len]; omega)).1 hq with h2 | ⟨_, h2⟩ | ⟨_, _, h2⟩
        · exact hbd p hpm q h2
        · exact htb q h2
        · exact htb q (List.mem_of_mem_take h2)
      refine W.seq ?_
      refine W.region ?_
      refine W.q (Ev.lti (.t rfl) (.t rfl)) rfl ?_
      refine W.nil ?_
      refine W.then ?_
      refine W.seq ?_
      refine W.is (t := 19) (g := true) (av' := .lit (.bool true)) rfl (congrArg (fun b => AV.lit (.bool b)) (by exact decide_eq_true (by omega))) ?_
      refine W.condT (.t rfl) ?_
      refine W.skip ?_
      refine W.then ?_
      refine W.seq ?_
      refine W.block ?_
      refine W.seq ?_
      refine W.region ?_
      refine W.q (Ev.ata 1 (.t rfl) rfl (.t rfl) Tryz.underlying22 ty3 (fun _ => by omega)) rfl ?_
      refine W.q (Ev.lda1 1 j 0 (.t rfl) rfl hgk (by omega) rfl rfl rfl ag3) rfl ?_
      refine W.q (Ev.assign (.t rfl)) rfl ?_
      refine W.nil ?_
      refine W.perm (rowsM_out 3 R p hpR [_, _, _, _, _]) ?_
      rw [hz]
      dsimp only
      refine W.arr_inv 0 rfl (fun a9 n9 c9 hv9 => ?_)
      subst hv9
      have hgv := rowsV_get R p hpR
      rw [hz] at hgv
      refine W.then ?_
      refine W.seq ?_
      refine W.region ?_
      refine W.q (Ev.move (.t rfl)) rfl ?_
      refine W.q (Ev.nilc (.t rfl)) rfl ?_
      (refine W.q (Ev.fab (.t rfl) fa89_1) rfl ?_)
      (refine W.q (Ev.ldb1 3 (.t rfl) rfl ag25 rfl) rfl ?_)
      refine W.q (Ev.move (.t rfl)) rfl ?_
      refine W.q (Ev.ata 5 (.t rfl) rfl (.t rfl) Tryz.underlying25 ty22 (fun _ => by rw [rowsV_len]; omega)) rfl ?_
      refine W.q (Ev.lda1 5 p 0 (.t rfl) rfl hgv (by omega) rfl rfl rfl ag22) rfl ?_
      refine W.q (Ev.move (.t rfl)) rfl ?_
      refine W.call (WHas.c_ContainsA (.slice a9 n9 c9) l k (by omega)) ⟨(.t rfl), (.t rfl), trivial⟩ (.refl _) rfl ?_
      rintro _ _ ⟨rfl, rfl⟩
      refine W.q (Ev.not (.t rfl)) rfl ?_
      refine W.nil ?_
      refine W.then ?_
      refine W.cond (.t rfl) (fun hc_t31 => ?_) (fun hc_t31 => ?_)
      · have hkl : k ∉ l := by simpa using hc_t31
        have hFl : (folOf R).getD p [] = l := by rw [folOf_get, hz]
        refine W.drawnE (ι := Value) (fun ee c => (bif ee 14 then ME.arr c 3 1 (l.map natv ++ [natv k]) else ME.arr (.slice a9 n9 c9) 3 1 (l.map natv)) :: ([.arr v1 3 1 (fr.map natv), .arr v2 3 1 (to.map natv), .box b 89 [.lit vT, .lit vF, .lit (.slice none 0 0), .lit (.slice none 0 0), .bool false], .arr vT 3 1 (tys.map AV.int), .arr vF 22 1 (bif ee 16 then (rowsV R).set p (.lit c) else rowsV R)] ++ (rowsM 3 (R.take p) ++ rowsM 3 (R.drop (p + 1))))) 14 (.slice a9 n9 c9) (by kernel_rfl) (by kernel_rfl) rfl ?_
        refine DE.q (fun e c hk => (Ev.move (.t rfl))) rfl (fun _ _ => rfl) (by (exact .inr (fun _ _ => rfl))) ?_
        refine DE.q (fun e c hk => (Ev.nilc (.t rfl))) rfl (fun _ _ => rfl) (by (exact .inr (fun _ _ => rfl))) ?_
        (refine DE.q (fun e c hk => (Ev.fab (.t rfl) fa89_1)) rfl (fun _ _ => rfl) (by (exact .inr (fun _ _ => rfl))) ?_)
        (refine DE.q (fun e c hk => (Ev.ldb1 3 (.t rfl) rfl ag25 rfl)) rfl (fun _ _ => rfl) (by (exact .inr (fun _ _ => rfl))) ?_)
        refine DE.q (fun e c hk => (Ev.move (.t rfl))) rfl (fun _ _ => rfl) (by (exact .inr (fun _ _ => rfl))) ?_
        refine DE.q (fun e c hk => (Ev.move (.t rfl))) rfl (fun _ _ => rfl) (by (exact .inr (fun _ _ => rfl))) ?_
        refine DE.q (fun e c hk => (Ev.nilc (.t rfl))) rfl (fun _ _ => rfl) (by (exact .inr (fun _ _ => rfl))) ?_
        (refine DE.q (fun e c hk => (Ev.fab (.t rfl) fa89_1)) rfl (fun _ _ => rfl) (by (exact .inr (fun _ _ => rfl))) ?_)
        (refine DE.q (fun e c hk => (Ev.ldb1 3 (.t rfl) rfl ag25 rfl)) rfl (fun _ _ => rfl) (by (exact .inr (fun _ _ => rfl))) ?_)
        refine DE.q (fun e c hk => (Ev.move (.t rfl))) rfl (fun _ _ => rfl) (by (exact .inr (fun _ _ => rfl))) ?_
        refine DE.q (av := fun _ => .aptr vF ((p : Int).toNat * 1)) (fun e c hk => by have h := hk.down 16 (by kernel_rfl); simp only [h, cond_false]; exact Ev.ata 5 (.t rfl) rfl (.t rfl) Tryz.underlying25 ty22 (fun _ => by rw [rowsV_len]; omega)) rfl (fun _ _ => rfl) (by (exact .inr (fun _ _ => rfl))) ?_
        refine DE.q (av := fun _ => .lit (.slice a9 n9 c9)) (fun e c hk => by have h := hk.down 16 (by kernel_rfl); simp only [h, cond_false]; exact Ev.lda1 5 p 0 (.t rfl) rfl hgv (by omega) rfl rfl rfl ag22) rfl (fun _ _ => rfl) (by (exact .inr (fun _ _ => rfl))) ?_
        refine DE.q (fun e c hk => (Ev.move (.t rfl))) rfl (fun _ _ => rfl) (by (exact .inr (fun _ _ => rfl))) ?_
        refine DE.bs (es := fun _ => [_]) Tryz.underlying22 ty3 (fun c => ⟨rfl, (.t rfl), rfl, rfl, trivial⟩) (fun _ => rfl) (by decide) rfl rfl (fun _ _ => rfl) (by (exact .inr (fun _ _ => rfl))) ?_
        refine DE.eff1 (av := fun v => .lit v) rfl rfl (fun e c hk L_ hs Q h => ?_) ?_
        · have hk_14 := hk.not
          have hk_16 := hk.down 16 (by kernel_rfl)
          simp only [addE, hk_14, hk_16, Nat.reduceAdd, Nat.reduceEqDiff, ↓reduceIte, cond_true, cond_false] at h ⊢
          ((refine W.app 0 (.t (hs _ _ rfl)) rfl (.sl (.t (hs _ _ rfl)) (by intro e he; rw [List.mem_singleton.1 he]; rfl)) Tryz.underlying22 ni22 ty3 rfl rfl (by rw [List.length_map]; simp only [List.length_cons, List.length_nil]; omega) rfl ?_; exact h))
        refine DE.q (av := fun _ => .aptr vF ((p : Int).toNat * 1)) (fun e c hk => by have h := hk.down 16 (by kernel_rfl); simp only [h, cond_false]; exact Ev.ata 5 (.t rfl) rfl (.t rfl) Tryz.underlying25 ty22 (fun _ => by rw [rowsV_len]; omega)) rfl (fun _ _ => rfl) (by (exact .inr (fun _ _ => rfl))) ?_
        refine DE.eff0 (fun e c hk L_ hs Q h => ?_) ?_
        · have hk_16 := hk.not
          have hk_14 := hk.up 14 (by kernel_rfl)
          simp only [addE, hk_16, hk_14, Nat.reduceAdd, Nat.reduceEqDiff, ↓reduceIte, cond_true, cond_false] at h ⊢
          refine W.arr_inv 0 rfl (fun a8 n8 c8 h8 => ?_)
          subst h8
          refine W.sta 5 p 0 (e := .lit (.slice a9 n9 c9)) (e' := .lit (.slice a8 n8 c8)) (.t (hs _ _ rfl)) (.t (hs _ _ rfl)) rfl hgv (by omega) ty22 rfl rfl rfl rfl rfl rfl rfl ?_
          exact h
        refine DE.nil (fun v46 e_ he_ => ?_)
        simp only [he_ 14 (by decide), he_ 16 (by decide), cond_true, cond_false]
        refine W.blk_normal ?_
        refine W.then ?_
        refine W.region ?_
        (refine W.q (Ev.add (.t rfl) .k (fun _ => by omega)) rfl ?_)
        refine W.q (Ev.move (.t rfl)) rfl ?_
        refine W.nil ?_
        refine W.then ?_
        have h9 := hP.add hi hj (by rw [folOf_len, ← hp0, ← hRl]; exact hpR) (by rw [← hp0, hFl, ← hk0]; exact hkl)
        rw [← hp0, ← hk0, hFl, show (folOf R).set p (l ++ [k]) = folOf (R.set p (v46, l ++ [k])) from (folOf_set R p (v46, l ++ [k])).symm] at h9
        refine W.reach (D := []) (j + 1, R.set p (v46, l ++ [k])) ⟨rfl, rfl, rfl, rfl, rfl, rfl, rfl, rfl, rfl, trivial⟩ ?_ ⟨⟨h9, hj, by dsimp only; rw [List.length_set]; exact hRl⟩, by show to.length - (j + 1) < to.length - j; omega⟩
        rw [List.append_nil]
        dsimp only
        rw [← rowsV_set R p (v46, l ++ [k])]
        have h8 := rowsM_in 3 R p (v46, l ++ [k]) hpR [.arr v1 3 1 (fr.map natv), .arr v2 3 1 (to.map natv), .box b 89 [.lit vT, .lit vF, .lit (.slice none 0 0), .lit (.slice none 0 0), .bool false], .arr vT 3 1 (tys.map AV.int), .arr vF 22 1 ((rowsV R).set p (.lit v46))]
        rw [List.map_append] at h8
        exact h8
      · have hkl : k ∈ l := by simpa using hc_t31
        have hFl : (folOf R).getD p [] = l := by rw [folOf_get, hz]
        refine W.skip ?_
        refine W.blk_normal ?_
        refine W.then ?_
        refine W.region ?_
        (refine W.q (Ev.add (.t rfl) .k (fun _ => by omega)) rfl ?_)
        refine W.q (Ev.move (.t rfl)) rfl ?_
        refine W.nil ?_
        refine W.then ?_
        have h9 := hP.skip hi hj (by rw [folOf_len, ← hp0, ← hRl]; exact hpR) (by rw [← hp0, hFl, ← hk0]; exact hkl)
        refine W.reach (D := []) (j + 1, R) ⟨rfl, rfl, rfl, rfl, rfl, rfl, rfl, rfl, rfl, trivial⟩ ?_ ⟨⟨h9, hj, hRl⟩, by show to.length - (j + 1) < to.length - j; omega⟩
        rw [List.append_nil]
        dsimp only
        have h8 := (rowsM_out 3 R p hpR [.arr v1 3 1 (fr.map natv), .arr v2 3 1 (to.map natv), .box b 89 [.lit vT, .lit vF, .lit (.slice none 0 0), .lit (.slice none 0 0), .bool false], .arr vT 3 1 (tys.map AV.int), .arr vF 22 1 (rowsV R)]).symm
        rw [hz] at h8
        exact h8
    · subst hend
      refine W.seq ?_
      refine W.region ?_
      refine W.q (Ev.lti (.t rfl) (.t rfl)) rfl ?_
      refine W.nil ?_
      refine W.then ?_
      refine W.seq ?_
      refine W.is (t := 19) (g := true) (av' := .lit (.bool false)) rfl (congrArg (fun b => AV.lit (.bool b)) (by exact decide_eq_false (by omega))) ?_
      refine W.condF (.t rfl) ?_
      refine W.exit ?_
      refine W.then_exit ?_
      refine W.then_exit ?_
      refine W.blk_hit ?_
      refine W.blk_normal ?_
      refine W.then ?_
      refine W.region ?_
      (refine W.q (Ev.add (.t rfl) .k (fun _ => by omega)) rfl ?_)
      refine W.q (Ev.move (.t rfl)) rfl ?_
      refine W.nil ?_
      refine W.then ?_
      refine W.reach (D := []) (i + 1, R) ⟨rfl, rfl, rfl, rfl, rfl, trivial⟩ (by rw [List.append_nil]) ⟨⟨hP.row hi, hi, hRl⟩, by show fr.length - (i + 1) < fr.length - i; omega⟩
  · subst hend
    refine W.seq ?_
    refine W.region ?_
    refine W.q (Ev.lti (.t rfl) (.t rfl)) rfl ?_
    refine W.nil ?_
    refine W.then ?_
    refine W.seq ?_
    refine W.is (t := 13) (g := true) (av' := .lit (.bool false)) rfl (congrArg (fun b => AV.lit (.bool b)) (by exact decide_eq_false (by omega))) ?_
    refine W.condF (.t rfl) ?_
    refine W.exit ?_
    refine W.then_exit ?_
    refine W.then_exit ?_
    refine W.blk_hit ?_
    refine W.endn (M' := (.arr v1 3 1 (fr.map natv) :: .arr v2 3 1 (to.map natv) :: .box b 89 [.lit vT, .lit vF, .lit (.slice none 0 0), .lit (.slice none 0 0), .bool false] :: .arr vT 3 1 (tys.map AV.int) :: .arr vF 22 1 (rowsV R) :: rowsM 3 R)) (D := []) (rs := []) (avs := []) Tryz.results63 trivial rfl (by rw [List.append_nil]) ?_
    exact ⟨rfl, R, hP.done, hRl, rfl⟩

end WLink

end Go.Proofs.YtacaemfkdieocaaGreatDoor
end
